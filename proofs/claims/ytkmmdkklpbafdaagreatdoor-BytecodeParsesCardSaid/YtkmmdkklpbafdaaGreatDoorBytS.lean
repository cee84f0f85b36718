/- Layer 16, plain: a path through valid code, and the targets of code. No conditions. -/
import Derived.Test.YtkmmdkklpbafdaaGreatDoorBytR
import Derived.Lib.SlicesCompact
namespace Go.Proofs.YtkmmdkklpbafdaaGreatDoor
open Go.RowKit

def depth0 (c : Cd) : List Int := depR 0 c.l
theorem depR_succ : ∀ (l : List Ins) (d : Int) (k : Nat), k + 1 < l.length → (depR d l).getD (k + 1) 0 = if leaI (l.getD k ins0) = true then 0 else behI ((depR d l).getD k 0) (l.getD k ins0)
  | [], _, _, h => by simp at h
  | [_], _, k, h => by simp at h
  | x :: y :: r, d, 0, _ => rfl
  | x :: y :: r, d, k + 1, h => depR_succ (y :: r) (if leaI x = true then 0 else behI d x) k (by simpa using h)
theorem all_get {α : Type} {p : α → Bool} {l : List α} (h : l.all p = true) {k : Nat} (hk : k < l.length) (d : α) : p (l.getD k d) = true := by
  rw [List.getD_eq_getElem?_getD, List.getElem?_eq_getElem hk]
  exact List.all_eq_true.1 h _ (List.getElem_mem hk)
theorem zip_get : ∀ (l : List Ins) (D : List Int) (k : Nat), k < l.length → D.length = l.length → (l.zip D).getD k (ins0, 0) = (l.getD k ins0, D.getD k 0)
  | [], _, _, h, _ => by simp at h
  | _ :: _, [], _, _, h => by simp at h
  | x :: r, d :: D, 0, _, _ => rfl
  | x :: r, d :: D, k + 1, h, h2 => zip_get r D k (by simpa using h) (by simpa using h2)
theorem last_get {l : List Ins} {k : Nat} (h : k + 1 = l.length) : lastI l = l.getD k ins0 := by
  unfold lastI
  rw [List.getLastD_eq_getLast?, List.getLast?_eq_getElem?, List.getD_eq_getElem?_getD]
  rw [show l.length - 1 = k by omega]
theorem depR_zero (c : Cd) : (depth0 c).getD 0 0 = 0 := by
  unfold depth0; cases c.l <;> rfl
set_option maxRecDepth 100000 in
/-- what an instruction of valid code finds -/
theorem step_ok {c : Cd} (h : valC c = 0) {k : Nat} (hk : k < c.l.length) :
    takeI (c.l.getD k ins0) ≤ (depth0 c).getD k 0 ∧ behI ((depth0 c).getD k 0) (c.l.getD k ins0) ≤ 64 ∧
    (leaI (c.l.getD k ins0) = true ∨ (c.l.getD k ins0).op = 7 → behI ((depth0 c).getD k 0) (c.l.getD k ins0) = 0) ∧
    (jmpI (c.l.getD k ins0) = true → 0 ≤ (c.l.getD k ins0).a ∧ (c.l.getD k ins0).a < (c.l.length : Int) ∧ (depth0 c).getD (c.l.getD k ins0).a.toNat 0 = 0) ∧
    (leaI (c.l.getD k ins0) = false → k + 1 < c.l.length ∧ (depth0 c).getD (k + 1) 0 = behI ((depth0 c).getD k 0) (c.l.getD k ins0)) := by
  obtain ⟨h1, h2, h3, h4, h5, h6, h7, h8, h9⟩ := valC_parts h
  have hg := depG_ok c.l 0 []
  have ho : (c.l.zip (depR 0 c.l)).all okP = true := by
    cases e : (c.l.zip (depR 0 c.l)).all okP with
    | true => rfl
    | false => rw [hg.2 e] at h7; cases h7
  rw [hg.1 ho] at h9
  simp only [List.nil_append] at h9
  have hl := depR_length 0 c.l
  have hz := all_get ho (k := k) (by rw [List.length_zip, hl]; omega) (ins0, 0)
  rw [zip_get _ _ _ hk hl] at hz
  have hj := all_get h9 hk ins0
  have hi := all_get h5 hk ins0
  unfold depth0
  have hs := depR_succ c.l 0 k
  generalize hx : c.l.getD k ins0 = x at hz hj hi hs
  generalize (depR 0 c.l).getD k 0 = d at hz hs
  unfold okP badI at hz
  simp only [Bool.and_eq_true, decide_eq_true_eq, Bool.not_eq_true', Bool.or_eq_false_iff, decide_eq_false_iff_not, Bool.and_eq_false_iff, ne_eq, Classical.not_not] at hz
  refine ⟨hz.1, by omega, fun hq => ?_, fun hq => ?_, fun hq => ?_⟩
  · rcases hz.2.2 with e | e
    · exact e
    · rcases hq with q | q
      · rw [q] at e; simp at e
      · exact absurd q (by simpa using e.2)
  · have hr : 0 ≤ x.a ∧ x.a < (c.l.length : Int) := by
      unfold insS at hi
      simp only [Bool.and_eq_true, decide_eq_true_eq] at hi
      have h6 : x.op = 6 ∨ x.op = 7 := by unfold jmpI at hq; simpa using hq
      have h3 := hi.2.2
      rw [if_neg (by omega), if_neg (by omega), if_neg (by omega), if_pos h6] at h3
      unfold inR at h3; simpa using h3
    refine ⟨hr.1, hr.2, ?_⟩
    unfold jokS at hj
    rw [hq] at hj
    simp only [Bool.not_true, Bool.false_or, decide_eq_true_eq] at hj
    rw [List.getD_eq_getElem?_getD] at hj ⊢
    rw [List.getElem?_eq_getElem (by rw [hl]; omega)] at hj ⊢
    exact hj
  · have hlt : k + 1 < c.l.length := by
      rcases Nat.lt_or_ge (k + 1) c.l.length with q | q
      · exact q
      · rw [last_get (k := k) (by omega), hx, hq] at h8; cases h8
    exact ⟨hlt, by rw [hs hlt, hq]; rfl⟩
-- targets
def tgtL (l : List Ins) : List Int := (l.filter jmpI).map Ins.a
def tgtS (l : List Ins) : List Int := Lib.compact ((tgtL l).mergeSort fun x y => decide (x ≤ y))
def hasT (l : List Ins) (t : Int) : Bool := l.any fun x => jmpI x && decide (x.a = t)
def tgtR : Nat → List Ins → List Int
  | 0, _ => []
  | n + 1, l => tgtR n l ++ (if hasT l (n : Int) = true then [(n : Int)] else [])
set_option maxRecDepth 100000 in
theorem tgtR_mem : ∀ (n : Nat) (l : List Ins) (t : Int), t ∈ tgtR n l ↔ 0 ≤ t ∧ t < (n : Int) ∧ hasT l t = true
  | 0, l, t => by simp [tgtR]; omega
  | n + 1, l, t => by
    unfold tgtR
    rw [List.mem_append, tgtR_mem n l t]
    by_cases h : hasT l (n : Int) = true
    · rw [if_pos h, List.mem_singleton]
      constructor
      · rintro (q | rfl)
        · exact ⟨q.1, by omega, q.2.2⟩
        · exact ⟨by omega, by omega, h⟩
      · rintro ⟨q1, q2, q3⟩
        by_cases e : t = (n : Int)
        · exact .inr e
        · exact .inl ⟨q1, by omega, q3⟩
    · rw [if_neg h]
      simp only [List.not_mem_nil, or_false]
      constructor
      · rintro q; exact ⟨q.1, by omega, q.2.2⟩
      · rintro ⟨q1, q2, q3⟩
        refine ⟨q1, ?_, q3⟩
        have : t ≠ (n : Int) := fun e => h (by rw [← e]; exact q3)
        omega
set_option maxRecDepth 100000 in
theorem tgtR_sorted : ∀ (n : Nat) (l : List Ins), (tgtR n l).Pairwise (· < ·)
  | 0, _ => List.Pairwise.nil
  | n + 1, l => by
    unfold tgtR
    rw [List.pairwise_append]
    refine ⟨tgtR_sorted n l, by split <;> simp, fun a ha b hb => ?_⟩
    have := (tgtR_mem n l a).1 ha
    split at hb
    · rw [List.mem_singleton] at hb; omega
    · simp at hb
set_option maxRecDepth 100000 in
theorem sorted_ext : ∀ {L M : List Int}, L.Pairwise (· < ·) → M.Pairwise (· < ·) → (∀ t, t ∈ L ↔ t ∈ M) → L = M
  | [], [], _, _, _ => rfl
  | [], b :: M, _, _, h => absurd ((h b).2 (by simp)) (by simp)
  | a :: L, [], _, _, h => absurd ((h a).1 (by simp)) (by simp)
  | a :: L, b :: M, hL, hM, h => by
    rw [List.pairwise_cons] at hL hM
    have hab : a = b := by
      have h1 := (h a).1 (by simp)
      have h2 := (h b).2 (by simp)
      rcases List.mem_cons.1 h1 with e | e
      · exact e
      · rcases List.mem_cons.1 h2 with e2 | e2
        · exact e2.symm
        · have := hM.1 a e; have := hL.1 b e2; omega
    subst hab
    congr 1
    refine sorted_ext hL.2 hM.2 fun t => ?_
    constructor
    · intro ht
      rcases List.mem_cons.1 ((h t).1 (by simp [ht])) with e | e
      · have := hL.1 t ht; omega
      · exact e
    · intro ht
      rcases List.mem_cons.1 ((h t).2 (by simp [ht])) with e | e
      · have := hM.1 t ht; omega
      · exact e
set_option maxRecDepth 100000 in
/-- what stays of a sorted list is strictly ascending, with the same members -/
theorem compact_spec (L : List Int) (hs : L.Pairwise (· ≤ ·)) : (Lib.compact L).Pairwise (· < ·) ∧ ∀ t, t ∈ Lib.compact L ↔ t ∈ L := by
  have key : ∀ m, m ≤ L.length → (Lib.compactUpTo L.toArray m).Pairwise (· < ·) ∧ (∀ t, t ∈ Lib.compactUpTo L.toArray m ↔ t ∈ L.take m) := by
    intro m
    induction m with
    | zero => intro _; exact ⟨by simp [Lib.compactUpTo], fun t => by simp [Lib.compactUpTo]⟩
    | succ m ih =>
      intro hm
      obtain ⟨i1, i2⟩ := ih (by omega)
      rw [Lib.compactUpTo_succ]
      have hmm : m < L.length := by omega
      have hv : (L.toArray)[m]! = L[m] := by simp [getElem!_pos, hmm]
      have ht : L.take (m + 1) = L.take m ++ [L[m]] := List.take_succ_eq_append_getElem hmm
      have hle : ∀ t ∈ L.take m, t ≤ L[m] := by
        intro t h
        obtain ⟨j, hj, rfl⟩ := List.getElem_of_mem h
        rw [List.length_take] at hj
        rw [List.getElem_take]
        exact List.pairwise_iff_getElem.1 hs j m (by omega) hmm (by omega)
      by_cases hk : Lib.keeps L.toArray m = true
      · rw [if_pos hk, hv]
        refine ⟨?_, fun t => by rw [List.mem_append, ht, List.mem_append, i2 t]⟩
        rw [List.pairwise_append]
        refine ⟨i1, by simp, fun a ha b hb => ?_⟩
        rw [List.mem_singleton] at hb
        subst hb
        have h1 := hle a ((i2 a).1 ha)
        unfold Lib.keeps at hk
        simp only [decide_eq_true_eq] at hk
        rcases hk with h0 | hne
        · subst h0; simp [Lib.compactUpTo] at ha
        · have hm1 : m - 1 < L.length := by omega
          have hv1 : (L.toArray)[m - 1]! = L[m - 1] := by simp [getElem!_pos, hm1]
          rw [hv, hv1] at hne
          obtain ⟨j, hj, rfl⟩ := List.getElem_of_mem ((i2 a).1 ha)
          rw [List.length_take] at hj
          rw [List.getElem_take] at h1 ⊢
          have hj1 : L[j] ≤ L[m - 1] := by
            by_cases e : j = m - 1
            · subst e; exact Int.le_refl _
            · exact List.pairwise_iff_getElem.1 hs j (m - 1) (by omega) hm1 (by omega)
          have hm2 : L[m - 1] ≤ L[m] := List.pairwise_iff_getElem.1 hs (m - 1) m hm1 hmm (by omega)
          omega
      · have hk' : Lib.keeps L.toArray m = false := by simpa using hk
        rw [if_neg hk, List.append_nil]
        refine ⟨i1, fun t => ?_⟩
        rw [i2 t, ht, List.mem_append, List.mem_singleton]
        refine ⟨.inl, fun h => h.elim id fun e => ?_⟩
        unfold Lib.keeps at hk'
        simp only [decide_eq_false_iff_not, not_or, Classical.not_not] at hk'
        have hm1 : m - 1 < L.length := by omega
        have hv1 : (L.toArray)[m - 1]! = L[m - 1] := by simp [getElem!_pos, hm1]
        have := hk'.2
        rw [hv, hv1] at this
        rw [e, this]
        exact List.mem_iff_getElem.2 ⟨m - 1, by rw [List.length_take]; omega, by rw [List.getElem_take]⟩
  have h := key L.length (Nat.le_refl _)
  rw [List.take_length] at h
  exact h
theorem sort_sorted (L : List Int) : (L.mergeSort fun x y => decide (x ≤ y)).Pairwise (· ≤ ·) := by
  have := List.pairwise_mergeSort (le := fun x y : Int => decide (x ≤ y)) (fun a b c h1 h2 => by simp at h1 h2 ⊢; omega) (fun a b => by simp; omega) L
  exact this.imp (fun h => by simpa using h)
set_option maxRecDepth 100000 in
theorem hasT_iff (l : List Ins) (t : Int) : hasT l t = true ↔ t ∈ tgtL l := by
  unfold hasT tgtL
  rw [List.any_eq_true, List.mem_map]
  constructor
  · rintro ⟨x, h1, h2⟩
    simp only [Bool.and_eq_true, decide_eq_true_eq] at h2
    exact ⟨x, List.mem_filter.2 ⟨h1, h2.1⟩, h2.2⟩
  · rintro ⟨x, h1, h2⟩
    obtain ⟨h3, h4⟩ := List.mem_filter.1 h1
    exact ⟨x, h3, by rw [h4, h2]; simp⟩
set_option maxRecDepth 100000 in
/-- the program's targets are the reference's -/
theorem tgt_eq {c : Cd} (h : valC c = 0) : tgtS c.l = tgtR c.l.length c.l := by
  have hs := compact_spec _ (sort_sorted (tgtL c.l))
  refine sorted_ext hs.1 (tgtR_sorted _ _) fun t => ?_
  unfold tgtS
  rw [hs.2 t, List.mem_mergeSort, tgtR_mem, hasT_iff]
  constructor
  · intro ht
    refine (fun q : 0 ≤ t ∧ t < (c.l.length : Int) => ⟨q.1, q.2, ht⟩) ?_
    unfold tgtL at ht
    obtain ⟨x, hx, rfl⟩ := List.mem_map.1 ht
    obtain ⟨hm, hj⟩ := List.mem_filter.1 hx
    obtain ⟨k, hk, rfl⟩ := List.getElem_of_mem hm
    have e : c.l.getD k ins0 = c.l[k] := by rw [List.getD_eq_getElem?_getD, List.getElem?_eq_getElem hk]; rfl
    have := (step_ok h hk).2.2.2.1 (by rw [e]; exact hj)
    rw [e] at this
    exact ⟨this.1, this.2.1⟩
  · exact fun q => q.2.2
end Go.Proofs.YtkmmdkklpbafdaaGreatDoor
