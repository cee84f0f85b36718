/- The plain laws of Join: the sectors at the beginning of a list and the record that they hold. No conditions. -/
import Derived.Test.YtkpfkknldeafkaaSecSplit
namespace Go.Proofs.Ytkpfkknldeafkaa
open Go.RowKit

def emptyB (l : List UInt8) : Bool := l.isEmpty
/-- the data of the first k sectors, one behind the other -/
def cat (L : List (List UInt8)) (k : Nat) : List UInt8 := (L.take k).flatMap fun s => (openS s).2.1
/-- sector i is piece i of q, of generation g -/
def goodAt (g q : Int) (L : List (List UInt8)) (i : Nat) : Prop :=
  ∃ s, L[i]? = some s ∧ (openS s).2.2 = 0 ∧ (openS s).1 = (g, (i : Int), q) ∧ ((i : Int) < q - 1 → (openS s).2.1.length = 40) ∧ (0 < i → (openS s).2.1 ≠ [])
def joinFail : List UInt8 × Int × Int × Bool := ([], 0, 0, false)
def joinS (L : List (List UInt8)) (least most : Int) : List UInt8 × Int × Int × Bool :=
  match L[0]? with
  | none => joinFail
  | some s =>
    if (openS s).2.2 = 0 ∧ least ≤ (openS s).1.1 ∧ (openS s).1.1 ≤ most ∧ (openS s).1.2.2 ≤ L.length then
      (if (∀ i, i < (openS s).1.2.2.toNat → (openS (L.getD i [])).2.2 = 0) ∧ splitS (openS s).1.1 (cat L (openS s).1.2.2.toNat) = (L.take (openS s).1.2.2.toNat, 0) then (cat L (openS s).1.2.2.toNat, (openS s).1.1, (openS s).1.2.2, true) else joinFail)
    else joinFail

set_option maxRecDepth 100000 in
theorem openS_len (s : List UInt8) : (openS s).2.1.length ≤ 40 := by
  unfold openS
  split
  · simp
  · split
    · simp
    · split
      · next h =>
        split
        · rw [List.length_take]; omega
        · simp
      · simp
set_option maxRecDepth 100000 in
theorem openS_err (s : List UInt8) : (openS s).2.2 = 0 ∨ (openS s).2.2 = 6 ∨ (openS s).2.2 = 20 := by
  unfold openS
  split
  · simp
  · split
    · simp
    · split
      · split <;> simp
      · simp
set_option maxRecDepth 100000 in
theorem openS_ok {s : List UInt8} (h : (openS s).2.2 = 0) : ∃ g p q : Nat, ∃ d : List UInt8, openS s = (((g : Int), (p : Int), (q : Int)), d, 0) ∧ stampB g p q = true ∧ d.length ≤ 40 ∧ sealedL g p q d = s := by
  unfold openS at h ⊢
  split at h
  · simp at h
  · next h1 =>
    rw [if_neg h1]
    split at h
    · simp at h
    · next h2 =>
      rw [if_neg h2]
      split at h
      · next h3 =>
        rw [if_pos h3]
        split at h
        · next h4 =>
          rw [if_pos h4]
          exact ⟨_, _, _, _, rfl, h3.1, by rw [List.length_take]; omega, h4⟩
        · simp at h
      · simp at h
theorem cat_succ (L : List (List UInt8)) (k : Nat) (h : k < L.length) : cat L (k + 1) = cat L k ++ (openS L[k]).2.1 := by
  unfold cat; rw [List.take_succ_eq_append_getElem h, List.flatMap_append]; simp
set_option maxRecDepth 100000 in
theorem cat_len (L : List (List UInt8)) (k : Nat) : (cat L k).length ≤ 40 * k := by
  induction k with
  | zero => simp [cat]
  | succ k ih =>
    by_cases h : k < L.length
    · rw [cat_succ L k h, List.length_append]; have := openS_len L[k]; omega
    · have e : cat L (k + 1) = cat L k := by unfold cat; rw [List.take_of_length_le (by omega), List.take_of_length_le (by omega)]
      rw [e]; omega

theorem join_first (L : List (List UInt8)) (h : 0 < L.length) (least most g p q : Int) (d : List UInt8) (er : Int) (ho : openS L[0] = ((g, p, q), d, er)) :
    joinS L least most = if er = 0 ∧ least ≤ g ∧ g ≤ most ∧ q ≤ L.length then
      (if (∀ i, i < q.toNat → (openS (L.getD i [])).2.2 = 0) ∧ splitS g (cat L q.toNat) = (L.take q.toNat, 0) then (cat L q.toNat, g, q, true) else joinFail) else joinFail := by
  unfold joinS
  rw [List.getElem?_eq_getElem h]
  simp only [ho]
set_option maxRecDepth 100000 in
theorem good_len {g : Int} {n : Nat} {L : List (List UInt8)} (h : ∀ i, i < n → goodAt g n L i) : ∀ k, k < n → (cat L k).length = 40 * k := by
  intro k hk
  induction k with
  | zero => simp [cat]
  | succ k ih =>
    obtain ⟨s, hs, _, _, h3, _⟩ := h k (by omega)
    have hkl : k < L.length := by
      rcases Nat.lt_or_ge k L.length with h' | h'
      · exact h'
      · rw [List.getElem?_eq_none h'] at hs; cases hs
    rw [List.getElem?_eq_getElem hkl] at hs
    simp only [Option.some.injEq] at hs
    subst hs
    rw [cat_succ L k hkl, List.length_append, ih (by omega), h3 (by omega)]; omega
set_option maxRecDepth 100000 in
theorem cat_prefix (L : List (List UInt8)) (k m : Nat) (h : k ≤ m) : ∃ r, cat L m = cat L k ++ r := by
  refine ⟨((L.take m).drop k).flatMap fun s => (openS s).2.1, ?_⟩
  unfold cat
  rw [← List.flatMap_append]
  congr 1
  have := List.take_append_drop k (L.take m)
  rw [List.take_take, Nat.min_eq_left h] at this
  exact this.symm
set_option maxRecDepth 100000 in
theorem be_take (g p q n : Nat) (R : List UInt8) : fld (headL g p q n ++ R) 0 6 = num (be g 6) ∧ fld (headL g p q n ++ R) 6 2 = num (be p 2) ∧ fld (headL g p q n ++ R) 8 2 = num (be q 2) ∧ fld (headL g p q n ++ R) 10 2 = num (be n 2) := by
  have e0 : headL g p q n ++ R = be g 6 ++ (be p 2 ++ (be q 2 ++ (be n 2 ++ R))) := by simp [headL, List.append_assoc]
  have e1 : headL g p q n ++ R = (be g 6 ++ be p 2) ++ (be q 2 ++ (be n 2 ++ R)) := by simp [headL, List.append_assoc]
  have e2 : headL g p q n ++ R = (be g 6 ++ be p 2 ++ be q 2) ++ (be n 2 ++ R) := by simp [headL, List.append_assoc]
  refine ⟨?_, ?_, ?_, ?_⟩
  · unfold fld; rw [e0, List.drop_zero, List.take_left' (be_length _ _)]
  · unfold fld; rw [e0, List.drop_left' (be_length _ _), List.take_left' (be_length _ _)]
  · unfold fld; rw [e1, List.drop_left' (by simp [be_length]), List.take_left' (be_length _ _)]
  · unfold fld; rw [e2, List.drop_left' (by simp [be_length]), List.take_left' (be_length _ _)]
set_option maxRecDepth 100000 in
/-- a sealed sector opens to its stamp and data -/
theorem openS_sealed (g p q : Nat) (d : List UInt8) (hs : stampB g p q = true) (hd : d.length ≤ 40) : openS (sealedL g p q d) = (((g : Int), (p : Int), (q : Int)), d, 0) := by
  have hb := (stampB_iff _ _ _).1 hs
  have hlen := sealedL_length g p q d hd
  have e : sealedL g p q d = headL g p q d.length ++ (lit (crc (headL g p q d.length ++ bodyL d)) 4 ++ (bodyL d ++ markL g p)) := by simp [sealedL, List.append_assoc]
  obtain ⟨f1, f2, f3, f4⟩ := be_take g p q d.length (lit (crc (headL g p q d.length ++ bodyL d)) 4 ++ (bodyL d ++ markL g p))
  rw [← e] at f1 f2 f3 f4
  rw [num_be _ _ (by omega)] at f1 f2 f3 f4
  have hdata : ((sealedL g p q d).drop 16).take d.length = d := by
    have e2 : sealedL g p q d = (headL g p q d.length ++ lit (crc (headL g p q d.length ++ bodyL d)) 4) ++ (d ++ (List.replicate (40 - d.length) 0 ++ markL g p)) := by simp [sealedL, bodyL, List.append_assoc]
    rw [e2, List.drop_left' (by simp [headL_length, lit_length]), List.take_left' rfl]
  unfold openS
  rw [if_neg (by omega), if_neg (by omega), f1, f2, f3, f4, if_pos ⟨hs, hd⟩, hdata, if_pos rfl]
set_option maxRecDepth 100000 in
/-- only sealed sectors open -/
theorem openS_iff (s : List UInt8) (g p q : Nat) (d : List UInt8) : openS s = (((g : Int), (p : Int), (q : Int)), d, 0) ↔ stampB g p q = true ∧ d.length ≤ 40 ∧ s = sealedL g p q d := by
  constructor
  · intro h
    obtain ⟨g', p', q', d', h1, h2, h3, h4⟩ := openS_ok (s := s) (by rw [h])
    rw [h] at h1
    simp only [Prod.mk.injEq, Int.natCast_inj] at h1
    obtain ⟨⟨rfl, rfl, rfl⟩, rfl, _⟩ := h1
    exact ⟨h2, h3, h4.symm⟩
  · rintro ⟨h1, h2, rfl⟩
    exact openS_sealed g p q d h1 h2

set_option maxRecDepth 100000 in
theorem good_at {g : Int} {n k : Nat} {L : List (List UInt8)} (h : goodAt g n L k) : ∃ (hk : k < L.length) (d : List UInt8), openS L[k] = ((g, (k : Int), (n : Int)), d, 0) ∧ ((k : Int) < (n : Int) - 1 → d.length = 40) ∧ (0 < k → d ≠ []) ∧ 1 ≤ g ∧ g ≤ 1099511627776 ∧ n ≤ 1024 ∧ d.length ≤ 40 ∧ sealedL g.toNat k n d = L[k] := by
  obtain ⟨s, hs, h1, h2, h3, h4⟩ := h
  have hkl : k < L.length := by
    rcases Nat.lt_or_ge k L.length with h' | h'
    · exact h'
    · rw [List.getElem?_eq_none h'] at hs; cases hs
  rw [List.getElem?_eq_getElem hkl] at hs
  simp only [Option.some.injEq] at hs
  subst hs
  obtain ⟨g', p', q', d', e1, e2, e3, e4⟩ := openS_ok h1
  rw [e1] at h2 h3 h4
  simp only [Prod.mk.injEq] at h2
  obtain ⟨rfl, hp, hq⟩ := h2
  have hp' : p' = k := by omega
  have hq' : q' = n := by omega
  subst hp' hq'
  have hb := (stampB_iff _ _ _).1 e2
  exact ⟨hkl, d', e1, h3, h4, by omega, by omega, by omega, e3, by rw [Int.toNat_natCast]; exact e4⟩

set_option maxRecDepth 100000 in
theorem cat_piece (L : List (List UInt8)) (g : Int) (n : Nat) (h : ∀ i, i < n → goodAt g n L i) (i : Nat) (hi : i < n) (hil : i < L.length) : ((cat L n).drop (i * 40)).take 40 = (openS L[i]).2.1 := by
  have hlen := good_len h i hi
  obtain ⟨_, d, ho, h3, _, _, _, _, hd, _⟩ := good_at (h i hi)
  obtain ⟨r, hr⟩ := cat_prefix L (i + 1) n (by omega)
  rw [cat_succ L i hil, ho] at hr
  simp only at hr
  rw [hr, List.append_assoc, List.drop_left' (by omega), ho]
  simp only
  by_cases hlast : (i : Int) < (n : Int) - 1
  · rw [List.take_left' (h3 hlast)]
  · have hin : n = i + 1 := by omega
    have hr0 : r = [] := by
      have e := congrArg List.length hr
      subst hin
      rw [cat_succ L i hil, ho] at e
      simp only [List.length_append] at e
      exact List.eq_nil_of_length_eq_zero (by omega)
    rw [hr0, List.append_nil, List.take_of_length_le hd]
set_option maxRecDepth 100000 in
theorem cat_total (L : List (List UInt8)) (g : Int) (n : Nat) (h : ∀ i, i < n → goodAt g n L i) (hn : 1 ≤ n) : pieces (cat L n).length = n := by
  have hlen := good_len h (n - 1) (by omega)
  obtain ⟨hkl, d, ho, _, h4, _, _, _, hd, _⟩ := good_at (h (n - 1) (by omega))
  have e : cat L n = cat L (n - 1) ++ d := by
    have := cat_succ L (n - 1) hkl
    rw [ho, show n - 1 + 1 = n by omega] at this
    exact this
  rw [e, List.length_append, hlen]
  unfold pieces
  by_cases h1 : n = 1
  · subst h1; simp; omega
  · have : d ≠ [] := h4 (by omega)
    have : 0 < d.length := List.length_pos_iff.2 this
    omega
set_option maxRecDepth 100000 in
theorem join_good (L : List (List UInt8)) (g : Int) (n : Nat) (hn : 1 ≤ n) (hnl : n ≤ L.length) (h : ∀ i, i < n → goodAt g n L i) :
    (∀ i, i < (n : Int).toNat → (openS (L.getD i [])).2.2 = 0) ∧ splitS g (cat L (n : Int).toNat) = (L.take (n : Int).toNat, 0) := by
  rw [Int.toNat_natCast]
  constructor
  · intro i hi
    obtain ⟨hkl, d, ho, _⟩ := good_at (h i hi)
    rw [List.getD_eq_getElem?_getD, List.getElem?_eq_getElem hkl]
    simp [ho]
  · obtain ⟨_, _, _, _, _, g1, g2, n1, _, _⟩ := good_at (h 0 (by omega))
    have hp := cat_total L g n h hn
    unfold splitS
    rw [if_neg (by omega), hp, if_neg (by omega)]
    congr 1
    apply List.ext_getElem
    · rw [secs_length, List.length_take]; omega
    · intro i hi1 hi2
      rw [secs_length] at hi1
      obtain ⟨hkl, d, ho, _, _, _, _, _, _, hs⟩ := good_at (h i hi1)
      have := cat_piece L g n h i hi1 hkl
      simp only [secs, List.getElem_map, List.getElem_range, List.getElem_take]
      unfold secAt
      rw [hp, this, ho]
      exact hs
set_option maxRecDepth 100000 in
theorem split_ok {g : Int} {l : List UInt8} {S : List (List UInt8)} (h : splitS g l = (S, 0)) : 1 ≤ g ∧ g ≤ 1099511627776 ∧ pieces l.length ≤ 1024 ∧ S = secs g.toNat l (pieces l.length) := by
  unfold splitS at h
  by_cases h1 : g < 1 ∨ 1099511627776 < g
  · rw [if_pos h1] at h; simp at h
  · rw [if_neg h1] at h
    by_cases h2 : 1024 < pieces l.length
    · rw [if_pos h2] at h; simp at h
    · rw [if_neg h2] at h
      simp only [Prod.mk.injEq, and_true] at h
      exact ⟨by omega, by omega, by omega, h.symm⟩
theorem sec_opens (g : Nat) (l : List UInt8) (hg : 1 ≤ g ∧ g ≤ 1099511627776) (hp : pieces l.length ≤ 1024) (k : Nat) (hk : k < pieces l.length) :
    openS (secAt g l k) = (((g : Int), (k : Int), (pieces l.length : Int)), (l.drop (k * 40)).take 40, 0) := by
  unfold secAt
  refine openS_sealed _ _ _ _ ?_ (by rw [List.length_take]; omega)
  rw [stampB_iff]
  refine ⟨?_, ?_, ?_, ?_, ?_, ?_⟩ <;> omega
set_option maxRecDepth 100000 in
theorem sec_good (g : Nat) (l : List UInt8) (hg : 1 ≤ g ∧ g ≤ 1099511627776) (hp : pieces l.length ≤ 1024) (L : List (List UInt8)) (hL : ∀ k, k < pieces l.length → L[k]? = some (secAt g l k)) (k : Nat) (hk : k < pieces l.length) :
    goodAt g (pieces l.length) L k := by
  refine ⟨_, hL k hk, ?_, ?_, ?_, ?_⟩ <;> rw [sec_opens g l hg hp k hk]
  · intro h
    have : (k + 1) * 40 ≤ l.length := by
      have h1 : (k : Int) < (pieces l.length : Int) - 1 := h
      unfold pieces at h1; omega
    simp only [List.length_take, List.length_drop]; omega
  · intro h he
    have : k * 40 < l.length := by unfold pieces at hk; omega
    have e := congrArg List.length he
    simp only [List.length_take, List.length_drop, List.length_nil] at e
    omega
set_option maxRecDepth 100000 in
theorem join_bad (L : List (List UInt8)) (g : Int) (n : Nat) (hnl : n ≤ L.length) (k : Nat) (hk : k < n) (h : ¬ goodAt g n L k) : ¬ ((∀ i, i < (n : Int).toNat → (openS (L.getD i [])).2.2 = 0) ∧ splitS g (cat L (n : Int).toNat) = (L.take (n : Int).toNat, 0)) := by
  rintro ⟨_, hs⟩
  rw [Int.toNat_natCast] at hs
  obtain ⟨h1, h2, h3, h4⟩ := split_ok hs
  have hn : n = pieces (cat L n).length := by
    have := congrArg List.length h4
    rw [List.length_take, secs_length] at this; omega
  apply h
  have hL : ∀ i, i < pieces (cat L n).length → L[i]? = some (secAt g.toNat (cat L n) i) := by
    intro i hi
    have e : (L.take n)[i]? = some (secAt g.toNat (cat L n) i) := by rw [h4]; simp [secs, hi]
    rw [List.getElem?_take] at e
    split at e
    · exact e
    · cases e
  have := sec_good g.toNat (cat L n) (by omega) h3 L hL k (by omega)
  rw [← hn, Int.toNat_of_nonneg (by omega)] at this
  exact this
end Go.Proofs.Ytkpfkknldeafkaa
