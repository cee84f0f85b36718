/- Layer 16, plain: what the reference computes is what the program computes (depths, words, lines). No conditions. -/
import Derived.Test.YtkmmdkklpbafdaaGreatDoorBytQ
namespace Go.Proofs.YtkmmdkklpbafdaaGreatDoor
open Go.RowKit

-- depths
def depR : Int → List Ins → List Int
  | _, [] => []
  | d, x :: r => d :: depR (if leaI x = true then 0 else behI d x) r
theorem depR_length : ∀ (d : Int) (l : List Ins), (depR d l).length = l.length
  | _, [] => rfl
  | d, x :: r => by unfold depR; rw [List.length_cons, depR_length, List.length_cons]
def okP (p : Ins × Int) : Bool := decide (takeI p.1 ≤ p.2) && !badI p.2 p.1
def deepB (l : List Ins) (D : List Int) : Bool := (l.zip D).all fun p => okP p && jokS D p.1
set_option maxRecDepth 100000 in
theorem depG_ok : ∀ (l : List Ins) (d : Int) (acc : List Int), ((l.zip (depR d l)).all okP = true → depG acc d l = (acc ++ depR d l, true)) ∧ ((l.zip (depR d l)).all okP = false → depG acc d l = ([], false))
  | [], d, acc => ⟨fun _ => by simp [depG, depR], fun h => by simp [depR] at h⟩
  | x :: r, d, acc => by
    have ih := depG_ok r (if leaI x = true then 0 else behI d x) (acc ++ [d])
    show ((((x, d) :: r.zip _).all okP = true → _) ∧ (((x, d) :: r.zip _).all okP = false → _))
    by_cases h1 : d < takeI x
    · have ho : okP (x, d) = false := by unfold okP; simp; omega
      have hg : depG acc d (x :: r) = ([], false) := by rw [depG, if_pos h1]
      refine ⟨fun h => by simp [ho] at h, fun _ => hg⟩
    · by_cases h2 : badI d x = true
      · have ho : okP (x, d) = false := by unfold okP; simp [h2]
        have hg : depG acc d (x :: r) = ([], false) := by rw [depG, if_neg h1, if_pos h2]
        refine ⟨fun h => by simp [ho] at h, fun _ => hg⟩
      · have ho : okP (x, d) = true := by unfold okP; simp [h2]; omega
        have hd : (if leaI x = true then 0 else behI d x) = behI d x := by
          split
          · rename_i h3
            unfold badI at h2
            simp only [h3, Bool.true_or, Bool.and_true, Bool.or_eq_true, decide_eq_true_eq, not_or, ne_eq, Classical.not_not] at h2
            omega
          · rfl
        have hg : depG acc d (x :: r) = depG (acc ++ [d]) (behI d x) r := by rw [depG, if_neg h1, if_neg h2]
        rw [hd] at ih
        rw [hg, show depR d (x :: r) = d :: depR (behI d x) r from congrArg (fun q => d :: depR q r) hd]
        simp only [List.all_cons, ho, Bool.true_and, hd]
        refine ⟨fun h => by rw [ih.1 h]; simp, fun h => ih.2 h⟩
theorem all_and (l : List (Ins × Int)) (f g : Ins × Int → Bool) : (l.all fun p => f p && g p) = (l.all f && l.all g) := by
  induction l with
  | nil => rfl
  | cons x r ih => simp only [List.all_cons, ih]; cases f x <;> cases g x <;> simp
theorem all_fst (g : Ins → Bool) : ∀ (l : List Ins) (D : List Int), D.length = l.length → ((l.zip D).all fun p => g p.1) = l.all g
  | [], _, _ => by simp
  | x :: r, [], h => by simp at h
  | x :: r, d :: D, h => by simp only [List.zip_cons_cons, List.all_cons]; rw [all_fst g r D (by simpa using h)]
def valR (c : Cd) : Int :=
  if 4096 < c.l.length ∨ 64 < c.sl then 2 else if c.p.all tyB = false then 23 else if c.sl < (c.p.length : Int) then 23
  else if c.l.all (insS c.sl (c.l.length : Int)) = false then 23 else if deepB c.l (depR 0 c.l) = false ∨ c.l.length = 0 ∨ leaI (lastI c.l) = false then 23 else 0
set_option maxRecDepth 100000 in
theorem valR_eq (c : Cd) : valR c = valC c := by
  unfold valR valC
  have hD : deepB c.l (depR 0 c.l) = ((c.l.zip (depR 0 c.l)).all okP && c.l.all (jokS (depR 0 c.l))) := by
    unfold deepB; rw [all_and, all_fst _ _ _ (depR_length 0 c.l)]
  have hg := depG_ok c.l 0 []
  by_cases h1 : 4096 < c.l.length ∨ 64 < c.sl
  · rw [if_pos h1, if_pos h1]
  rw [if_neg h1, if_neg h1]
  by_cases h2 : c.p.all tyB = false
  · rw [if_pos h2, if_pos h2]
  rw [if_neg h2, if_neg h2]
  by_cases h3 : c.sl < (c.p.length : Int)
  · rw [if_pos h3, if_pos (.inl h3)]
  rw [if_neg h3]
  by_cases h4 : c.l.length = 0
  · rw [if_pos (Or.inr h4 : c.sl < (c.p.length : Int) ∨ c.l.length = 0)]
    rw [if_pos (Or.inr (Or.inl h4) : deepB c.l (depR 0 c.l) = false ∨ c.l.length = 0 ∨ leaI (lastI c.l) = false)]
    simp
  rw [if_neg (show ¬ (c.sl < (c.p.length : Int) ∨ c.l.length = 0) from fun h => h.elim h3 h4)]
  by_cases h5 : c.l.all (insS c.sl (c.l.length : Int)) = false
  · rw [if_pos h5, if_pos h5]
  rw [if_neg h5, if_neg h5]
  by_cases h6 : (c.l.zip (depR 0 c.l)).all okP = true
  · rw [hg.1 h6]
    simp only [List.nil_append]
    rw [hD, h6]
    simp only [Bool.true_and]
    by_cases h7 : leaI (lastI c.l) = false
    · rw [if_pos (Or.inr (Or.inr h7)), if_pos (Or.inr h7)]
    · rw [if_neg (show ¬ (true = false ∨ leaI (lastI c.l) = false) from fun h => h.elim (by simp) h7)]
      by_cases h8 : c.l.all (jokS (depR 0 c.l)) = false
      · rw [if_pos (.inl h8), if_pos h8]
      · rw [if_neg (show ¬ (_ ∨ _ ∨ _) from fun h => h.elim h8 fun h => h.elim h4 h7), if_neg h8]
  · have h6' : (c.l.zip (depR 0 c.l)).all okP = false := by simpa using h6
    rw [hg.2 h6']
    rw [hD, h6']
    simp
-- words
set_option maxRecDepth 100000 in
theorem splX_cut (x : UInt8) : ∀ l : List UInt8, splX x l = (cutX x l).1 :: (if (cutX x l).2.2 = true then splX x (cutX x l).2.1 else [])
  | [] => rfl
  | c :: r => by
    have e1 : splX x (c :: r) = if c = x then [] :: splX x r else match splX x r with | [] => [[c]] | h :: t => (c :: h) :: t := rfl
    have e2 : cutX x (c :: r) = if c = x then ([], r, true) else (c :: (cutX x r).1, (cutX x r).2.1, (cutX x r).2.2) := rfl
    rw [e1, e2]
    by_cases h : c = x
    · rw [if_pos h, if_pos h]; rfl
    · rw [if_neg h, if_neg h, splX_cut x r]
/-- the reference's parameters, of the text behind the first word -/
def parW : Nat → List Int → List UInt8 → List Int × Bool
  | 0, acc, _ => (acc, true)
  | f + 1, acc, s => if (cutX 32 s).1 = [105, 110, 116] ∨ (cutX 32 s).1 = [115, 116, 114] then
      (if (cutX 32 s).2.2 = true then parW f (acc ++ [if (cutX 32 s).1 = [115, 116, 114] then 2 else 1]) (cutX 32 s).2.1 else (acc ++ [if (cutX 32 s).1 = [115, 116, 114] then 2 else 1], true)) else ([], false)
set_option maxRecDepth 100000 in
theorem cutX_len {x : UInt8} : ∀ {l : List UInt8}, (cutX x l).2.2 = true → (cutX x l).2.1.length < l.length
  | [], h => by simp [cutX] at h
  | c :: r, h => by
    unfold cutX at h ⊢
    split
    · simp
    · rename_i hc
      rw [if_neg hc] at h
      have := cutX_len (x := x) (l := r) h
      simp only [List.length_cons]; omega
set_option maxRecDepth 100000 in
theorem cutX_fst_len {x : UInt8} : ∀ l : List UInt8, (cutX x l).1.length ≤ l.length
  | [] => by simp [cutX]
  | c :: r => by
    unfold cutX
    split
    · simp
    · have := cutX_fst_len (x := x) r
      simp only [List.length_cons]; omega
set_option maxRecDepth 100000 in
theorem cutX_snd_len {x : UInt8} : ∀ l : List UInt8, (cutX x l).2.1.length ≤ l.length
  | [] => by simp [cutX]
  | c :: r => by
    unfold cutX
    split
    · simp
    · have := cutX_snd_len (x := x) r
      simp only [List.length_cons]; omega
set_option maxRecDepth 100000 in
theorem parW_eq : ∀ (f : Nat) (acc : List Int) (s : List UInt8), s.length < f → parW f acc s = parG acc (splX 32 s)
  | 0, _, s, h => by omega
  | f + 1, acc, s, h => by
    unfold parW
    rw [splX_cut 32 s]
    unfold parG
    by_cases h1 : (cutX 32 s).1 = [105, 110, 116]
    · have h3 : ¬ (cutX 32 s).1 = [115, 116, 114] := by rw [h1]; decide
      rw [if_pos (.inl h1), if_pos h1]
      by_cases h2 : (cutX 32 s).2.2 = true
      · rw [if_pos h2, if_pos h2, parW_eq f _ _ (by have := cutX_len h2; omega), if_neg h3]
      · rw [if_neg h2, if_neg h2, if_neg h3]; rfl
    · by_cases h3 : (cutX 32 s).1 = [115, 116, 114]
      · rw [if_pos (.inr h3), if_neg h1, if_pos h3]
        by_cases h2 : (cutX 32 s).2.2 = true
        · rw [if_pos h2, if_pos h2, parW_eq f _ _ (by have := cutX_len h2; omega), if_pos h3]
        · rw [if_neg h2, if_neg h2, if_pos h3]; rfl
      · rw [if_neg (fun h => h.elim h1 h3), if_neg h1, if_neg h3]
def parPR (s : List UInt8) : List Int × Bool := if (cutX 32 s).1 = [112, 97, 114, 97, 109, 115] then (if (cutX 32 s).2.2 = true then parW (s.length + 1) [] (cutX 32 s).2.1 else ([], true)) else ([], false)
set_option maxRecDepth 100000 in
theorem parPR_eq (s : List UInt8) : parPR s = parP s := by
  unfold parPR parP
  rw [splX_cut 32 s]
  show _ = if _ then parG [] _ else _
  by_cases h1 : (cutX 32 s).1 = [112, 97, 114, 97, 109, 115]
  · rw [if_pos h1, if_pos h1]
    by_cases h2 : (cutX 32 s).2.2 = true
    · rw [if_pos h2, if_pos h2, parW_eq _ _ _ (by have := cutX_len h2; omega)]
    · rw [if_neg h2, if_neg h2]; rfl
  · rw [if_neg h1, if_neg h1]
/-- the reference's n numbers -/
def numR : Nat → List Int → List UInt8 → Bool → List Int × Bool
  | 0, acc, _, more => (acc, !more)
  | n + 1, acc, s, more => if more = false then ([], false) else if (parseS (cutX 32 s).1).2 = 0 then numR n (acc ++ [(parseS (cutX 32 s).1).1]) (cutX 32 s).2.1 (cutX 32 s).2.2 else ([], false)
set_option maxRecDepth 100000 in
theorem numG_acc : ∀ (L : List (List UInt8)) (acc : List Int), (numG acc L).2 = true → (numG acc L).1 = acc ++ L.map fun w => (parseS w).1
  | [], acc, _ => by simp [numG]
  | w :: r, acc, h => by
    unfold numG at h ⊢
    split at h
    · rename_i h1
      rw [if_pos h1, numG_acc r _ h]; simp
    · cases h
/-- the words of a text that ends, or goes on -/
def wds (s : List UInt8) (more : Bool) : List (List UInt8) := if more = true then splX 32 s else []
set_option maxRecDepth 100000 in
theorem numR_eq : ∀ (n : Nat) (acc : List Int) (s : List UInt8) (more : Bool), ((numR n acc s more).2 = true ↔ (wds s more).length = n ∧ (numG acc (wds s more)).2 = true) ∧ ((numR n acc s more).2 = true → (numR n acc s more).1 = (numG acc (wds s more)).1)
  | 0, acc, s, more => by
    cases more with
    | true =>
      have := splX_ne 32 s
      simp [numR, wds, this]
    | false => simp [numR, wds, numG]
  | n + 1, acc, s, more => by
    cases more with
    | false => simp [numR, wds]
    | true =>
      have hw : wds s true = (cutX 32 s).1 :: wds (cutX 32 s).2.1 (cutX 32 s).2.2 := by unfold wds; rw [if_pos rfl, splX_cut 32 s]
      rw [hw]
      unfold numR numG
      rw [if_neg (by simp)]
      by_cases h1 : (parseS (cutX 32 s).1).2 = 0
      · rw [if_pos h1, if_pos h1]
        have ih := numR_eq n (acc ++ [(parseS (cutX 32 s).1).1]) (cutX 32 s).2.1 (cutX 32 s).2.2
        rw [List.length_cons]
        exact ⟨⟨fun h => ⟨by rw [(ih.1.1 h).1], (ih.1.1 h).2⟩, fun h => ih.1.2 ⟨by omega, h.2⟩⟩, ih.2⟩
      · rw [if_neg h1, if_neg h1]; simp
-- lines
set_option maxRecDepth 100000 in
theorem chop_cons (a : List UInt8) {L : List (List UInt8)} (h : L ≠ []) : chop (a :: L) = a :: chop L := by
  unfold chop
  cases L with
  | nil => exact absurd rfl h
  | cons b r =>
    have e : (a :: b :: r).getLastD [] = (b :: r).getLastD [] := rfl
    rw [e]
    split <;> rfl
set_option maxRecDepth 100000 in
theorem preX_cut {x : UInt8} : ∀ (a l : List UInt8), x ∉ a → ((a ++ [x]).isPrefixOf l = true ↔ (cutX x l).2.2 = true ∧ (cutX x l).1 = a) ∧ ((a ++ [x]).isPrefixOf l = true → l.drop (a ++ [x]).length = (cutX x l).2.1)
  | [], [], _ => by simp [cutX]
  | [], c :: r, _ => by
    show (([x] : List UInt8).isPrefixOf (c :: r) = true ↔ _) ∧ (([x] : List UInt8).isPrefixOf (c :: r) = true → _)
    have e : ([x] : List UInt8).isPrefixOf (c :: r) = (x == c) := by simp [List.isPrefixOf]
    rw [e]
    unfold cutX
    by_cases h : c = x
    · subst h; simp
    · rw [if_neg h]
      have : (x == c) = false := by rw [beq_eq_false_iff_ne]; exact fun e => h e.symm
      rw [this]; simp
  | b :: a, [], _ => by simp [cutX]
  | b :: a, c :: r, hx => by
    have ih := preX_cut (x := x) a r (fun h => hx (List.mem_cons_of_mem _ h))
    show (((b == c) && (a ++ [x]).isPrefixOf r) = true ↔ _) ∧ (((b == c) && (a ++ [x]).isPrefixOf r) = true → _)
    have hb : b ≠ x := fun e => hx (by rw [e]; simp)
    unfold cutX
    by_cases h : c = x
    · rw [if_pos h]
      have : (b == c) = false := by rw [beq_eq_false_iff_ne, h]; exact hb
      rw [this]; simp
    · rw [if_neg h]
      by_cases h2 : b = c
      · subst h2
        simp only [beq_self_eq_true, Bool.true_and]
        refine ⟨ih.1.trans ⟨fun q => ⟨q.1, by rw [q.2]⟩, fun q => ⟨q.1, by simpa using q.2⟩⟩, fun q => ?_⟩
        exact ih.2 q
      · have : (b == c) = false := by rw [beq_eq_false_iff_ne]; exact h2
        rw [this]
        simp only [Bool.false_and, Bool.false_eq_true, false_iff, false_implies, and_true]
        rintro ⟨_, q⟩
        exact h2 (List.cons.inj q).1.symm
end Go.Proofs.YtkmmdkklpbafdaaGreatDoor
