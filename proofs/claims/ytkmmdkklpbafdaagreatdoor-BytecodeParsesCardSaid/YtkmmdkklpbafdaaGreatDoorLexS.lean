/- Layer 7: tokens of texts put together, on plain lists. No conditions. -/
import Derived.Test.YtkmmdkklpbafdaaGreatDoorLexH
namespace Go.Proofs.YtkmmdkklpbafdaaGreatDoor
open Go.RowKit

/-- a byte that ends every token -/
def Sep (d : UInt8) : Prop := prt d = false ∧ d ≠ 61 ∧ d ≠ 43
theorem sep10 : Sep 10 := ⟨by decide, by decide, by decide⟩
theorem sep32 : Sep 32 := ⟨by decide, by decide, by decide⟩
theorem tw_app (s t : List UInt8) (d : UInt8) (hd : prt d = false) : (s ++ d :: t).takeWhile prt = s.takeWhile prt := by
  induction s with
  | nil => simp [hd]
  | cons c r ih => rw [List.cons_append, List.takeWhile_cons, List.takeWhile_cons, ih]
theorem wlen_app (s t : List UInt8) (d : UInt8) (hd : prt d = false) : wlen (s ++ d :: t) = wlen s := by unfold wlen; rw [tw_app s t d hd]
set_option maxRecDepth 100000 in
theorem lit_app : ∀ (r acc t : List UInt8) (i : Nat), (lit acc r i).2.2 = 0 → lit acc (r ++ t) i = lit acc r i
  | [], acc, t, i, h => by simp [lit] at h
  | c :: r, acc, t, i, h => by
    rw [List.cons_append, lit_cons, lit_cons]
    rw [lit_cons] at h
    split
    · rfl
    · rename_i h1
      rw [if_neg h1] at h
      split
      · rename_i h2
        rw [if_pos h2] at h
        cases r with
        | nil => simp at h
        | cons d q =>
          simp only [List.cons_append] at h ⊢
          split
          · rename_i h3
            rw [if_pos h3] at h
            split
            · rfl
            · rename_i h4; rw [if_neg h4] at h; exact lit_app q _ t _ h
          · rfl
      · rename_i h2
        rw [if_neg h2] at h
        split
        · rename_i h3
          rw [if_pos h3] at h
          split
          · rfl
          · rename_i h4; rw [if_neg h4] at h; exact lit_app r _ t _ h
        · rfl
theorem M2_sep : ∀ m ∈ M2, m.getD 1 0 = 61 ∨ m.getD 1 0 = 43 := by decide
set_option maxRecDepth 100000 in
theorem mk_app {s t : List UInt8} {d : UInt8} (hd : Sep d) (h : mkS s ≠ []) : mkS (s ++ d :: t) = mkS s := by
  cases s with
  | nil => exact absurd mk_nil h
  | cons c r =>
    cases r with
    | nil =>
      have h1 : ∀ m ∈ M2, ([c] : List UInt8).take 2 ≠ m := by intro m hm e; have := M2_two m hm; rw [← e] at this; simp at this
      have h2 : ∀ m ∈ M2, ([c] ++ d :: t).take 2 ≠ m := by
        intro m hm e
        have := M2_sep m hm
        rw [← e] at this
        rcases this with e | e
        · exact hd.2.1 e
        · exact hd.2.2 e
      rw [mk_one (by simp) h2, mk_one (by simp) h1]; rfl
    | cons c2 r =>
      by_cases hm : [c, c2] ∈ M2
      · rw [mk_two (K := [c, c2]) rfl hm, mk_two (K := [c, c2]) rfl hm]
      · have h1 : ∀ q : List UInt8, ∀ m ∈ M2, (c :: c2 :: q).take 2 ≠ m := fun q m hm2 e => hm (by have : [c, c2] = m := e; rw [this]; exact hm2)
        have e1 : mkS ((c :: c2 :: r) ++ d :: t) = _ := mk_one (l := c :: c2 :: (r ++ d :: t)) (by simp) (h1 _)
        rw [e1, mk_one (l := c :: c2 :: r) (by simp) (h1 _)]; rfl
set_option maxRecDepth 100000 in
theorem tok_app {s t : List UInt8} {d : UInt8} (hd : Sep d) (h : (tokS s).2.2 = 0) : tokS (s ++ d :: t) = tokS s := by
  have hw := wlen_app s t d hd.1
  have hl := wlen_le s
  unfold tokS at h ⊢
  rw [hw]
  by_cases h1 : 0 < wlen s
  · rw [if_pos h1, if_pos h1, List.take_append_of_le_length hl]
  · rw [if_neg h1] at h
    rw [if_neg h1, if_neg h1]
    by_cases h2 : s.head? = some 34
    · rw [if_pos h2] at h
      rw [if_pos h2, if_pos (by cases s with | nil => simp at h2 | cons c r => exact h2)]
      cases s with
      | nil => simp at h2
      | cons c r =>
        have e : (lit [] (((c :: r) ++ d :: t).drop 1) 1) = lit [] ((c :: r).drop 1) 1 := lit_app r [] (d :: t) 1 h
        rw [e]
    · rw [if_neg h2] at h
      rw [if_neg h2]
      by_cases h3 : mkS s = []
      · rw [if_pos h3] at h; simp at h
      · have h4 : (s ++ d :: t).head? ≠ some 34 := by
          cases s with
          | nil => exact absurd mk_nil h3
          | cons c r => exact h2
        rw [if_neg h4, if_neg h3, mk_app hd h3, if_neg h3]
theorem tk_nil (ln : Int) (L : List Tk) : tk [] ln L = (L, 0, 0) := rfl
set_option maxRecDepth 100000 in
theorem tk_cons (c : UInt8) (r : List UInt8) (ln : Int) (L : List Tk) : tk (c :: r) ln L =
    if c = 10 then tk r (ln + 1) L
    else if c = 32 ∨ c = 9 then tk r ln L
    else if c = 35 then tk (r.dropWhile fun x => x != 10) ln L
    else if (tokS (c :: r)).2.2 = 0 then tk ((c :: r).drop (tokS (c :: r)).2.1) ln (L ++ [⟨(tokS (c :: r)).1.k, (tokS (c :: r)).1.t, (tokS (c :: r)).1.n, ln⟩])
    else ([], ln, (tokS (c :: r)).2.2) := by
  have hf : ∀ s : List UInt8, s.length ≤ r.length → ∀ ln L, toks ((c :: r).length) s ln L = tk s ln L := fun s h ln L => tk_fuel (by rw [List.length_cons]; omega) ln L
  conv => lhs; unfold tk toks
  split
  · exact hf r (Nat.le_refl _) _ _
  · split
    · exact hf r (Nat.le_refl _) _ _
    · split
      · exact hf _ (List.dropWhile_suffix _).length_le _ _
      · split
        · rename_i h
          have h2 := (tokS_len (c :: r)).2 h
          exact hf _ (by rw [List.length_drop, List.length_cons]; omega) _ _
        · rfl
set_option maxRecDepth 100000 in
theorem count_dw (r : List UInt8) : (r.dropWhile fun x => x != 10).count 10 = r.count 10 := by
  induction r with
  | nil => rfl
  | cons c r ih =>
    rw [List.dropWhile_cons]
    split
    · rename_i h
      have hc : c ≠ 10 := by simpa using h
      rw [ih, List.count_cons_of_ne hc]
    · rfl
theorem dw_app (r b : List UInt8) : (r ++ 10 :: b).dropWhile (fun x => x != 10) = (r.dropWhile fun x => x != 10) ++ 10 :: b := by
  induction r with
  | nil => rfl
  | cons c r ih =>
    rw [List.cons_append, List.dropWhile_cons, List.dropWhile_cons, ih]
    split <;> rfl
set_option maxRecDepth 100000 in
/-- the tokens of two texts with a line feed between them, where the first one has no error -/
theorem tk_parts : ∀ (n : Nat) (s b : List UInt8) (ln : Int) (L M : List Tk), s.length ≤ n → tk s ln L = (M, 0, 0) → tk (s ++ 10 :: b) ln L = tk b (ln + (s.count 10 : Int) + 1) M := by
  intro n
  induction n with
  | zero =>
    intro s b ln L M hs h
    have : s = [] := List.eq_nil_of_length_eq_zero (by omega)
    subst this
    rw [tk_nil] at h
    injection h with h _
    subst h
    rw [List.nil_append, tk_cons, if_pos rfl]; congr 1; simp
  | succ n ih =>
    intro s b ln L M hs h
    cases s with
    | nil => exact ih [] b ln L M (Nat.zero_le _) h
    | cons c r =>
      rw [List.length_cons] at hs
      rw [tk_cons] at h
      rw [List.cons_append, tk_cons]
      by_cases h1 : c = 10
      · rw [if_pos h1] at h ⊢
        rw [ih r b _ L M (by omega) h, h1, List.count_cons_self]; congr 1; omega
      · rw [if_neg h1] at h ⊢
        rw [List.count_cons_of_ne h1]
        by_cases h2 : c = 32 ∨ c = 9
        · rw [if_pos h2] at h ⊢
          exact ih r b ln L M (by omega) h
        · rw [if_neg h2] at h ⊢
          by_cases h3 : c = 35
          · rw [if_pos h3] at h ⊢
            have hl := (List.dropWhile_suffix (l := r) fun x => x != 10).length_le
            rw [dw_app, ih _ b ln L M (by omega) h, count_dw]
          · rw [if_neg h3] at h ⊢
            by_cases h4 : (tokS (c :: r)).2.2 = 0
            · rw [if_pos h4] at h
              have ha : tokS (c :: (r ++ 10 :: b)) = tokS (c :: r) := tok_app (t := b) sep10 h4
              have hb := (tokS_len (c :: r)).2 h4
              have hn := tok_nolf (c :: r) h4
              rw [ha, if_pos h4]
              have hd : (c :: (r ++ 10 :: b)).drop (tokS (c :: r)).2.1 = (c :: r).drop (tokS (c :: r)).2.1 ++ 10 :: b := by
                rw [← List.cons_append, List.drop_append_of_le_length hb.2]
              rw [hd]
              have hc : ((c :: r).drop (tokS (c :: r)).2.1).count 10 = r.count 10 := by
                have e := congrArg (List.count 10) (List.take_append_drop (tokS (c :: r)).2.1 (c :: r))
                rw [List.count_append, List.count_eq_zero.2 hn, List.count_cons_of_ne h1] at e
                omega
              rw [ih _ b ln _ M (by rw [List.length_drop, List.length_cons]; omega) h, hc]
            · rw [if_neg h4] at h
              simp only [Prod.mk.injEq] at h
              exact absurd h.2.2 h4
/-- tokens with greater lines -/
def mv (j : Int) (x : Tk) : Tk := ⟨x.k, x.t, x.n, x.ln + j⟩
set_option maxRecDepth 100000 in
theorem tk_move (j : Int) (L : List Tk) : ∀ (n : Nat) (b : List UInt8) (ln : Int) (M : List Tk), b.length ≤ n →
    tk b (ln + j) (L ++ M.map (mv j)) = if (tk b ln M).2.2 = 0 then (L ++ (tk b ln M).1.map (mv j), 0, 0) else ([], (tk b ln M).2.1 + j, (tk b ln M).2.2) := by
  intro n
  induction n with
  | zero =>
    intro b ln M hb
    have : b = [] := List.eq_nil_of_length_eq_zero (by omega)
    subst this
    rfl
  | succ n ih =>
    intro b ln M hb
    cases b with
    | nil => rfl
    | cons c r =>
      rw [List.length_cons] at hb
      rw [tk_cons, tk_cons]
      by_cases h1 : c = 10
      · rw [if_pos h1, if_pos h1, ← ih r (ln + 1) M (by omega)]; congr 1; omega
      · rw [if_neg h1, if_neg h1]
        by_cases h2 : c = 32 ∨ c = 9
        · rw [if_pos h2, if_pos h2]; exact ih r ln M (by omega)
        · rw [if_neg h2, if_neg h2]
          by_cases h3 : c = 35
          · rw [if_pos h3, if_pos h3]
            exact ih _ ln M (by have := (List.dropWhile_suffix (l := r) fun x => x != 10).length_le; omega)
          · rw [if_neg h3, if_neg h3]
            by_cases h4 : (tokS (c :: r)).2.2 = 0
            · rw [if_pos h4, if_pos h4]
              have hb2 := (tokS_len (c :: r)).2 h4
              have := ih ((c :: r).drop (tokS (c :: r)).2.1) ln (M ++ [⟨(tokS (c :: r)).1.k, (tokS (c :: r)).1.t, (tokS (c :: r)).1.n, ln⟩]) (by rw [List.length_drop, List.length_cons]; omega)
              rw [← this, List.map_append, ← List.append_assoc]; rfl
            · rw [if_neg h4, if_neg h4]
              simp only
              rw [if_neg h4]
set_option maxRecDepth 100000 in
theorem tk_ok_zero : ∀ (n : Nat) (s : List UInt8) (ln : Int) (L : List Tk), s.length ≤ n → (tk s ln L).2.2 = 0 → (tk s ln L).2.1 = 0 := by
  intro n
  induction n with
  | zero => intro s ln L hs _; have : s = [] := List.eq_nil_of_length_eq_zero (by omega)
            subst this; rfl
  | succ n ih =>
    intro s ln L hs h
    cases s with
    | nil => rfl
    | cons c r =>
      rw [List.length_cons] at hs
      rw [tk_cons] at h ⊢
      split at h
      · rename_i h1; rw [if_pos h1]; exact ih r _ _ (by omega) h
      · rename_i h1
        rw [if_neg h1]
        split at h
        · rename_i h2; rw [if_pos h2]; exact ih r _ _ (by omega) h
        · rename_i h2
          rw [if_neg h2]
          split at h
          · rename_i h3; rw [if_pos h3]; exact ih _ _ _ (by have := (List.dropWhile_suffix (l := r) fun x => x != 10).length_le; omega) h
          · rename_i h3
            rw [if_neg h3]
            split at h
            · rename_i h4
              rw [if_pos h4]
              have hb2 := (tokS_len (c :: r)).2 h4
              exact ih _ _ _ (by rw [List.length_drop, List.length_cons]; omega) h
            · rename_i h4; exact absurd h h4
set_option maxRecDepth 100000 in
/-- the lines of the tokens -/
theorem tk_lines : ∀ (n : Nat) (s : List UInt8) (ln : Int) (L : List Tk), s.length ≤ n → ∀ x ∈ (tk s ln L).1, x ∈ L ∨ (ln ≤ x.ln ∧ x.ln ≤ ln + (s.length : Int)) := by
  intro n
  induction n with
  | zero => intro s ln L hs x hx; have : s = [] := List.eq_nil_of_length_eq_zero (by omega)
            subst this; exact .inl hx
  | succ n ih =>
    intro s ln L hs x hx
    cases s with
    | nil => exact .inl hx
    | cons c r =>
      rw [List.length_cons] at hs ⊢
      rw [tk_cons] at hx
      split at hx
      · rcases ih r _ _ (by omega) x hx with h | ⟨h, h2⟩
        · exact .inl h
        · exact .inr ⟨by omega, by omega⟩
      · split at hx
        · rcases ih r _ _ (by omega) x hx with h | ⟨h, h2⟩
          · exact .inl h
          · exact .inr ⟨by omega, by omega⟩
        · split at hx
          · have hl := (List.dropWhile_suffix (l := r) fun x => x != 10).length_le
            rcases ih _ _ _ (by omega) x hx with h | ⟨h, h2⟩
            · exact .inl h
            · exact .inr ⟨by omega, by omega⟩
          · split at hx
            · rename_i h4
              have hb2 := (tokS_len (c :: r)).2 h4
              rcases ih _ _ _ (by rw [List.length_drop, List.length_cons]; omega) x hx with h | ⟨h, h2⟩
              · rcases List.mem_append.1 h with h | h
                · exact .inl h
                · rw [List.mem_singleton] at h; subst h; exact .inr ⟨Int.le_refl _, by simp only; omega⟩
              · rw [List.length_drop, List.length_cons] at h2; exact .inr ⟨h, by omega⟩
            · simp at hx
set_option maxRecDepth 100000 in
theorem tokenS_lines {s : List UInt8} : ∀ x ∈ (tokenS s).1, 1 ≤ x.ln ∧ x.ln ≤ 1 + (s.length : Int) := by
  intro x hx
  by_cases h : 16384 < s.length
  · unfold tokenS at hx; rw [if_pos h] at hx; simp at hx
  · rw [tokenS_tk h] at hx
    rcases tk_lines s.length s 1 [] (Nat.le_refl _) x hx with h | h
    · simp at h
    · exact h
set_option maxRecDepth 100000 in
theorem parts_ok {a b : List UInt8} {La Lb : List Tk} {ra rb eb : Int} (ha : a.length ≤ 400) (hb : b.length ≤ 400) (h1 : tokenS a = (La, ra, 0)) (h2 : tokenS b = (Lb, rb, eb)) :
    tokenS (a ++ 10 :: b) = if eb = 0 then (La ++ Lb.map (mv ((cnt a a.length : Int) + 1)), 0, 0) else ([], rb + ((cnt a a.length : Int) + 1), eb) := by
  rw [tokenS_tk (by omega)] at h1 h2
  have hz := tk_ok_zero a.length a 1 [] (Nat.le_refl _) (by rw [h1])
  rw [h1] at hz
  simp only at hz
  subst hz
  rw [tokenS_tk (by rw [List.length_append, List.length_cons]; omega), tk_parts a.length a b 1 [] La (Nat.le_refl _) h1]
  have hc : cnt a a.length = a.count 10 := by unfold cnt; rw [List.take_length]
  rw [hc]
  have h3 := tk_move ((a.count 10 : Int) + 1) La b.length b 1 [] (Nat.le_refl _)
  rw [List.map_nil, List.append_nil, h2] at h3
  rw [← h3]; congr 1 <;> omega
end Go.Proofs.YtkmmdkklpbafdaaGreatDoor
