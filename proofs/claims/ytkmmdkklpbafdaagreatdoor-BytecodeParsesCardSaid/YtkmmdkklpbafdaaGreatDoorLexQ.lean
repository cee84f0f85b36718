/- Layer 7's tokens on plain lists: fuel, lines, shifts. No conditions. -/
import Derived.Test.YtkmmdkklpbafdaaGreatDoorLexD
namespace Go.Proofs.YtkmmdkklpbafdaaGreatDoor
open Go.RowKit

set_option maxRecDepth 100000 in
theorem toks_any : ∀ (n : Nat) (s : List UInt8), s.length ≤ n → ∀ (f g : Nat) (ln : Int) (L : List Tk), s.length < f → s.length < g → toks f s ln L = toks g s ln L := by
  intro n
  induction n with
  | zero =>
    intro s hs f g ln L hf hg
    have : s = [] := List.eq_nil_of_length_eq_zero (by omega)
    subst this
    obtain ⟨f, rfl⟩ : ∃ k, f = k + 1 := ⟨f - 1, by omega⟩
    obtain ⟨g, rfl⟩ : ∃ k, g = k + 1 := ⟨g - 1, by omega⟩
    rfl
  | succ n ih =>
    intro s hs f g ln L hf hg
    obtain ⟨f, rfl⟩ : ∃ k, f = k + 1 := ⟨f - 1, by omega⟩
    obtain ⟨g, rfl⟩ : ∃ k, g = k + 1 := ⟨g - 1, by omega⟩
    cases s with
    | nil => rfl
    | cons c r =>
      rw [List.length_cons] at hs hf hg
      have hdw : ∀ p : UInt8 → Bool, (r.dropWhile p).length ≤ r.length := fun p => (List.dropWhile_suffix p).length_le
      conv => lhs; unfold toks
      conv => rhs; unfold toks
      split
      · exact ih r (by omega) f g _ _ (by omega) (by omega)
      · split
        · exact ih r (by omega) f g _ _ (by omega) (by omega)
        · split
          · exact ih _ (by have := hdw (fun x => x != 10); omega) f g _ _ (by have := hdw (fun x => x != 10); omega) (by have := hdw (fun x => x != 10); omega)
          · split
            · rename_i h
              have h2 := (tokS_len (c :: r)).2 h
              have h3 : ((c :: r).drop (tokS (c :: r)).2.1).length ≤ r.length := by rw [List.length_drop, List.length_cons]; omega
              exact ih _ (by omega) f g _ _ (by omega) (by omega)
            · rfl
/-- the tokens of the bytes s, of which the first line has the number ln, behind the tokens L -/
def tk (s : List UInt8) (ln : Int) (L : List Tk) : List Tk × Int × Int := toks (s.length + 1) s ln L
theorem tk_fuel {f : Nat} {s : List UInt8} (h : s.length < f) (ln : Int) (L : List Tk) : toks f s ln L = tk s ln L := toks_any s.length s (Nat.le_refl _) f _ ln L h (by omega)
section
variable {l : List UInt8} {k : Nat} {ln : Int} {L : List Tk}
theorem tk_end (h : ¬ k < l.length) : tk (l.drop k) ln L = (L, 0, 0) := toks_end h
theorem len_drop1 (hk : k < l.length) : (l.drop (k + 1)).length < (l.drop k).length := by rw [List.length_drop, List.length_drop]; omega
theorem tk_10 (hk : k < l.length) (h : l[k] = 10) : tk (l.drop k) ln L = tk (l.drop (k + 1)) (ln + 1) L := by
  unfold tk; rw [toks_10 hk h, tk_fuel (len_drop1 hk)]; rfl
theorem tk_bl (hk : k < l.length) (h1 : l[k] ≠ 10) (h : l[k] = 32 ∨ l[k] = 9) : tk (l.drop k) ln L = tk (l.drop (k + 1)) ln L := by
  unfold tk; rw [toks_bl hk h1 h, tk_fuel (len_drop1 hk)]; rfl
theorem tk_hash (hk : k < l.length) (h : l[k] = 35) : tk (l.drop k) ln L = tk ((l.drop k).dropWhile fun x => x != 10) ln L := by
  unfold tk; rw [toks_hash hk h, ← dw_go hk (by rw [h]; decide), tk_fuel (by rw [dw_go hk (by rw [h]; decide)]; exact Nat.lt_of_le_of_lt (List.dropWhile_suffix _).length_le (len_drop1 hk))]; rfl
theorem tk_bad {x : Tk} {n : Nat} {e : Int} (hk : k < l.length) (h1 : l[k] ≠ 10) (h2 : l[k] ≠ 32) (h3 : l[k] ≠ 9) (h4 : l[k] ≠ 35) (ht : tokS (l.drop k) = (x, n, e)) (he : e ≠ 0) : tk (l.drop k) ln L = ([], ln, e) := toks_bad hk h1 h2 h3 h4 ht he
theorem tk_ok {x : Tk} {n : Nat} (hk : k < l.length) (h1 : l[k] ≠ 10) (h2 : l[k] ≠ 32) (h3 : l[k] ≠ 9) (h4 : l[k] ≠ 35) (ht : tokS (l.drop k) = (x, n, 0)) : tk (l.drop k) ln L = tk (l.drop (k + n)) ln (L ++ [⟨x.k, x.t, x.n, ln⟩]) := by
  have hl := (tokS_len (l.drop k)).2 (by rw [ht])
  rw [ht] at hl
  unfold tk; rw [toks_ok hk h1 h2 h3 h4 ht, tk_fuel (by rw [List.length_drop] at hl ⊢; rw [List.length_drop]; simp only at hl; omega)]; rfl
end
theorem tokenS_tk {l : List UInt8} (h : ¬ 16384 < l.length) : tokenS l = tk l 1 [] := tokenS_eq h
/-- the line feeds among the first k bytes -/
def cnt (l : List UInt8) (k : Nat) : Nat := (l.take k).count 10
theorem cnt_zero (l : List UInt8) : cnt l 0 = 0 := rfl
theorem cnt_10 {l : List UInt8} {k : Nat} (hk : k < l.length) (h : l[k] = 10) : cnt l (k + 1) = cnt l k + 1 := by
  unfold cnt; rw [ltake_snoc l k hk, List.count_append, h]; rfl
theorem cnt_no {l : List UInt8} {k : Nat} (hk : k < l.length) (h : l[k] ≠ 10) : cnt l (k + 1) = cnt l k := by
  unfold cnt; rw [ltake_snoc l k hk, List.count_append, List.count_singleton, if_neg (by simpa using fun e => h e), Nat.add_zero]
theorem cnt_le (l : List UInt8) (k : Nat) : cnt l k ≤ l.length := by
  unfold cnt; exact Nat.le_trans (List.count_le_length) (by rw [List.length_take]; omega)
theorem cnt_add {l : List UInt8} {k n : Nat} (h : 10 ∉ (l.drop k).take n) : cnt l (k + n) = cnt l k := by
  unfold cnt; rw [List.take_add, List.count_append, List.count_eq_zero.2 h]; rfl
set_option maxRecDepth 100000 in
theorem lit_nolf : ∀ (r acc : List UInt8) (i : Nat), (lit acc r i).2.2 = 0 → 10 ∉ r.take ((lit acc r i).2.1 - i)
  | [], acc, i, h => by simp [lit] at h
  | c :: r, acc, i, h => by
    rw [lit_cons] at h ⊢
    split
    · rename_i h1
      rw [show i + 1 - i = 1 by omega]; subst h1; simp
    · rename_i h1
      rw [if_neg h1] at h
      split
      · rename_i h2
        rw [if_pos h2] at h
        cases r with
        | nil => simp at h
        | cons d t =>
          simp only at h ⊢
          split
          · rename_i h3
            rw [if_pos h3] at h
            split
            · rename_i h4; rw [if_pos h4] at h; simp at h
            · rename_i h4
              rw [if_neg h4] at h
              have ih := lit_nolf t (acc ++ [d]) (i + 2) h
              have hb := (lit_len t (acc ++ [d]) (i + 2)).2 h
              obtain ⟨q, hq⟩ : ∃ q, (lit (acc ++ [d]) t (i + 2)).2.1 = i + 2 + q := ⟨(lit (acc ++ [d]) t (i + 2)).2.1 - (i + 2), by omega⟩
              rw [hq] at ih ⊢
              rw [show i + 2 + q - (i + 2) = q by omega] at ih
              rw [show i + 2 + q - i = q + 1 + 1 by omega, List.take_succ_cons, List.take_succ_cons]
              intro hm
              rcases List.mem_cons.1 hm with e | hm
              · rw [← e] at h2; exact absurd h2 (by decide)
              · rcases List.mem_cons.1 hm with e | hm
                · rw [← e] at h3; exact absurd h3 (by decide)
                · exact ih hm
          · rename_i h3; rw [if_neg h3] at h; simp at h
      · rename_i h2
        rw [if_neg h2] at h
        split
        · rename_i h3
          rw [if_pos h3] at h
          split
          · rename_i h4; rw [if_pos h4] at h; simp at h
          · rename_i h4
            rw [if_neg h4] at h
            have ih := lit_nolf r (acc ++ [c]) (i + 1) h
            have hb := (lit_len r (acc ++ [c]) (i + 1)).2 h
            obtain ⟨q, hq⟩ : ∃ q, (lit (acc ++ [c]) r (i + 1)).2.1 = i + 1 + q := ⟨(lit (acc ++ [c]) r (i + 1)).2.1 - (i + 1), by omega⟩
            rw [hq] at ih ⊢
            rw [show i + 1 + q - (i + 1) = q by omega] at ih
            rw [show i + 1 + q - i = q + 1 by omega, List.take_succ_cons]
            intro hm
            rcases List.mem_cons.1 hm with e | hm
            · rw [← e] at h3; exact absurd h3 (by decide)
            · exact ih hm
        · rename_i h3; rw [if_neg h3] at h; simp at h
set_option maxRecDepth 100000 in
theorem wlen_take (s : List UInt8) : ∀ c ∈ s.take (wlen s), prt c = true := by
  intro c hc
  have e : s.take (wlen s) = s.takeWhile prt := by
    unfold wlen
    exact List.prefix_iff_eq_take.1 (List.takeWhile_prefix prt) ▸ rfl
  rw [e] at hc
  have h := List.all_takeWhile (p := prt) (l := s)
  exact List.all_eq_true.1 h c hc
theorem MK_nolf : ∀ m ∈ MK, (10 : UInt8) ∉ m := by decide
theorem mkS_mem {s : List UInt8} (h : mkS s ≠ []) : mkS s ∈ MK := by
  unfold mkS at h ⊢
  cases hf : MK.find? fun m => m.isPrefixOf s with
  | none => rw [hf] at h; exact absurd rfl h
  | some m => exact List.mem_of_find?_eq_some hf
set_option maxRecDepth 100000 in
theorem tok_nolf (s : List UInt8) (h : (tokS s).2.2 = 0) : 10 ∉ s.take (tokS s).2.1 := by
  unfold tokS at h ⊢
  split
  · intro hm
    have := wlen_take s 10 hm
    exact absurd this (by decide)
  · rename_i h1
    rw [if_neg h1] at h
    split
    · rename_i h2
      rw [if_pos h2] at h
      simp only at h ⊢
      cases s with
      | nil => simp at h2
      | cons c r =>
        have hc : c = 34 := by simpa using h2
        have ih := lit_nolf r [] 1 h
        have hb := (lit_len r [] 1).2 h
        show 10 ∉ (c :: r).take (lit [] r 1).2.1
        obtain ⟨q, hq⟩ : ∃ q, (lit [] r 1).2.1 = q + 1 := ⟨(lit [] r 1).2.1 - 1, by omega⟩
        rw [hq] at ih ⊢
        rw [List.take_succ_cons]
        intro hm
        rcases List.mem_cons.1 hm with e | hm
        · rw [hc] at e; exact absurd e (by decide)
        · exact ih hm
    · rename_i h2
      rw [if_neg h2] at h
      split
      · rename_i h3; rw [if_pos h3] at h; simp at h
      · rename_i h3
        show 10 ∉ s.take (mkS s).length
        rw [← List.prefix_iff_eq_take.1 (mkS_pre s)]
        exact MK_nolf _ (mkS_mem h3)
set_option maxRecDepth 100000 in
theorem lit_shift : ∀ (r acc : List UInt8) (i a : Nat), (lit acc r (i + a)).1 = (lit acc r i).1 ∧ (lit acc r (i + a)).2.2 = (lit acc r i).2.2 ∧ ((lit acc r i).2.2 = 0 → (lit acc r (i + a)).2.1 = (lit acc r i).2.1 + a)
  | [], acc, i, a => by simp [lit]
  | c :: r, acc, i, a => by
    rw [lit_cons, lit_cons]
    split
    · simp only [true_and]; intro _; omega
    · split
      · cases r with
        | nil => simp
        | cons d t =>
          simp only
          split
          · split
            · simp
            · have ih := lit_shift t (acc ++ [d]) (i + 2) a
              rw [show i + a + 2 = i + 2 + a by omega]; exact ih
          · simp
      · split
        · split
          · simp
          · have ih := lit_shift r (acc ++ [c]) (i + 1) a
            rw [show i + a + 1 = i + 1 + a by omega]; exact ih
        · simp
end Go.Proofs.YtkmmdkklpbafdaaGreatDoor
