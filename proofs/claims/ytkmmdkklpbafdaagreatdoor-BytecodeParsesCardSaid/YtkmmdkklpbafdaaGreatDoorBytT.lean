/- Layer 7: joined tokens are tokenized to the same tokens, on plain lists. No conditions. -/
import Derived.Test.YtkmmdkklpbafdaaGreatDoorLexS
namespace Go.Proofs.YtkmmdkklpbafdaaGreatDoor
open Go.RowKit

theorem txt_4 {x : Tk} (h : x.k = 4) : txtT x = (quoL x.t).1 := by unfold txtT; rw [if_neg (by omega), if_pos h]

def at1 (x : Tk) : Tk := ⟨x.k, x.t, x.n, 1⟩
theorem tw_all (s : List UInt8) (h : wlen s = s.length) : s.takeWhile prt = s := by
  have h1 := List.takeWhile_prefix prt (l := s)
  exact h1.eq_of_length h
set_option maxRecDepth 100000 in
theorem isNm_wlen {s : List UInt8} (h : isNm s = true) : 0 < s.length ∧ wlen s = s.length ∧ isKw s = false := by
  cases s with
  | nil => simp [isNm] at h
  | cons c r =>
    rw [isNm_eq _ (by simp)] at h
    simp only [Bool.and_eq_true, decide_eq_true_eq, Bool.not_eq_true'] at h
    exact ⟨by simp, h.2.2.1, h.2.2.2⟩
theorem KW_wlen : ∀ w ∈ KW, wlen w = w.length ∧ 0 < w.length ∧ ltr (w.getD 0 0) = true := by decide
theorem wTok_nm {s : List UInt8} (h : isNm s = true) : wTok s = (⟨1, s, 0, 0⟩, 0) := by
  have h2 := isNm_wlen h
  rw [wTok_eq h2.1]
  rw [isNm_eq s h2.1] at h
  simp only [Bool.and_eq_true] at h
  rw [if_pos h.2.1, if_neg (by rw [h2.2.2]; simp), if_pos (by rw [isNm_eq s h2.1]; simp only [Bool.and_eq_true]; exact h)]
theorem wTok_kw {s : List UInt8} (h : isKw s = true) : wTok s = (⟨2, s, 0, 0⟩, 0) := by
  have hm : s ∈ KW := of_decide_eq_true h
  have h2 := KW_wlen s hm
  rw [wTok_eq h2.2.1]
  have e : s[0]'h2.2.1 = s.getD 0 0 := by simp [h2.2.1]
  rw [if_pos (by rw [e]; exact h2.2.2), if_pos h]
theorem dig_prt {c : UInt8} (h : isDig c = true) : prt c = true := by unfold prt; rw [h]; simp
theorem dig_ltr {c : UInt8} (h : isDig c = true) : ltr c = false := by
  rw [Bool.eq_false_iff]; intro h2; have := (ltr_iff c).1 h2; have := (isDig_iff c).1 h; omega
theorem itoa_pos {n : Int} (h : 0 ≤ n) : Lib.itoa n = Lib.decDigits n.toNat := by unfold Lib.itoa; rw [if_neg (by omega)]
theorem wlen_all : ∀ {s : List UInt8}, (∀ c ∈ s, prt c = true) → wlen s = s.length
  | [], _ => rfl
  | c :: r, h => by rw [wlen_cons, if_pos (h c (by simp)), wlen_all (fun x hx => h x (by simp [hx]))]; rfl
set_option maxRecDepth 100000 in
theorem wTok_int {n : Int} (h : 0 ≤ n) (h1 : n ≤ 9223372036854775807) : wTok (Lib.itoa n) = (⟨3, [], n, 0⟩, 0) ∧ wlen (Lib.itoa n) = (Lib.itoa n).length ∧ 0 < (Lib.itoa n).length := by
  have hd := itoa_pos h
  have hall := decDigits_all n.toNat
  have hne := decDigits_ne n.toNat
  rw [← hd] at hall hne
  have h0 : 0 < (Lib.itoa n).length := List.length_pos_iff.2 hne
  have hdig : ∀ c ∈ Lib.itoa n, isDig c = true := fun c hc => List.all_eq_true.1 hall c hc
  refine ⟨?_, wlen_all (fun c hc => dig_prt (hdig c hc)), h0⟩
  rw [wTok_eq h0, if_neg (by rw [dig_ltr (hdig _ (List.getElem_mem h0))]; simp), parse_itoa n ((fits_iff n).2 ⟨by omega, h1⟩), if_pos rfl]
set_option maxRecDepth 100000 in
theorem lit_quo : ∀ (t acc r : List UInt8) (i : Nat), t.all okc = true → acc.length + t.length ≤ 64 → lit acc (t.flatMap esc ++ 34 :: r) i = (acc ++ t, i + (t.flatMap esc).length + 1, 0)
  | [], acc, r, i, _, _ => by
    show lit acc (34 :: r) i = _
    rw [lit_cons, if_pos rfl]; simp
  | c :: q, acc, r, i, h, hl => by
    have hc : okc c = true ∧ q.all okc = true := by simpa using h
    rw [List.length_cons] at hl
    rw [List.flatMap_cons, List.append_assoc]
    by_cases h1 : c = 34 ∨ c = 92
    · rw [esc_yes h1]
      show lit acc (92 :: c :: (q.flatMap esc ++ 34 :: r)) i = _
      rw [lit_cons, if_neg (by decide), if_pos rfl]
      simp only
      rw [if_pos h1, if_neg (by omega), lit_quo q (acc ++ [c]) r (i + 2) hc.2 (by rw [List.length_append, List.length_singleton]; omega)]
      simp only [Prod.mk.injEq, and_true, List.append_assoc, List.length_append]
      exact ⟨by simp, by show i + 2 + _ + 1 = i + (2 + _) + 1; omega⟩
    · rw [esc_no h1]
      show lit acc (c :: (q.flatMap esc ++ 34 :: r)) i = _
      rw [lit_cons, if_neg (fun e => h1 (.inl e)), if_neg (fun e => h1 (.inr e)), if_pos hc.1, if_neg (by omega), lit_quo q (acc ++ [c]) r (i + 1) hc.2 (by rw [List.length_append, List.length_singleton]; omega)]
      simp only [Prod.mk.injEq, and_true, List.append_assoc, List.length_append]
      exact ⟨by simp, by show i + 1 + _ + 1 = i + (1 + _) + 1; omega⟩
theorem MK_tok : ∀ m ∈ MK, tokS m = (⟨5, m, 0, 0⟩, m.length, 0) ∧ 0 < m.length := by decide
theorem MK_head : ∀ m ∈ MK, m.getD 0 0 ≠ 10 ∧ m.getD 0 0 ≠ 32 ∧ m.getD 0 0 ≠ 9 ∧ m.getD 0 0 ≠ 35 := by decide
/-- the bytes with which a token's text does not begin -/
def Hd (s : List UInt8) : Prop := s.getD 0 0 ≠ 10 ∧ s.getD 0 0 ≠ 32 ∧ s.getD 0 0 ≠ 9 ∧ s.getD 0 0 ≠ 35
set_option maxRecDepth 100000 in
theorem prt_hd {s : List UInt8} (h0 : 0 < s.length) (h : wlen s = s.length) : Hd s := by
  cases s with
  | nil => simp at h0
  | cons c r =>
    have hp : prt c = true := by
      rw [wlen_cons] at h
      by_cases hc : prt c = true
      · exact hc
      · rw [if_neg hc] at h; simp at h
    have := (prt_iff c).1 hp
    refine ⟨?_, ?_, ?_, ?_⟩ <;> (show c ≠ _; intro e; subst e; exact absurd hp (by decide))
set_option maxRecDepth 100000 in
/-- a valid token's text is read as the token -/
theorem tok_txt {x : Tk} (hv : valT x = true) (hn : x.n ≤ 9223372036854775807) : tokS (txtT x) = (⟨x.k, x.t, x.n, 0⟩, (txtT x).length, 0) ∧ 0 < (txtT x).length ∧ Hd (txtT x) := by
  obtain ⟨k, t, n, ln⟩ := x
  unfold valT at hv
  simp only at hv hn ⊢
  split at hv
  · rename_i hk; subst hk
    simp only [Bool.and_eq_true, decide_eq_true_eq] at hv
    obtain ⟨h1, rfl⟩ := hv
    have h2 := isNm_wlen h1
    have ht : txtT ⟨1, t, 0, ln⟩ = t := rfl
    rw [ht]
    refine ⟨?_, h2.1, prt_hd h2.1 h2.2.1⟩
    rw [tokS_word (by rw [h2.2.1]; exact h2.1), h2.2.1, List.take_length, wTok_nm h1]
  · split at hv
    · rename_i _ hk; subst hk
      simp only [Bool.and_eq_true, decide_eq_true_eq] at hv
      obtain ⟨h1, rfl⟩ := hv
      have h2 := KW_wlen t (of_decide_eq_true h1)
      have ht : txtT ⟨2, t, 0, ln⟩ = t := rfl
      rw [ht]
      refine ⟨?_, h2.2.1, prt_hd h2.2.1 h2.1⟩
      rw [tokS_word (by rw [h2.1]; exact h2.2.1), h2.1, List.take_length, wTok_kw h1]
    · split at hv
      · rename_i _ _ hk; subst hk
        simp only [Bool.and_eq_true, decide_eq_true_eq, beq_iff_eq] at hv
        obtain ⟨rfl, h1⟩ := hv
        obtain ⟨h2, h3, h4⟩ := wTok_int h1 hn
        have ht : txtT ⟨3, [], n, ln⟩ = Lib.itoa n := rfl
        rw [ht]
        refine ⟨?_, h4, prt_hd h4 h3⟩
        rw [tokS_word (by rw [h3]; exact h4), h3, List.take_length, h2]
      · split at hv
        · rename_i _ _ _ hk; subst hk
          simp only [Bool.and_eq_true, decide_eq_true_eq] at hv
          obtain ⟨h1, h2, rfl⟩ := hv
          have ht : txtT ⟨4, t, 0, ln⟩ = quoS t := by rw [txt_4 rfl]; show (quoL t).1 = _; rw [quoL_ok (by omega) h2]
          rw [ht]
          have hw : ¬ 0 < wlen (quoS t) := by unfold quoS; rw [wlen_cons, if_neg (by decide)]; simp
          refine ⟨?_, by unfold quoS; simp, by unfold quoS; exact ⟨by show (34 : UInt8) ≠ 10; decide, by show (34 : UInt8) ≠ 32; decide, by show (34 : UInt8) ≠ 9; decide, by show (34 : UInt8) ≠ 35; decide⟩⟩
          have hl := lit_quo t [] [] 1 h2 (by simpa using h1)
          have hd : (quoS t).drop 1 = t.flatMap esc ++ 34 :: [] := rfl
          unfold tokS
          rw [if_neg hw, if_pos (show (quoS t).head? = some 34 from rfl), hd, hl]
          have hlen : (quoS t).length = 1 + (t.flatMap esc).length + 1 := by unfold quoS; rw [List.length_cons, List.length_append, List.length_singleton]; omega
          rw [hlen]; rfl
        · split at hv
          · rename_i _ _ _ _ hk; subst hk
            simp only [Bool.and_eq_true, decide_eq_true_eq] at hv
            obtain ⟨h1, rfl⟩ := hv
            have ht : txtT ⟨5, t, 0, ln⟩ = t := rfl
            rw [ht]
            exact ⟨(MK_tok t h1).1, (MK_tok t h1).2, MK_head t h1⟩
          · cases hv
set_option maxRecDepth 100000 in
theorem tk_one {s b : List UInt8} {ln : Int} {L : List Tk} {x : Tk} (hd : Hd s) (h0 : 0 < s.length) (h : tokS (s ++ b) = (x, s.length, 0)) : tk (s ++ b) ln L = tk b ln (L ++ [⟨x.k, x.t, x.n, ln⟩]) := by
  cases s with
  | nil => simp at h0
  | cons c r =>
    have h1 : c ≠ 10 := hd.1
    have h2 : c ≠ 32 := hd.2.1
    have h3 : c ≠ 9 := hd.2.2.1
    have h4 : c ≠ 35 := hd.2.2.2
    rw [List.cons_append] at h ⊢
    rw [tk_cons, if_neg h1, if_neg (fun e => e.elim h2 h3), if_neg h4, h, if_pos rfl, ← List.cons_append, List.drop_left' rfl]
set_option maxRecDepth 100000 in
/-- joined tokens are read as the tokens -/
theorem tk_cat : ∀ (M L : List Tk) (_ : ∀ x ∈ M, valT x = true ∧ x.n ≤ 9223372036854775807), tk (catT M) 1 L = (L ++ M.map at1, 0, 0)
  | [], L, _ => by show tk [] 1 L = _; rw [tk_nil]; simp
  | [x], L, h => by
    obtain ⟨h1, h2, h3⟩ := tok_txt (h x (by simp)).1 (h x (by simp)).2
    show tk (txtT x) 1 L = _
    have e := tk_one (b := []) (ln := 1) (L := L) h3 h2 (by rw [List.append_nil]; exact h1)
    rw [List.append_nil] at e
    rw [e, tk_nil]; rfl
  | x :: y :: r, L, h => by
    obtain ⟨h1, h2, h3⟩ := tok_txt (h x (by simp)).1 (h x (by simp)).2
    show tk (txtT x ++ 32 :: catT (y :: r)) 1 L = _
    have ha : tokS (txtT x ++ 32 :: catT (y :: r)) = (⟨x.k, x.t, x.n, 0⟩, (txtT x).length, 0) := by rw [tok_app sep32 (by rw [h1])]; exact h1
    rw [tk_one h3 h2 ha, tk_cons, if_neg (by decide), if_pos (.inl rfl), tk_cat (y :: r) _ (fun z hz => h z (by simp [hz]))]
    simp [at1]
set_option maxRecDepth 100000 in
theorem join_trip {M : List Tk} (hn : ∀ x ∈ M, x.n ≤ 9223372036854775807) (h : (joinT M).2 = 0) : tokenS (joinT M).1 = (M.map at1, 0, 0) := by
  unfold joinT at h ⊢
  by_cases h1 : M.all valT = true
  · rw [if_pos h1] at h ⊢
    by_cases h2 : 16384 < (catT M).length
    · rw [if_pos h2] at h; exact absurd h (by decide)
    · rw [if_neg h2]
      show tokenS (catT M) = _
      rw [tokenS_tk h2, tk_cat M [] (fun x hx => ⟨List.all_eq_true.1 h1 x hx, hn x hx⟩)]; rfl
  · rw [if_neg h1] at h; exact absurd h (by decide)
end Go.Proofs.YtkmmdkklpbafdaaGreatDoor
