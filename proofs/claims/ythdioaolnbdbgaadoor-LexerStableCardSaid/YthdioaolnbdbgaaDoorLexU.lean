/- Layer 7: the tokens of a text are valid and in order, on plain lists. No conditions. -/
import Derived.Test.YthdioaolnbdbgaaDoorLexT
namespace Go.Proofs.YthdioaolnbdbgaaDoor
open Go.RowKit

theorem lit_inv : ∀ (r acc : List UInt8) (i : Nat), acc.length ≤ 64 → (lit acc r i).2.2 = 0 → ∃ l, (lit acc r i).1 = acc ++ l ∧ l.all okc = true ∧ acc.length + l.length ≤ 64 ∧ (lit acc r i).2.1 = i + (l.flatMap esc).length + 1
  | [], acc, i, _, h => by simp [lit] at h
  | c :: r, acc, i, hl, h => by
    rw [lit_cons] at h ⊢
    by_cases h1 : c = 34
    · rw [if_pos h1]; exact ⟨[], by simp, rfl, by simpa using hl, rfl⟩
    · rw [if_neg h1] at h ⊢
      by_cases h2 : c = 92
      · rw [if_pos h2] at h ⊢
        cases r with
        | nil => simp at h
        | cons d t =>
          simp only at h ⊢
          by_cases h3 : d = 34 ∨ d = 92
          · rw [if_pos h3] at h ⊢
            by_cases h4 : acc.length = 64
            · rw [if_pos h4] at h; simp at h
            · rw [if_neg h4] at h ⊢
              obtain ⟨l, q1, q2, q3, q4⟩ := lit_inv t (acc ++ [d]) (i + 2) (by rw [List.length_append, List.length_singleton]; omega) h
              refine ⟨d :: l, by rw [q1]; simp, ?_, ?_, ?_⟩
              · rw [List.all_cons, q2]; rcases h3 with e | e <;> rw [e] <;> rfl
              · rw [List.length_append, List.length_singleton] at q3; rw [List.length_cons]; omega
              · rw [q4, List.flatMap_cons, esc_yes h3, List.length_append]; show i + 2 + _ + 1 = i + (2 + _) + 1; omega
          · rw [if_neg h3] at h; simp at h
      · rw [if_neg h2] at h ⊢
        by_cases h3 : okc c = true
        · rw [if_pos h3] at h ⊢
          by_cases h4 : acc.length = 64
          · rw [if_pos h4] at h; simp at h
          · rw [if_neg h4] at h ⊢
            obtain ⟨l, q1, q2, q3, q4⟩ := lit_inv r (acc ++ [c]) (i + 1) (by rw [List.length_append, List.length_singleton]; omega) h
            refine ⟨c :: l, by rw [q1]; simp, by rw [List.all_cons, h3, q2]; rfl, ?_, ?_⟩
            · rw [List.length_append, List.length_singleton] at q3; rw [List.length_cons]; omega
            · rw [q4, List.flatMap_cons, esc_no (fun e => e.elim h1 h2), List.length_append]; show i + 1 + _ + 1 = i + (1 + _) + 1; omega
        · rw [if_neg h3] at h; simp at h
theorem parse_nn {w : List UInt8} (hp : ∀ c ∈ w, prt c = true) (h : (parseS w).2 = 0) : 0 ≤ (parseS w).1 ∧ (parseS w).1 ≤ 9223372036854775807 ∧ Lib.itoa (parseS w).1 = w := by
  have hb := parseS_bd w
  refine ⟨?_, hb.2, itoa_parse w _ (by rw [← h])⟩
  have hm : minus w = false := by
    rw [Bool.eq_false_iff]; intro hm
    have := minus_iff.1 hm
    cases w with
    | nil => simp at this
    | cons c r =>
      have hc : c = 45 := by simpa using this
      have := hp c (by simp)
      rw [hc] at this; exact absurd this (by decide)
  unfold parseS
  split
  · split
    · unfold sval; rw [hm]; simp
    · simp
  · simp
/-- a token that is read is valid, and its own text is no longer than what was read -/
theorem tok_val {s : List UInt8} {x : Tk} {n : Nat} (h : tokS s = (x, n, 0)) (ln : Int) : valT ⟨x.k, x.t, x.n, ln⟩ = true ∧ 0 ≤ x.n ∧ x.n ≤ 9223372036854775807 ∧ (txtT ⟨x.k, x.t, x.n, ln⟩).length ≤ n := by
  unfold tokS at h
  by_cases h1 : 0 < wlen s
  · rw [if_pos h1] at h
    have hpr := wlen_take s
    have hwl := wlen_le s
    have htl : (s.take (wlen s)).length = wlen s := by rw [List.length_take]; omega
    obtain ⟨w, hw⟩ : ∃ w, s.take (wlen s) = w := ⟨_, rfl⟩
    rw [hw] at h hpr htl
    have h0 : 0 < w.length := by omega
    simp only [Prod.mk.injEq] at h
    obtain ⟨hx, hn, he⟩ := h
    rw [wTok_eq h0] at hx he
    by_cases h2 : ltr w[0] = true
    · rw [if_pos h2] at hx he
      by_cases h3 : isKw w = true
      · rw [if_pos h3] at hx; subst hx
        refine ⟨?_, Int.le_refl _, by simp, by show w.length ≤ n; omega⟩
        show (isKw w && decide ((0 : Int) = 0)) = true
        rw [h3]; rfl
      · rw [if_neg h3] at hx he
        by_cases h4 : isNm w = true
        · rw [if_pos h4] at hx; subst hx
          refine ⟨?_, Int.le_refl _, by simp, by show w.length ≤ n; omega⟩
          show (isNm w && decide ((0 : Int) = 0)) = true
          rw [h4]; rfl
        · rw [if_neg h4] at he; exact absurd he (by decide)
    · rw [if_neg h2] at hx he
      by_cases h3 : (parseS w).2 = 0
      · rw [if_pos h3] at hx; subst hx
        obtain ⟨p1, p2, p3⟩ := parse_nn hpr h3
        refine ⟨?_, p1, p2, ?_⟩
        · show ((([] : List UInt8) == []) && decide (0 ≤ (parseS w).1)) = true
          rw [decide_eq_true p1]; rfl
        · show (Lib.itoa (parseS w).1).length ≤ n
          rw [p3]; omega
      · rw [if_neg h3] at he; exact absurd he h3
  · rw [if_neg h1] at h
    by_cases h2 : s.head? = some 34
    · rw [if_pos h2] at h
      simp only [Prod.mk.injEq] at h
      obtain ⟨hx, hn, he⟩ := h
      obtain ⟨l, q1, q2, q3, q4⟩ := lit_inv (s.drop 1) [] 1 (by simp) he
      rw [q1, List.nil_append] at hx
      rw [q4] at hn
      subst hx
      rw [List.length_nil] at q3
      refine ⟨?_, Int.le_refl _, by simp, ?_⟩
      · show (decide (l.length ≤ 64) && (l.all okc && decide ((0 : Int) = 0))) = true
        rw [decide_eq_true (by omega), q2]; rfl
      · rw [txt_4 rfl]
        show (quoL l).1.length ≤ n
        rw [quoL_ok (by omega) q2]
        show (quoS l).length ≤ n
        unfold quoS; rw [List.length_cons, List.length_append, List.length_singleton]; omega
    · rw [if_neg h2] at h
      by_cases h3 : mkS s = []
      · rw [if_pos h3] at h; simp at h
      · rw [if_neg h3] at h
        simp only [Prod.mk.injEq] at h
        obtain ⟨hx, hn, _⟩ := h
        subst hx
        refine ⟨?_, Int.le_refl _, by simp, by show (mkS s).length ≤ n; omega⟩
        show (decide (mkS s ∈ MK) && decide ((0 : Int) = 0)) = true
        rw [decide_eq_true (mkS_mem h3)]; rfl
def sumT : List Tk → Nat
  | [] => 0
  | x :: r => (txtT x).length + sumT r
theorem sumT_snoc (L : List Tk) (x : Tk) : sumT (L ++ [x]) = sumT L + (txtT x).length := by
  induction L with
  | nil => simp [sumT]
  | cons y r ih => show (txtT y).length + sumT (r ++ [x]) = (txtT y).length + sumT r + (txtT x).length; omega
theorem cat_sum : ∀ M : List Tk, (catT M).length ≤ sumT M + M.length
  | [] => Nat.le_refl _
  | [x] => by show (txtT x).length ≤ (txtT x).length + 0 + 1; omega
  | x :: y :: r => by
    have := cat_sum (y :: r)
    show (txtT x ++ 32 :: catT (y :: r)).length ≤ (txtT x).length + sumT (y :: r) + ((y :: r).length + 1)
    rw [List.length_append, List.length_cons]; omega
/-- what holds of the tokens of a text -/
def Nice (L : List Tk) (ln : Int) : Prop := (∀ x ∈ L, valT x = true ∧ 0 ≤ x.n ∧ x.n ≤ 9223372036854775807 ∧ 1 ≤ x.ln ∧ x.ln ≤ ln) ∧ L.Pairwise fun a b => a.ln ≤ b.ln
theorem Nice.mono {L : List Tk} {a b : Int} (h : Nice L a) (hab : a ≤ b) : Nice L b := ⟨fun x hx => by have := h.1 x hx; exact ⟨this.1, this.2.1, this.2.2.1, this.2.2.2.1, by omega⟩, h.2⟩
theorem tk_nice : ∀ (n : Nat) (s : List UInt8) (ln : Int) (L M : List Tk) (r : Int), s.length ≤ n → 1 ≤ ln → Nice L ln → tk s ln L = (M, r, 0) → Nice M (ln + (s.length : Int)) ∧ sumT M ≤ sumT L + s.length := by
  intro n
  induction n with
  | zero =>
    intro s ln L M r hs _ hL h
    have : s = [] := List.eq_nil_of_length_eq_zero (by omega)
    subst this
    rw [tk_nil] at h
    injection h with h _
    subst h
    exact ⟨hL.mono (by simp), Nat.le_refl _⟩
  | succ n ih =>
    intro s ln L M r hs h1 hL h
    cases s with
    | nil => exact ih [] ln L M r (Nat.zero_le _) h1 hL h
    | cons c q =>
      rw [List.length_cons] at hs ⊢
      rw [tk_cons] at h
      split at h
      · have := ih q (ln + 1) L M r (by omega) (by omega) (hL.mono (by omega)) h
        exact ⟨this.1.mono (by omega), by omega⟩
      · split at h
        · have := ih q ln L M r (by omega) h1 hL h
          exact ⟨this.1.mono (by omega), by omega⟩
        · split at h
          · have hl := (List.dropWhile_suffix (l := q) fun x => x != 10).length_le
            have := ih _ ln L M r (by omega) h1 hL h
            exact ⟨this.1.mono (by omega), by omega⟩
          · split at h
            · rename_i h4
              have hb := (tokS_len (c :: q)).2 h4
              obtain ⟨x, m, e, hx⟩ : ∃ x m e, tokS (c :: q) = (x, m, e) := ⟨_, _, _, rfl⟩
              rw [hx] at h h4 hb
              simp only at h h4 hb
              subst h4
              obtain ⟨v1, v2, v3, v4⟩ := tok_val hx ln
              rw [List.length_cons] at hb
              have hL2 : Nice (L ++ [⟨x.k, x.t, x.n, ln⟩]) ln := by
                refine ⟨?_, ?_⟩
                · intro y hy
                  rcases List.mem_append.1 hy with hy | hy
                  · exact hL.1 y hy
                  · rw [List.mem_singleton] at hy; subst hy; exact ⟨v1, v2, v3, h1, Int.le_refl _⟩
                · rw [List.pairwise_append]
                  refine ⟨hL.2, List.pairwise_singleton _ _, ?_⟩
                  intro a ha b hb2
                  rw [List.mem_singleton] at hb2; subst hb2
                  exact (hL.1 a ha).2.2.2.2
              have hdl : ((c :: q).drop m).length = q.length + 1 - m := by rw [List.length_drop, List.length_cons]
              have := ih _ ln _ M r (by omega) h1 hL2 h
              rw [sumT_snoc] at this
              exact ⟨this.1.mono (by omega), by omega⟩
            · rename_i h4
              simp only [Prod.mk.injEq] at h
              exact absurd h.2.2 h4
theorem stable_ok {s : List UInt8} {M : List Tk} {r : Int} (hs : s.length ≤ 600) (h : tokenS s = (M, r, 0)) :
    (∀ x ∈ M, valT x = true ∧ 0 ≤ x.n ∧ x.n ≤ 9223372036854775807 ∧ 1 ≤ x.ln ∧ x.ln ≤ 700) ∧ (∀ i (hi : i + 1 < M.length), M[i].ln ≤ M[i + 1].ln) ∧ M.length ≤ 600 ∧ joinT M = (catT M, 0) ∧ (catT M).length ≤ 1200 ∧ tokenS (catT M) = (M.map at1, 0, 0) := by
  have hc := tokenS_count s
  rw [h] at hc
  simp only at hc
  rw [tokenS_tk (by omega)] at h
  obtain ⟨h1, h2⟩ := tk_nice s.length s 1 [] M r (Nat.le_refl _) (Int.le_refl _) ⟨by simp, List.Pairwise.nil⟩ h
  have h3 := cat_sum M
  have h4 : (catT M).length ≤ 1200 := by
    have : sumT ([] : List Tk) = 0 := rfl
    omega
  have hall : M.all valT = true := by rw [List.all_eq_true]; exact fun x hx => (h1.1 x hx).1
  have hj : joinT M = (catT M, 0) := join_ok hall (by omega)
  refine ⟨fun x hx => ?_, ?_, by omega, hj, h4, ?_⟩
  · have := h1.1 x hx; exact ⟨this.1, this.2.1, this.2.2.1, this.2.2.2.1, by omega⟩
  · intro i hi
    exact List.pairwise_iff_getElem.1 h1.2 i (i + 1) (by omega) hi (by omega)
  · have := join_trip (M := M) (fun x hx => (h1.1 x hx).2.2.1) (by rw [hj])
    rw [hj] at this; exact this
theorem stable_err {s : List UInt8} {M : List Tk} {r e : Int} (hs : s.length ≤ 600) (h : tokenS s = (M, r, e)) (he : e ≠ 0) : M = [] := by
  rw [tokenS_tk (by omega)] at h
  have : ∀ (n : Nat) (s : List UInt8) (ln : Int) (L : List Tk), s.length ≤ n → (tk s ln L).2.2 ≠ 0 → (tk s ln L).1 = [] := by
    intro n
    induction n with
    | zero => intro s ln L hs h; have : s = [] := List.eq_nil_of_length_eq_zero (by omega)
              subst this; exact absurd rfl h
    | succ n ih =>
      intro s ln L hs h
      cases s with
      | nil => exact absurd rfl h
      | cons c q =>
        rw [List.length_cons] at hs
        rw [tk_cons] at h ⊢
        split at h
        · rename_i h1; rw [if_pos h1]; exact ih q _ _ (by omega) h
        · rename_i h1
          rw [if_neg h1]
          split at h
          · rename_i h2; rw [if_pos h2]; exact ih q _ _ (by omega) h
          · rename_i h2
            rw [if_neg h2]
            split at h
            · rename_i h3; rw [if_pos h3]; exact ih _ _ _ (by have := (List.dropWhile_suffix (l := q) fun x => x != 10).length_le; omega) h
            · rename_i h3
              rw [if_neg h3]
              split at h
              · rename_i h4
                rw [if_pos h4]
                have hb2 := (tokS_len (c :: q)).2 h4
                exact ih _ _ _ (by rw [List.length_drop, List.length_cons]; omega) h
              · rename_i h4; rw [if_neg h4]
  have h2 := this s.length s 1 [] (Nat.le_refl _) (by rw [h]; exact he)
  rw [h] at h2; exact h2
end Go.Proofs.YthdioaolnbdbgaaDoor
