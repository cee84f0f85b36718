/- Layer 5's round trips, on plain lists. No conditions. -/
import Derived.Test.YtmffdoblpkjmjaaDoorValP
namespace Go.Proofs.YtmffdoblpkjmjaaDoor
open Go.RowKit

theorem zig_zag (n : Int) : zag (zig n) = n := by
  unfold zag zig
  by_cases h : n < 0
  · rw [if_pos h, if_pos (by omega)]; omega
  · rw [if_neg h, if_neg (by omega)]; omega
theorem zag_zig (u : Nat) : zig (zag u) = u := by
  unfold zag zig
  by_cases h : u % 2 = 1
  · rw [if_pos h, if_pos (by omega)]; omega
  · rw [if_neg h, if_neg (by omega)]; omega
theorem zig_small (n : Int) (h0 : -9223372036854775808 ≤ n) (h1 : n ≤ 9223372036854775807) : zig n < 18446744073709551616 := by unfold zig; split <;> omega
theorem zag_small (u : Nat) (h : u < 18446744073709551616) : -9223372036854775808 ≤ zag u ∧ zag u ≤ 9223372036854775807 := by unfold zag; split <;> omega
theorem take_at (u : Nat) (hu : u < 18446744073709551616) {s pre rest : List UInt8} (h : s = pre ++ (uintS u ++ rest)) : takeS s (pre.length : Int) = (u, ((pre.length + (uintS u).length : Nat) : Int), 0) := by
  rw [h]; exact take_uint u hu pre rest
/-- what a quoted string's bytes give back -/
theorem unq_esc : ∀ (l acc : List UInt8), l.all okc = true → unq acc (l.flatMap esc ++ [34]) = (acc ++ l, true)
  | [], acc, _ => by simp [unq]
  | c :: r, acc, h => by
    have hc : okc c = true ∧ r.all okc = true := by simpa using h
    rw [List.flatMap_cons]
    by_cases h1 : c = 34 ∨ c = 92
    · have e : esc c = [92, c] := by unfold esc; rw [if_pos h1]
      rw [e]
      show unq acc (92 :: c :: (r.flatMap esc ++ [34])) = _
      rw [unq, if_neg (by decide), if_pos rfl, if_pos h1, unq_esc r _ hc.2]; simp
    · have e : esc c = [c] := by unfold esc; rw [if_neg h1]
      rw [e]
      show unq acc (c :: (r.flatMap esc ++ [34])) = _
      rw [unq.eq_def]
      simp only
      rw [if_neg (fun e => h1 (.inl e)), if_neg (fun e => h1 (.inr e)), if_pos hc.1, unq_esc r _ hc.2]; simp
theorem unq_inv : ∀ (s acc : List UInt8), (unq acc s).2 = true → ∃ l, (unq acc s).1 = acc ++ l ∧ l.all okc = true ∧ s = l.flatMap esc ++ [34]
  | [], acc, h => by simp [unq] at h
  | c :: r, acc, h => by
    rw [unq.eq_def] at h ⊢
    simp only at h ⊢
    by_cases h1 : c = 34
    · rw [if_pos h1] at h ⊢
      simp only [List.isEmpty_iff] at h ⊢
      exact ⟨[], by simp, rfl, by rw [h1, h]; rfl⟩
    · rw [if_neg h1] at h ⊢
      by_cases h2 : c = 92
      · rw [if_pos h2] at h ⊢
        cases r with
        | nil => simp at h
        | cons d t =>
          simp only at h ⊢
          by_cases h3 : d = 34 ∨ d = 92
          · rw [if_pos h3] at h ⊢
            obtain ⟨l, q1, q2, q3⟩ := unq_inv t _ h
            refine ⟨d :: l, by rw [q1]; simp, ?_, ?_⟩
            · rw [List.all_cons, q2]
              rcases h3 with e | e <;> rw [e] <;> rfl
            · have e : esc d = [92, d] := by unfold esc; rw [if_pos h3]
              rw [List.flatMap_cons, e, h2]
              conv => lhs; rw [q3]
              rfl
          · rw [if_neg h3] at h; simp at h
      · rw [if_neg h2] at h ⊢
        by_cases h3 : okc c = true
        · rw [if_pos h3] at h ⊢
          obtain ⟨l, q1, q2, q3⟩ := unq_inv r _ h
          refine ⟨c :: l, by rw [q1]; simp, by rw [List.all_cons, h3, q2]; rfl, ?_⟩
          have e : esc c = [c] := by unfold esc; rw [if_neg (fun e => e.elim h1 h2)]
          rw [List.flatMap_cons, e]
          conv => lhs; rw [q3]
          rfl
        · rw [if_neg h3] at h; simp at h
theorem plB_iff (l : List UInt8) : plB l = true ↔ l.all okc = true ∧ l.length ≤ 64 := by unfold plB; rw [Bool.and_eq_true, decide_eq_true_eq]
theorem quoS_head (l : List UInt8) : (quoS l).head? = some 34 := rfl
theorem parV_quo (l : List UInt8) (h : plB l = true) : parV (quoS l) = (⟨2, 0, l⟩, 0) := by
  obtain ⟨h1, h2⟩ := (plB_iff l).1 h
  unfold parV
  rw [if_neg (fun e => by have := congrArg List.head? e; rw [quoS_head] at this; exact absurd this (by decide)), if_pos (quoS_head l)]
  have e : unq [] (quoS l).tail = (l, true) := by show unq [] (l.flatMap esc ++ [34]) = _; rw [unq_esc l [] h1]; rfl
  rw [e, if_pos rfl, if_neg (by show ¬ 64 < l.length; omega)]
/-- the first byte of a number -/
theorem good_head {s : List UInt8} (h : good s = true) : s ≠ nilT ∧ s.head? ≠ some 34 := by
  unfold good at h
  rw [Bool.and_eq_true] at h
  have hd : ∀ c r, canon (c :: r) = true → isDig c = true := by intro c r hc; have := canon_all hc; rw [List.all_cons, Bool.and_eq_true] at this; exact this.1
  constructor
  · intro e; subst e; exact absurd h.1 (by decide)
  · intro e
    obtain ⟨r, rfl⟩ : ∃ r, s = 34 :: r := by
      cases s with
      | nil => simp at e
      | cons c r => simp at e; exact ⟨r, by rw [e]⟩
    have hb : body (34 :: r) = 34 :: r := by unfold body; rw [if_neg (by unfold minus; simp)]
    rw [hb] at h
    exact absurd (hd _ _ h.1) (by decide)
theorem parV_int (n : Int) (h0 : -9223372036854775808 ≤ n) (h1 : n ≤ 9223372036854775807) : parV (Lib.itoa n) = (⟨1, n, []⟩, 0) := by
  obtain ⟨g1, g2⟩ := good_head (itoa_good n).1
  unfold parV
  rw [if_neg g1, if_neg g2, parse_itoa n ((fits_iff n).2 ⟨h0, h1⟩), if_pos rfl]
theorem vaB_iff (v : Vl) : vaB v = true ↔ (v.k = 0 ∧ v.n = 0 ∧ v.s = []) ∨ (v.k = 1 ∧ v.s = []) ∨ (v.k = 2 ∧ v.n = 0 ∧ plB v.s = true) := by
  unfold vaB
  by_cases h0 : v.k = 0
  · rw [if_pos h0, Bool.and_eq_true, decide_eq_true_eq, beq_iff_eq]; simp [h0]
  · rw [if_neg h0]
    by_cases h1 : v.k = 1
    · rw [if_pos h1, beq_iff_eq]; simp [h1]
    · rw [if_neg h1]
      by_cases h2 : v.k = 2
      · rw [if_pos h2, Bool.and_eq_true, decide_eq_true_eq]; simp [h2]
      · rw [if_neg h2]; simp [h0, h1, h2]
theorem parV_fmtV (v : Vl) (hn0 : -9223372036854775808 ≤ v.n) (hn1 : v.n ≤ 9223372036854775807) (h : vaB v = true) : parV (fmtV v) = (v, 0) := by
  unfold fmtV
  rw [if_pos h]
  obtain ⟨k, n, s⟩ := v
  rcases (vaB_iff _).1 h with ⟨h1, h2, h3⟩ | ⟨h1, h2⟩ | ⟨h1, h2, h3⟩
  · simp only at h1 h2 h3 ⊢; subst h1 h2 h3; rfl
  · simp only at h1 h2 hn0 hn1 ⊢; subst h1 h2; rw [if_neg (by decide), if_pos rfl]; exact parV_int n hn0 hn1
  · simp only at h1 h2 h3 ⊢; subst h1 h2; rw [if_neg (by decide), if_neg (by decide)]; exact parV_quo s h3
theorem fmtV_parV (s : List UInt8) (v : Vl) (h : parV s = (v, 0)) : vaB v = true ∧ fmtV v = s := by
  unfold parV at h
  by_cases h1 : s = nilT
  · rw [if_pos h1] at h
    injection h with h _; subst h; exact ⟨rfl, h1.symm⟩
  · rw [if_neg h1] at h
    by_cases h2 : s.head? = some 34
    · rw [if_pos h2] at h
      by_cases h3 : (unq [] s.tail).2 = true
      · rw [if_pos h3] at h
        by_cases h4 : 64 < (unq [] s.tail).1.length
        · rw [if_pos h4] at h; injection h with _ h; exact absurd h (by decide)
        · rw [if_neg h4] at h
          injection h with h _
          obtain ⟨l, q1, q2, q3⟩ := unq_inv _ _ h3
          rw [List.nil_append] at q1
          rw [q1] at h h4
          have hp : plB l = true := (plB_iff l).2 ⟨q2, by omega⟩
          subst h
          have hv : vaB ⟨2, 0, l⟩ = true := (vaB_iff _).2 (.inr (.inr ⟨rfl, rfl, hp⟩))
          refine ⟨hv, ?_⟩
          unfold fmtV
          rw [if_pos hv, if_neg (by show ¬ (2 : Int) = 0; decide), if_neg (by show ¬ (2 : Int) = 1; decide)]
          show 34 :: (l.flatMap esc ++ [34]) = s
          rw [← q3]
          cases s with
          | nil => simp at h2
          | cons c r => simp at h2; rw [h2]; rfl
      · rw [if_neg h3] at h; injection h with _ h; exact absurd h (by decide)
    · rw [if_neg h2] at h
      by_cases h3 : (parseS s).2 = 0
      · rw [if_pos h3] at h
        injection h with h _; subst h
        have hv : vaB ⟨1, (parseS s).1, []⟩ = true := rfl
        refine ⟨hv, ?_⟩
        unfold fmtV
        rw [if_pos hv, if_neg (by show ¬ (1 : Int) = 0; decide), if_pos rfl]
        exact itoa_parse s _ (by rw [← h3])
      · rw [if_neg h3] at h; injection h with _ h; exact absurd h h3
/-- what was encoded is decoded, whatever follows -/
theorem takeI_at (n : Int) (h0 : -9223372036854775808 ≤ n) (h1 : n ≤ 9223372036854775807) {s pre rest : List UInt8} (h : s = pre ++ (uintS (zig n) ++ rest)) :
    takeI s (pre.length : Int) = (n, ((pre.length + (uintS (zig n)).length : Nat) : Int), 0) := by
  unfold takeI
  rw [take_at (zig n) (zig_small n h0 h1) h, if_pos rfl, zig_zag]
theorem takeT_at (t : List UInt8) (m : Nat) (ht : t.length ≤ m) (hm : m < 18446744073709551616) {s pre rest : List UInt8} (h : s = pre ++ (textS t ++ rest)) :
    takeT s (pre.length : Int) (m : Int) = (t, ((pre.length + (textS t).length : Nat) : Int), 0) := by
  unfold textS at h ⊢
  rw [List.append_assoc] at h
  unfold takeT
  rw [take_at t.length (by omega) h, if_pos rfl]
  have hs : s.length = pre.length + ((uintS t.length).length + (t.length + rest.length)) := by rw [h]; simp
  rw [if_neg (by show ¬ ((m : Int) < 0 ∨ (m : Int) < (t.length : Int)); omega), if_neg (by show ¬ ((s.length : Int) - ((pre.length + (uintS t.length).length : Nat) : Int) < (t.length : Int)); omega)]
  have hd : s.drop (((pre.length + (uintS t.length).length : Nat) : Int)).toNat = t ++ rest := by
    rw [Int.toNat_natCast, h, ← List.append_assoc, ← List.append_assoc, List.append_assoc, List.drop_left' (by simp)]
  show ((s.drop (((pre.length + (uintS t.length).length : Nat) : Int)).toNat).take t.length, ((pre.length + (uintS t.length).length : Nat) : Int) + ((t.length : Nat) : Int), (0 : Int)) = _
  rw [hd, List.take_left']
  · simp only [Prod.mk.injEq, and_true, true_and, List.length_append]; omega
  · rfl
theorem decV_encV (v : Vl) (hn0 : -9223372036854775808 ≤ v.n) (hn1 : v.n ≤ 9223372036854775807) (h : vaB v = true) (rest : List UInt8) : decV (encV v ++ rest) 0 = (v, ((encV v).length : Int), 0) := by
  obtain ⟨k, n, s⟩ := v
  rcases (vaB_iff _).1 h with ⟨h1, h2, h3⟩ | ⟨h1, h2⟩ | ⟨h1, h2, h3⟩
  · simp only at h1 h2 h3 ⊢; subst h1 h2 h3
    have he : encV ⟨0, 0, []⟩ = uintS 0 := rfl
    rw [he]; unfold decV
    have e := take_uint 0 (by decide) [] rest
    rw [List.nil_append] at e
    have e' : takeS (uintS 0 ++ rest) 0 = (0, (([].length + (uintS 0).length : Nat) : Int), 0) := e
    rw [e', if_pos rfl, if_pos rfl]; simp [v00]
  · simp only at h1 h2 hn0 hn1 ⊢; subst h1 h2
    have he : encV ⟨1, n, []⟩ = uintS 1 ++ uintS (zig n) := rfl
    rw [he]; unfold decV
    have hx : uintS 1 ++ uintS (zig n) ++ rest = [] ++ (uintS 1 ++ (uintS (zig n) ++ rest)) := by simp
    have e' : takeS (uintS 1 ++ uintS (zig n) ++ rest) 0 = (1, (([].length + (uintS 1).length : Nat) : Int), 0) := take_at 1 (by decide) hx
    rw [e', if_pos rfl, if_neg (by decide), if_pos rfl]
    have e2 : takeI (uintS 1 ++ uintS (zig n) ++ rest) ((([] : List UInt8).length + (uintS 1).length : Nat) : Int) = _ := takeI_at n hn0 hn1 (pre := uintS 1) (rest := rest) (by simp)
    rw [e2, if_pos rfl]; simp
  · simp only at h1 h2 h3 ⊢; subst h1 h2
    have he : encV ⟨2, 0, s⟩ = uintS 2 ++ textS s := rfl
    rw [he]; unfold decV
    have hx : uintS 2 ++ textS s ++ rest = [] ++ (uintS 2 ++ (textS s ++ rest)) := by simp
    have e' : takeS (uintS 2 ++ textS s ++ rest) 0 = (2, (([].length + (uintS 2).length : Nat) : Int), 0) := take_at 2 (by decide) hx
    rw [e', if_pos rfl, if_neg (by decide), if_neg (by decide), if_pos rfl]
    have e2 : takeT (uintS 2 ++ textS s ++ rest) ((([] : List UInt8).length + (uintS 2).length : Nat) : Int) 64 = _ := takeT_at s 64 ((plB_iff s).1 h3).2 (by decide) (pre := uintS 2) (rest := rest) (by simp)
    rw [e2, if_pos rfl, if_pos h3]; simp
/-- what is decoded was encoded -/
theorem takeI_inv {s : List UInt8} {at_ : Nat} (h : (takeI s at_).2.2 = 0) : ∃ n rest, -9223372036854775808 ≤ n ∧ n ≤ 9223372036854775807 ∧ at_ ≤ s.length ∧ takeI s at_ = (n, ((at_ + (uintS (zig n)).length : Nat) : Int), 0) ∧ s.drop at_ = uintS (zig n) ++ rest := by
  unfold takeI at h ⊢
  by_cases h1 : (takeS s at_).2.2 = 0
  · rw [if_pos h1]
    obtain ⟨u, rest, q1, q2, q3, q4⟩ := take_inv h1
    refine ⟨zag u, rest, (zag_small u q1).1, (zag_small u q1).2, q2, ?_, by rw [zag_zig]; exact q4⟩
    rw [q3, zag_zig]
  · rw [if_neg h1] at h; exact absurd h h1
theorem takeT_inv {s : List UInt8} {at_ : Nat} {most : Int} (h : (takeT s at_ most).2.2 = 0) : ∃ t rest, (t.length : Int) ≤ most ∧ at_ ≤ s.length ∧ takeT s at_ most = (t, ((at_ + (textS t).length : Nat) : Int), 0) ∧ s.drop at_ = textS t ++ rest := by
  unfold takeT at h ⊢
  by_cases h1 : (takeS s at_).2.2 = 0
  · rw [if_pos h1] at h ⊢
    obtain ⟨u, rest, q1, q2, q3, q4⟩ := take_inv h1
    rw [q3] at h ⊢
    simp only at h ⊢
    by_cases h2 : most < 0 ∨ most < (u : Int)
    · rw [if_pos h2] at h; exact absurd h (by decide)
    · rw [if_neg h2] at h ⊢
      by_cases h3 : (s.length : Int) - ((at_ + (uintS u).length : Nat) : Int) < (u : Int)
      · rw [if_pos h3] at h; exact absurd h (by decide)
      · rw [if_neg h3]
        have hl : (uintS u).length + rest.length = s.length - at_ := by rw [← List.length_append, ← q4, List.length_drop]
        have hr : u ≤ rest.length := by omega
        have hd : s.drop (((at_ + (uintS u).length : Nat) : Int)).toNat = rest := by
          rw [Int.toNat_natCast, ← List.drop_drop, q4, List.drop_left' rfl]
        have hlen : (rest.take u).length = u := by rw [List.length_take]; omega
        refine ⟨rest.take u, rest.drop u, by rw [hlen]; omega, q2, ?_, ?_⟩
        · rw [hd]; simp only [Prod.mk.injEq, and_true, true_and, textS, List.length_append, hlen]; omega
        · rw [q4, textS, hlen, List.append_assoc, List.take_append_drop]
  · rw [if_neg h1] at h; exact absurd h h1
theorem encV_decV (s : List UInt8) (v : Vl) (next : Int) (h : decV s 0 = (v, next, 0)) :
    vaB v = true ∧ -9223372036854775808 ≤ v.n ∧ v.n ≤ 9223372036854775807 ∧ next = ((encV v).length : Int) ∧ ∃ rest, s = encV v ++ rest := by
  have h00 : ((0 : Nat) : Int) = 0 := rfl
  unfold decV at h
  by_cases h1 : (takeS s 0).2.2 = 0
  · rw [if_pos h1] at h
    obtain ⟨u, rest, q1, q2, q3, q4⟩ := take_inv (at_ := 0) h1
    rw [h00] at q3
    rw [q3] at h
    simp only at h
    rw [List.drop_zero] at q4
    rw [Nat.zero_add] at h
    by_cases c0 : u = 0
    · rw [if_pos c0] at h
      subst c0
      simp only [Prod.mk.injEq, and_true] at h
      obtain ⟨rfl, rfl⟩ := h
      exact ⟨rfl, by decide, by decide, rfl, rest, q4⟩
    · rw [if_neg c0] at h
      by_cases c1 : u = 1
      · rw [if_pos c1] at h
        subst c1
        by_cases h2 : (takeI s ((uintS 1).length : Int)).2.2 = 0
        · rw [if_pos h2] at h
          obtain ⟨n, r2, p1, p2, p3, p4, p5⟩ := takeI_inv h2
          rw [p4] at h
          simp only [Prod.mk.injEq, and_true] at h
          obtain ⟨rfl, rfl⟩ := h
          have er : rest = uintS (zig n) ++ r2 := by rw [← p5, q4, List.drop_left' rfl]
          refine ⟨rfl, p1, p2, ?_, r2, ?_⟩
          · show _ = ((uintS 1 ++ uintS (zig n)).length : Int); rw [List.length_append]
          · show s = (uintS 1 ++ uintS (zig n)) ++ r2; rw [List.append_assoc, ← er]; exact q4
        · rw [if_neg h2] at h
          simp only [Prod.mk.injEq] at h
          exact absurd h.2.2 h2
      · rw [if_neg c1] at h
        by_cases c2 : u = 2
        · rw [if_pos c2] at h
          subst c2
          by_cases h2 : (takeT s ((uintS 2).length : Int) 64).2.2 = 0
          · rw [if_pos h2] at h
            obtain ⟨t, r2, p1, p3, p4, p5⟩ := takeT_inv h2
            rw [p4] at h
            simp only at h
            by_cases h3 : plB t = true
            · rw [if_pos h3] at h
              simp only [Prod.mk.injEq, and_true] at h
              obtain ⟨rfl, rfl⟩ := h
              have er : rest = textS t ++ r2 := by rw [← p5, q4, List.drop_left' rfl]
              refine ⟨(vaB_iff _).2 (.inr (.inr ⟨rfl, rfl, h3⟩)), by show (-9223372036854775808 : Int) ≤ 0; decide, by show (0 : Int) ≤ 9223372036854775807; decide, ?_, r2, ?_⟩
              · show _ = ((uintS 2 ++ textS t).length : Int); rw [List.length_append]
              · show s = (uintS 2 ++ textS t) ++ r2; rw [List.append_assoc, ← er]; exact q4
            · rw [if_neg h3] at h; simp only [Prod.mk.injEq] at h; exact absurd h.2.2 (by decide)
          · rw [if_neg h2] at h; simp only [Prod.mk.injEq] at h; exact absurd h.2.2 h2
        · rw [if_neg c2] at h; simp only [Prod.mk.injEq] at h; exact absurd h.2.2 (by decide)
  · rw [if_neg h1] at h; simp only [Prod.mk.injEq] at h; exact absurd h.2.2 h1
theorem encV_pos (v : Vl) : 1 ≤ (encV v).length := by
  have : ∀ u, 1 ≤ (uintS u).length := fun u => (uintF_len 9 u).1
  unfold encV; split
  · rw [List.length_append]; have := this 1; omega
  · split
    · rw [List.length_append]; have := this 2; omega
    · exact this 0
theorem fmt_inj (a b : Vl) (a0 : -9223372036854775808 ≤ a.n) (a1 : a.n ≤ 9223372036854775807) (b0 : -9223372036854775808 ≤ b.n) (b1 : b.n ≤ 9223372036854775807) (ha : vaB a = true) (hb : vaB b = true) (h : fmtV a = fmtV b) : a = b := by
  have e1 := parV_fmtV a a0 a1 ha
  rw [h, parV_fmtV b b0 b1 hb] at e1
  injection e1 with e _; exact e.symm
theorem enc_free (a b : Vl) (a0 : -9223372036854775808 ≤ a.n) (a1 : a.n ≤ 9223372036854775807) (b0 : -9223372036854775808 ≤ b.n) (b1 : b.n ≤ 9223372036854775807) (ha : vaB a = true) (hb : vaB b = true) (h : (encV b).take (encV a).length = encV a) : a = b := by
  have e1 := decV_encV a a0 a1 ha ((encV b).drop (encV a).length)
  have e3 : encV a ++ (encV b).drop (encV a).length = encV b ++ [] := by
    rw [List.append_nil]
    refine Eq.trans ?_ (List.take_append_drop (encV a).length (encV b))
    rw [h]
  rw [e3, decV_encV b b0 b1 hb []] at e1
  simp only [Prod.mk.injEq] at e1
  exact e1.1.symm
end Go.Proofs.YtmffdoblpkjmjaaDoor
