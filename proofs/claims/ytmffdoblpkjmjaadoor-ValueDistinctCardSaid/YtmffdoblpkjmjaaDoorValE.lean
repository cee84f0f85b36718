/- The walks of layer 5's Format, and of the reference's. No conditions. -/
import Derived.Test.YtmffdoblpkjmjaaDoorValD
namespace Go.Proofs.YtmffdoblpkjmjaaDoor
open Go.RowKit

theorem esc_take (l : List UInt8) (k : Nat) (h : k < l.length) : (l.take (k + 1)).flatMap esc = (l.take k).flatMap esc ++ esc l[k] := by
  rw [ltake_snoc l k h, List.flatMap_append]; simp
theorem esc_yes {c : UInt8} (h : c = 34 ∨ c = 92) : esc c = [92, c] := by unfold esc; rw [if_pos h]
theorem esc_no {c : UInt8} (h : ¬ (c = 34 ∨ c = 92)) : esc c = [c] := by unfold esc; rw [if_neg h]
theorem esc_len (l : List UInt8) : (l.flatMap esc).length ≤ 2 * l.length := by
  induction l with
  | nil => simp
  | cons c r ih =>
    rw [List.flatMap_cons, List.length_append, List.length_cons]
    have : (esc c).length ≤ 2 := by unfold esc; split <;> simp
    omega
theorem is34 {c : UInt8} (h : c = 34) : ((c.toNat : Int) == 34) = true := by rw [h]; rfl
theorem not34 {c : UInt8} (h : c ≠ 34) : ((c.toNat : Int) == 34) = false := by
  rw [beq_eq_false_iff_ne]; intro e; apply h; apply UInt8.toNat_inj.1; show c.toNat = 34; omega
theorem is92 {c : UInt8} (h : c = 92) : ((c.toNat : Int) == 92) = true := by rw [h]; rfl
theorem not92 {c : UInt8} (h : c ≠ 92) : ((c.toNat : Int) == 92) = false := by
  rw [beq_eq_false_iff_ne]; intro e; apply h; apply UInt8.toNat_inj.1; show c.toNat = 92; omega
theorem bc_snoc (l : List UInt8) (c : UInt8) : Lib.byteCells l ++ [.int .u8 (c.toNat : Int)] = Lib.byteCells (l ++ [c]) := by simp [Lib.byteCells]
theorem str_eq {a : ByteArray} {l : List UInt8} (h : a.data.toList = l) : Value.string a = .string (bs l) := by rw [← h, bs_toList]
/-- the builder in block b holds the bytes l -/
def Bd (b : Nat) (l : List UInt8) (w : World) : Prop := Lib.IsBuilder 48 5 b b (Lib.byteCells l) w
theorem Bd.new (w : World) : Bd w.heap.size [] (w.alloc (.cells #[.pointer none, .slice none 0 0] 48)) :=
  .inl ⟨Nat.le_refl _, .slice none 0 0, heap_alloc_new w _, World.ownsRow_nil _ _ _ _, by simp [Value.ownBlock]⟩
theorem Bd.write (b : Nat) (l : List UInt8) (c : UInt8) (w : World) (h : Bd b l w) (hl : l.length ≤ 1000000) (hb : b ≤ w.heap.size) :
    Calls Tryd.prog 35 #[.pointer (some ⟨b, 0, none⟩), .int .u8 (c.toNat : Int)] w fun e w' => e = .returned .nilIface ∧ Bd b (l ++ [c]) w' ∧ Below b w w' := by
  refine (WriteByte_any b b (Lib.byteCells l) (c.toNat : Int) w h (by rw [Lib.byteCells_length]; omega) hb).mono ?_
  rintro e w' ⟨rfl, h1, h2⟩
  rw [bc_snoc] at h1
  exact ⟨rfl, h1, h2⟩
theorem Bd.string (b : Nat) (l : List UInt8) (w : World) (h : Bd b l w) (hb : b ≤ w.heap.size) :
    Calls Tryd.prog 36 #[.pointer (some ⟨b, 0, none⟩)] w fun e w' => e = .returned (.string (bs l)) ∧ Below b w w' := Tryd.Builder_String_any b b l w h hb
theorem vaB_str {k n : Int} {s : List UInt8} (h : vaB ⟨k, n, s⟩ = true) (h0 : k ≠ 0) (h1 : k ≠ 1) : k = 2 ∧ n = 0 ∧ plB s = true ∧ s.length ≤ 64 := by
  unfold vaB at h
  simp only at h
  rw [if_neg h0, if_neg h1] at h
  by_cases h2 : k = 2
  · rw [if_pos h2] at h
    simp only [Bool.and_eq_true, decide_eq_true_eq] at h
    refine ⟨h2, h.1, h.2, ?_⟩
    have := h.2
    unfold plB at this
    simp only [Bool.and_eq_true, decide_eq_true_eq] at this
    exact this.2
  · rw [if_neg h2] at h; cases h

set_option maxRecDepth 100000 in
set_option maxHeartbeats 4000000 in
theorem RQuote_any (l : List UInt8) (hl : l.length ≤ 1000000) (w : World) :
    Calls Tryd.prog 38 #[.string (bs l)] w fun e w' => e = .returned (.string (bs (quoS l))) ∧ w = w' := by
  obtain ⟨q, hq⟩ : ∃ q, quoS l = q := ⟨_, rfl⟩
  rw [hq]
  have HQQ := Lib.hid hq; clear hq
  go_enter Tryd.func38, Tryd.ntmps38
  go_wp2
  go_loop [3, 4] (fun s i => ∃ k : Nat, k ≤ l.length ∧ i = .int .i64 k ∧ s = .string (bs (34 :: (l.take k).flatMap esc))) (fun _ i => l.length - (intOf i).toNat)
  case atStart => exact ⟨0, Nat.zero_le _, rfl, rfl⟩
  case round =>
    obtain ⟨k, hk, rfl, hs⟩ := hrel
    have hln : (34 :: (l.take k).flatMap esc).length ≤ 3000000 := by have h9 := esc_len (l.take k); rw [List.length_take] at h9; rw [List.length_cons]; omega
    obtain ⟨L0, hL0⟩ : ∃ L0, 34 :: (l.take k).flatMap esc = L0 := ⟨_, rfl⟩
    rw [hL0] at hs hln
    subst hs
    have HL0 := Lib.hid hL0; clear hL0
    by_cases hlt : k < l.length
    · have hlt' : (k : Int) < (l.length : Int) := by omega
      have hlt1 : (k : Int) + 1 ≤ (l.length : Int) := by omega
      have hw1 : IntKind.i64.wrap ((k : Int) + 1) = (k : Int) + 1 := by rw [IntKind.wrap_i64]; omega
      have het := esc_take l k hlt
      obtain ⟨c, hc⟩ : ∃ c, l[k] = c := ⟨_, rfl⟩
      have htk : ((l.take (k + 1)).drop k) = [l[k]] := by rw [ltake_snoc l k hlt, List.drop_left' (by rw [List.length_take]; omega)]
      have HTK := Lib.hid htk; have HET := Lib.hid het; clear htk het hc
      by_cases h34 : l[k] = 34
      · have t34 := is34 h34
        have HE := Lib.hid (esc_yes (Or.inl h34)); have HQ := Lib.hid h34; clear h34
        go_wp2
        go_round
        case rel => exact ⟨k + 1, by omega, by go_num, str_eq (by rw [HET.out, HE.out, ← List.cons_append, HL0.out]; simp [bs, HTK.out])⟩
        case measure => simp [intOf]; omega
      · have t34 := not34 h34
        by_cases h92 : l[k] = 92
        · have t92 := is92 h92
          have HE := Lib.hid (esc_yes (Or.inr h92)); clear h34 h92
          go_wp2
          go_round
          case rel => exact ⟨k + 1, by omega, by go_num, str_eq (by rw [HET.out, HE.out, ← List.cons_append, HL0.out]; simp [bs, HTK.out])⟩
          case measure => simp [intOf]; omega
        · have t92 := not92 h92
          have HE := Lib.hid (esc_no (c := l[k]) (by rintro (h | h) <;> contradiction)); clear h34 h92
          go_wp2
          go_round
          case rel => exact ⟨k + 1, by omega, by go_num, str_eq (by rw [HET.out, HE.out, ← List.cons_append, HL0.out]; simp [bs, HTK.out])⟩
          case measure => simp [intOf]; omega
    · have hlt' : ¬ (k : Int) < (l.length : Int) := by omega
      have hq2 : q = L0 ++ [34] := by rw [← HQQ.out, ← HL0.out]; unfold quoS; rw [ltake_all l hlt]; rfl
      have HQ2 := Lib.hid hq2; clear hq2
      go_wp2
      go_ret
      exact ⟨congrArg Ending.returned (str_eq (by rw [HQ2.out]; simp [bs])), rfl⟩
set_option maxRecDepth 100000 in
set_option maxHeartbeats 8000000 in
theorem RVFormat_any (v : Vl) (hn0 : -9223372036854775808 ≤ v.n) (hn1 : v.n ≤ 9223372036854775807) (hl : v.s.length ≤ 1000000) (w : World) :
    Calls Tryd.prog 21 #[.agg (vV v)] w fun e w' => e = .returned (.string (bs (fmtV v))) ∧ Below w.heap.size w w' := by
  obtain ⟨kd, n, s⟩ := v
  simp only at hn0 hn1 hl
  simp only [vV]
  cases hv : vaB ⟨kd, n, s⟩ with
  | false =>
    have hr : fmtV ⟨kd, n, s⟩ = [] := by unfold fmtV; rw [if_neg (by rw [hv]; simp)]
    rw [hr]; clear hr
    have HV := Lib.hid hv; clear hv
    have hb0 := ((Below.refl w.heap.size w).alloc (Nat.le_refl _) (.cells #[.int .i64 kd, .int .i64 n, .string (bs s)] 23))
    have h_HX := (Bx.new w #[.int .i64 kd, .int .i64 n, .string (bs s)] 23)
    have HB := Lib.hid hb0; have HX := Lib.hid h_HX
    clear hb0 h_HX
    go_enter Tryd.func21, Tryd.ntmps21
    go_upto_region 1 with (fail)
    generalize hW0 : w.alloc (.cells #[.int .i64 kd, .int .i64 n, .string (bs s)] 23) = v0 at HB HX ⊢
    clear hW0
    have x0 : v0.cell? ⟨w.heap.size, 0, none⟩ = some (.int .i64 kd) := HX.out.cell 0
    have x1 : v0.cell? ⟨w.heap.size, 1, none⟩ = some (.int .i64 n) := HX.out.cell 1
    have x2 : v0.cell? ⟨w.heap.size, 2, none⟩ = some (.string (bs s)) := HX.out.cell 2
    go_wp2_with fail
    refine (RVValid_any ⟨kd, n, s⟩ (by show s.length ≤ _; omega) _).mono ?_
    rw [HV.out]
    rintro er w1 ⟨rfl, hb1⟩
    have HX := Lib.hid (HX.out.call hb1); have HB := Lib.hid (btrans HB.out HB.out.size hb1); clear hb1
    clear x0 x1 x2
    have x0 : w1.cell? ⟨w.heap.size, 0, none⟩ = some (.int .i64 kd) := HX.out.cell 0
    have x1 : w1.cell? ⟨w.heap.size, 1, none⟩ = some (.int .i64 n) := HX.out.cell 1
    have x2 : w1.cell? ⟨w.heap.size, 2, none⟩ = some (.string (bs s)) := HX.out.cell 2
    go_wp2
    go_ret
    exact ⟨rfl, HB.out⟩
  | true =>
    have hf : fmtV ⟨kd, n, s⟩ = if kd = 0 then nilT else if kd = 1 then Lib.itoa n else quoS s := by unfold fmtV; rw [if_pos hv]
    rw [hf]; clear hf
    have HV := Lib.hid hv; clear hv
    by_cases h0 : kd = 0
    · rw [if_pos h0]
      have t0 : (kd == 0) = true := by rw [h0]; rfl
      have H0 := Lib.hid h0; clear h0
      have hb0 := ((Below.refl w.heap.size w).alloc (Nat.le_refl _) (.cells #[.int .i64 kd, .int .i64 n, .string (bs s)] 23))
      have h_HX := (Bx.new w #[.int .i64 kd, .int .i64 n, .string (bs s)] 23)
      have HB := Lib.hid hb0; have HX := Lib.hid h_HX
      clear hb0 h_HX
      go_enter Tryd.func21, Tryd.ntmps21
      go_upto_region 1 with (fail)
      generalize hW0 : w.alloc (.cells #[.int .i64 kd, .int .i64 n, .string (bs s)] 23) = v0 at HB HX ⊢
      clear hW0
      have x0 : v0.cell? ⟨w.heap.size, 0, none⟩ = some (.int .i64 kd) := HX.out.cell 0
      have x1 : v0.cell? ⟨w.heap.size, 1, none⟩ = some (.int .i64 n) := HX.out.cell 1
      have x2 : v0.cell? ⟨w.heap.size, 2, none⟩ = some (.string (bs s)) := HX.out.cell 2
      go_wp2_with fail
      refine (RVValid_any ⟨kd, n, s⟩ (by show s.length ≤ _; omega) _).mono ?_
      rw [HV.out]
      rintro er w1 ⟨rfl, hb1⟩
      have HX := Lib.hid (HX.out.call hb1); have HB := Lib.hid (btrans HB.out HB.out.size hb1); clear hb1
      clear x0 x1 x2
      have x0 : w1.cell? ⟨w.heap.size, 0, none⟩ = some (.int .i64 kd) := HX.out.cell 0
      have x1 : w1.cell? ⟨w.heap.size, 1, none⟩ = some (.int .i64 n) := HX.out.cell 1
      have x2 : w1.cell? ⟨w.heap.size, 2, none⟩ = some (.string (bs s)) := HX.out.cell 2
      go_wp2
      go_ret
      exact ⟨rfl, HB.out⟩
    have t0 : (kd == 0) = false := by rw [beq_eq_false_iff_ne]; exact h0
    rw [if_neg h0]
    by_cases h1 : kd = 1
    · rw [if_pos h1]
      have t1 : (kd == 1) = true := by rw [h1]; rfl
      have H1 := Lib.hid h1; have H0 := Lib.hid h0; clear h1 h0
      have hb0 := ((Below.refl w.heap.size w).alloc (Nat.le_refl _) (.cells #[.int .i64 kd, .int .i64 n, .string (bs s)] 23))
      have h_HX := (Bx.new w #[.int .i64 kd, .int .i64 n, .string (bs s)] 23)
      have HB := Lib.hid hb0; have HX := Lib.hid h_HX
      clear hb0 h_HX
      go_enter Tryd.func21, Tryd.ntmps21
      go_upto_region 1 with (fail)
      generalize hW0 : w.alloc (.cells #[.int .i64 kd, .int .i64 n, .string (bs s)] 23) = v0 at HB HX ⊢
      clear hW0
      have x0 : v0.cell? ⟨w.heap.size, 0, none⟩ = some (.int .i64 kd) := HX.out.cell 0
      have x1 : v0.cell? ⟨w.heap.size, 1, none⟩ = some (.int .i64 n) := HX.out.cell 1
      have x2 : v0.cell? ⟨w.heap.size, 2, none⟩ = some (.string (bs s)) := HX.out.cell 2
      go_wp2_with fail
      refine (RVValid_any ⟨kd, n, s⟩ (by show s.length ≤ _; omega) _).mono ?_
      rw [HV.out]
      rintro er w1 ⟨rfl, hb1⟩
      have HX := Lib.hid (HX.out.call hb1); have HB := Lib.hid (btrans HB.out HB.out.size hb1); clear hb1
      clear x0 x1 x2
      have x0 : w1.cell? ⟨w.heap.size, 0, none⟩ = some (.int .i64 kd) := HX.out.cell 0
      have x1 : w1.cell? ⟨w.heap.size, 1, none⟩ = some (.int .i64 n) := HX.out.cell 1
      have x2 : w1.cell? ⟨w.heap.size, 2, none⟩ = some (.string (bs s)) := HX.out.cell 2
      go_wp2_with fail
      refine (RFormat_any n _ hn0 hn1).mono ?_
      rintro er w2 ⟨rfl, hb2⟩
      go_wp2
      go_ret
      exact ⟨rfl, btrans HB.out HB.out.size hb2⟩
    have t1 : (kd == 1) = false := by rw [beq_eq_false_iff_ne]; exact h1
    rw [if_neg h1]
    obtain ⟨hk2, hz2, hp2, h64⟩ := vaB_str HV.out h0 h1
    clear hz2 hp2
    have H0 := Lib.hid h0; have H1 := Lib.hid h1; have H2 := Lib.hid hk2; clear h0 h1 hk2
    have hb0 := ((Below.refl w.heap.size w).alloc (Nat.le_refl _) (.cells #[.int .i64 kd, .int .i64 n, .string (bs s)] 23))
    have h_HX := (Bx.new w #[.int .i64 kd, .int .i64 n, .string (bs s)] 23)
    have HB := Lib.hid hb0; have HX := Lib.hid h_HX
    clear hb0 h_HX
    go_enter Tryd.func21, Tryd.ntmps21
    go_upto_region 1 with (fail)
    generalize hW0 : w.alloc (.cells #[.int .i64 kd, .int .i64 n, .string (bs s)] 23) = v0 at HB HX ⊢
    clear hW0
    have x0 : v0.cell? ⟨w.heap.size, 0, none⟩ = some (.int .i64 kd) := HX.out.cell 0
    have x1 : v0.cell? ⟨w.heap.size, 1, none⟩ = some (.int .i64 n) := HX.out.cell 1
    have x2 : v0.cell? ⟨w.heap.size, 2, none⟩ = some (.string (bs s)) := HX.out.cell 2
    go_wp2_with fail
    refine (RVValid_any ⟨kd, n, s⟩ (by show s.length ≤ _; omega) _).mono ?_
    rw [HV.out]
    rintro er w1 ⟨rfl, hb1⟩
    have HX := Lib.hid (HX.out.call hb1); have HB := Lib.hid (btrans HB.out HB.out.size hb1); clear hb1
    clear x0 x1 x2
    have x0 : w1.cell? ⟨w.heap.size, 0, none⟩ = some (.int .i64 kd) := HX.out.cell 0
    have x1 : w1.cell? ⟨w.heap.size, 1, none⟩ = some (.int .i64 n) := HX.out.cell 1
    have x2 : w1.cell? ⟨w.heap.size, 2, none⟩ = some (.string (bs s)) := HX.out.cell 2
    go_wp2_with fail
    refine (RQuote_any s hl _).mono ?_
    rintro er w2 ⟨rfl, rfl⟩
    go_wp2
    go_ret
    exact ⟨rfl, HB.out⟩
set_option maxRecDepth 100000 in
set_option maxHeartbeats 8000000 in
theorem VFormat_any (v : Vl) (hn0 : -9223372036854775808 ≤ v.n) (hn1 : v.n ≤ 9223372036854775807) (hl : v.s.length ≤ 1000000) (w : World) (hL : Laid w) :
    Calls Tryd.prog 20 #[.agg (vV v)] w fun e w' => e = .returned (.string (bs (fmtV v))) ∧ Below w.heap.size w w' := by
  obtain ⟨kd, n, s⟩ := v
  simp only at hn0 hn1 hl
  simp only [vV]
  cases hv : vaB ⟨kd, n, s⟩ with
  | false =>
    have hr : fmtV ⟨kd, n, s⟩ = [] := by unfold fmtV; rw [if_neg (by rw [hv]; simp)]
    rw [hr]; clear hr
    have HV := Lib.hid hv; clear hv
    have hb0 := ((Below.refl w.heap.size w).alloc (Nat.le_refl _) (.cells #[.int .i64 kd, .int .i64 n, .string (bs s)] 23))
    have h_HX := (Bx.new w #[.int .i64 kd, .int .i64 n, .string (bs s)] 23)
    have HB := Lib.hid hb0; have HX := Lib.hid h_HX
    clear hb0 h_HX
    go_enter Tryd.func20, Tryd.ntmps20
    go_upto_region 1 with (fail)
    generalize hW0 : w.alloc (.cells #[.int .i64 kd, .int .i64 n, .string (bs s)] 23) = v0 at HB HX ⊢
    clear hW0
    have x0 : v0.cell? ⟨w.heap.size, 0, none⟩ = some (.int .i64 kd) := HX.out.cell 0
    have x1 : v0.cell? ⟨w.heap.size, 1, none⟩ = some (.int .i64 n) := HX.out.cell 1
    have x2 : v0.cell? ⟨w.heap.size, 2, none⟩ = some (.string (bs s)) := HX.out.cell 2
    go_wp2_with fail
    refine (VValid_any ⟨kd, n, s⟩ (by show s.length ≤ _; omega) _).mono ?_
    rw [HV.out]
    rintro er w1 ⟨rfl, hb1⟩
    have HX := Lib.hid (HX.out.call hb1); have HB := Lib.hid (btrans HB.out HB.out.size hb1); clear hb1
    clear x0 x1 x2
    have x0 : w1.cell? ⟨w.heap.size, 0, none⟩ = some (.int .i64 kd) := HX.out.cell 0
    have x1 : w1.cell? ⟨w.heap.size, 1, none⟩ = some (.int .i64 n) := HX.out.cell 1
    have x2 : w1.cell? ⟨w.heap.size, 2, none⟩ = some (.string (bs s)) := HX.out.cell 2
    go_wp2
    go_ret
    exact ⟨rfl, HB.out⟩
  | true =>
    have hf : fmtV ⟨kd, n, s⟩ = if kd = 0 then nilT else if kd = 1 then Lib.itoa n else quoS s := by unfold fmtV; rw [if_pos hv]
    rw [hf]; clear hf
    have HV := Lib.hid hv; clear hv
    by_cases h0 : kd = 0
    · rw [if_pos h0]
      have t0 : (kd == 0) = true := by rw [h0]; rfl
      have H0 := Lib.hid h0; clear h0
      have hb0 := ((Below.refl w.heap.size w).alloc (Nat.le_refl _) (.cells #[.int .i64 kd, .int .i64 n, .string (bs s)] 23))
      have h_HX := (Bx.new w #[.int .i64 kd, .int .i64 n, .string (bs s)] 23)
      have HB := Lib.hid hb0; have HX := Lib.hid h_HX
      clear hb0 h_HX
      go_enter Tryd.func20, Tryd.ntmps20
      go_upto_region 1 with (fail)
      generalize hW0 : w.alloc (.cells #[.int .i64 kd, .int .i64 n, .string (bs s)] 23) = v0 at HB HX ⊢
      clear hW0
      have x0 : v0.cell? ⟨w.heap.size, 0, none⟩ = some (.int .i64 kd) := HX.out.cell 0
      have x1 : v0.cell? ⟨w.heap.size, 1, none⟩ = some (.int .i64 n) := HX.out.cell 1
      have x2 : v0.cell? ⟨w.heap.size, 2, none⟩ = some (.string (bs s)) := HX.out.cell 2
      go_wp2_with fail
      refine (VValid_any ⟨kd, n, s⟩ (by show s.length ≤ _; omega) _).mono ?_
      rw [HV.out]
      rintro er w1 ⟨rfl, hb1⟩
      have HX := Lib.hid (HX.out.call hb1); have HB := Lib.hid (btrans HB.out HB.out.size hb1); clear hb1
      clear x0 x1 x2
      have x0 : w1.cell? ⟨w.heap.size, 0, none⟩ = some (.int .i64 kd) := HX.out.cell 0
      have x1 : w1.cell? ⟨w.heap.size, 1, none⟩ = some (.int .i64 n) := HX.out.cell 1
      have x2 : w1.cell? ⟨w.heap.size, 2, none⟩ = some (.string (bs s)) := HX.out.cell 2
      go_wp2
      go_ret
      exact ⟨rfl, HB.out⟩
    have t0 : (kd == 0) = false := by rw [beq_eq_false_iff_ne]; exact h0
    rw [if_neg h0]
    by_cases h1 : kd = 1
    · rw [if_pos h1]
      have t1 : (kd == 1) = true := by rw [h1]; rfl
      have H1 := Lib.hid h1; have H0 := Lib.hid h0; clear h1 h0
      have hb0 := ((Below.refl w.heap.size w).alloc (Nat.le_refl _) (.cells #[.int .i64 kd, .int .i64 n, .string (bs s)] 23))
      have h_HX := (Bx.new w #[.int .i64 kd, .int .i64 n, .string (bs s)] 23)
      have HB := Lib.hid hb0; have HX := Lib.hid h_HX
      clear hb0 h_HX
      go_enter Tryd.func20, Tryd.ntmps20
      go_upto_region 1 with (fail)
      generalize hW0 : w.alloc (.cells #[.int .i64 kd, .int .i64 n, .string (bs s)] 23) = v0 at HB HX ⊢
      clear hW0
      have x0 : v0.cell? ⟨w.heap.size, 0, none⟩ = some (.int .i64 kd) := HX.out.cell 0
      have x1 : v0.cell? ⟨w.heap.size, 1, none⟩ = some (.int .i64 n) := HX.out.cell 1
      have x2 : v0.cell? ⟨w.heap.size, 2, none⟩ = some (.string (bs s)) := HX.out.cell 2
      go_wp2_with fail
      refine (VValid_any ⟨kd, n, s⟩ (by show s.length ≤ _; omega) _).mono ?_
      rw [HV.out]
      rintro er w1 ⟨rfl, hb1⟩
      have HX := Lib.hid (HX.out.call hb1); have HB := Lib.hid (btrans HB.out HB.out.size hb1); clear hb1
      clear x0 x1 x2
      have x0 : w1.cell? ⟨w.heap.size, 0, none⟩ = some (.int .i64 kd) := HX.out.cell 0
      have x1 : w1.cell? ⟨w.heap.size, 1, none⟩ = some (.int .i64 n) := HX.out.cell 1
      have x2 : w1.cell? ⟨w.heap.size, 2, none⟩ = some (.string (bs s)) := HX.out.cell 2
      go_wp2_with fail
      refine (Format_any n _ hn0 hn1 (hL.below HB.out)).mono ?_
      rintro er w2 ⟨rfl, hb2⟩
      go_wp2
      go_ret
      exact ⟨rfl, btrans HB.out HB.out.size hb2⟩
    have t1 : (kd == 1) = false := by rw [beq_eq_false_iff_ne]; exact h1
    rw [if_neg h1]
    obtain ⟨hk2, hz2, hp2, h64⟩ := vaB_str HV.out h0 h1
    clear hz2 hp2
    have H0 := Lib.hid h0; have H1 := Lib.hid h1; have H2 := Lib.hid hk2; clear h0 h1 hk2
    obtain ⟨q, hqq⟩ : ∃ q, quoS s = q := ⟨_, rfl⟩
    rw [hqq]
    have HQQ := Lib.hid hqq; clear hqq
    have hb0 := ((Below.refl w.heap.size w).alloc (Nat.le_refl _) (.cells #[.int .i64 kd, .int .i64 n, .string (bs s)] 23))
    have h_HX := (Bx.new w #[.int .i64 kd, .int .i64 n, .string (bs s)] 23)
    have HB := Lib.hid hb0; have HX := Lib.hid h_HX
    clear hb0 h_HX
    go_enter Tryd.func20, Tryd.ntmps20
    go_upto_region 1 with (fail)
    generalize hW0 : w.alloc (.cells #[.int .i64 kd, .int .i64 n, .string (bs s)] 23) = v0 at HB HX ⊢
    clear hW0
    have x0 : v0.cell? ⟨w.heap.size, 0, none⟩ = some (.int .i64 kd) := HX.out.cell 0
    have x1 : v0.cell? ⟨w.heap.size, 1, none⟩ = some (.int .i64 n) := HX.out.cell 1
    have x2 : v0.cell? ⟨w.heap.size, 2, none⟩ = some (.string (bs s)) := HX.out.cell 2
    go_wp2_with fail
    refine (VValid_any ⟨kd, n, s⟩ (by show s.length ≤ _; omega) _).mono ?_
    rw [HV.out]
    rintro er w1 ⟨rfl, hb1⟩
    have HX := Lib.hid (HX.out.call hb1); have HB := Lib.hid (btrans HB.out HB.out.size hb1); clear hb1
    clear x0 x1 x2
    have x0 : w1.cell? ⟨w.heap.size, 0, none⟩ = some (.int .i64 kd) := HX.out.cell 0
    have x1 : w1.cell? ⟨w.heap.size, 1, none⟩ = some (.int .i64 n) := HX.out.cell 1
    have x2 : w1.cell? ⟨w.heap.size, 2, none⟩ = some (.string (bs s)) := HX.out.cell 2
    have hx1 : w.heap.size < w1.heap.size := HX.out.lt
    have hx0 := HB.out.size
    have hal := (Below.refl w1.heap.size w1).alloc (Nat.le_refl _) (.cells #[.pointer none, .slice none 0 0] 48)
    have HD := Lib.hid (Bd.new w1); have HX := Lib.hid (HX.out.call hal); have HB := Lib.hid (btrans HB.out HB.out.size hal); have hzb : w1.heap.size ≤ (w1.alloc (.cells #[.pointer none, .slice none 0 0] 48)).heap.size := hal.size; clear hal
    go_upto_region 9 with (fail)
    generalize hW : w1.alloc (.cells #[.pointer none, .slice none 0 0] 48) = v1 at HX HB HD hzb ⊢
    clear hW
    clear x0 x1 x2
    go_wp2_with fail
    refine (Bd.write w1.heap.size [] 34 _ HD.out (by first | omega | exact Nat.zero_le _ | (rw [List.length_append]; show _ + 1 ≤ _; omega)) hzb).mono ?_
    rintro er w2 ⟨rfl, hD2, hb2⟩
    have HD := Lib.hid hD2; have HX := Lib.hid (HX.out.below hb2 hx1); have HB := Lib.hid (HB.out.trans (hb2.mono hx0)); have hzb := Nat.le_trans hzb hb2.size; clear hD2 hb2
    go_wp2
    go_loopw [4] (fun i wr => ∃ k : Nat, k ≤ s.length ∧ i = .int .i64 k ∧ Bd w1.heap.size (34 :: (s.take k).flatMap esc) wr ∧ Bx w.heap.size #[.int .i64 kd, .int .i64 n, .string (bs s)] 23 wr ∧ w1.heap.size ≤ wr.heap.size ∧ Below w.heap.size w wr) (fun i _ => s.length - (intOf i).toNat)
    case atStart => exact ⟨0, Nat.zero_le _, rfl, HD.out, HX.out, hzb, HB.out⟩
    case round =>
      obtain ⟨k, hk, rfl, hD, hX, hzb, hB⟩ := hrel
      clear HD HX HB
      have HD := Lib.hid hD; have HX := Lib.hid hX; have HB := Lib.hid hB; clear hD hX hB
      have x2 : wr.cell? ⟨w.heap.size, 2, none⟩ = some (.string (bs s)) := HX.out.cell 2
      by_cases hlt : k < s.length
      · have hlt' : (k : Int) < (s.length : Int) := by omega
        have HET := Lib.hid (esc_take s k hlt)
        have hln : (34 :: (s.take k).flatMap esc).length ≤ 1000 := by have h9 := esc_len (s.take k); rw [List.length_take] at h9; rw [List.length_cons]; omega
        obtain ⟨L0, hL0⟩ : ∃ L0, 34 :: (s.take k).flatMap esc = L0 := ⟨_, rfl⟩
        rw [hL0] at hln
        have HL0 := Lib.hid hL0
        have HD := Lib.hid (show Bd w1.heap.size L0 wr by rw [← hL0]; exact HD.out)
        clear hL0
        by_cases h34 : s[k] = 34
        · have t34 := is34 h34
          have HE := Lib.hid (esc_yes (Or.inl h34)); clear h34
          go_wp2_with fail
          refine (Bd.write w1.heap.size L0 92 _ HD.out (by first | omega | exact Nat.zero_le _ | (rw [List.length_append]; show _ + 1 ≤ _; omega)) hzb).mono ?_
          rintro er w3 ⟨rfl, hD2, hb2⟩
          have HD := Lib.hid hD2; have HX := Lib.hid (HX.out.below hb2 hx1); have HB := Lib.hid (HB.out.trans (hb2.mono hx0)); have hzb := Nat.le_trans hzb hb2.size; clear hD2 hb2
          have x2 : w3.cell? ⟨w.heap.size, 2, none⟩ = some (.string (bs s)) := HX.out.cell 2
          go_wp2_with fail
          refine (Bd.write w1.heap.size (L0 ++ [92]) s[k] _ HD.out (by first | omega | exact Nat.zero_le _ | (rw [List.length_append]; show _ + 1 ≤ _; omega)) hzb).mono ?_
          rintro er w4 ⟨rfl, hD2, hb2⟩
          have HD := Lib.hid hD2; have HX := Lib.hid (HX.out.below hb2 hx1); have HB := Lib.hid (HB.out.trans (hb2.mono hx0)); have hzb := Nat.le_trans hzb hb2.size; clear hD2 hb2
          go_wp2
          go_roundw
          case rel => exact ⟨k + 1, by omega, by go_num, by rw [HET.out, HE.out, ← List.cons_append, HL0.out]; have h9 := HD.out; rw [List.append_assoc] at h9; exact h9, HX.out, hzb, HB.out⟩
          case measure => simp [intOf]; omega
        · have t34 := not34 h34
          by_cases h92 : s[k] = 92
          · have t92 := is92 h92
            have HE := Lib.hid (esc_yes (Or.inr h92)); clear h34 h92
            go_wp2_with fail
            refine (Bd.write w1.heap.size L0 92 _ HD.out (by first | omega | exact Nat.zero_le _ | (rw [List.length_append]; show _ + 1 ≤ _; omega)) hzb).mono ?_
            rintro er w3 ⟨rfl, hD2, hb2⟩
            have HD := Lib.hid hD2; have HX := Lib.hid (HX.out.below hb2 hx1); have HB := Lib.hid (HB.out.trans (hb2.mono hx0)); have hzb := Nat.le_trans hzb hb2.size; clear hD2 hb2
            have x2 : w3.cell? ⟨w.heap.size, 2, none⟩ = some (.string (bs s)) := HX.out.cell 2
            go_wp2_with fail
            refine (Bd.write w1.heap.size (L0 ++ [92]) s[k] _ HD.out (by first | omega | exact Nat.zero_le _ | (rw [List.length_append]; show _ + 1 ≤ _; omega)) hzb).mono ?_
            rintro er w4 ⟨rfl, hD2, hb2⟩
            have HD := Lib.hid hD2; have HX := Lib.hid (HX.out.below hb2 hx1); have HB := Lib.hid (HB.out.trans (hb2.mono hx0)); have hzb := Nat.le_trans hzb hb2.size; clear hD2 hb2
            go_wp2
            go_roundw
            case rel => exact ⟨k + 1, by omega, by go_num, by rw [HET.out, HE.out, ← List.cons_append, HL0.out]; have h9 := HD.out; rw [List.append_assoc] at h9; exact h9, HX.out, hzb, HB.out⟩
            case measure => simp [intOf]; omega
          · have t92 := not92 h92
            have HE := Lib.hid (esc_no (c := s[k]) (by rintro (h | h) <;> contradiction)); clear h34 h92
            go_wp2_with fail
            refine (Bd.write w1.heap.size L0 s[k] _ HD.out (by first | omega | exact Nat.zero_le _ | (rw [List.length_append]; show _ + 1 ≤ _; omega)) hzb).mono ?_
            rintro er w3 ⟨rfl, hD2, hb2⟩
            have HD := Lib.hid hD2; have HX := Lib.hid (HX.out.below hb2 hx1); have HB := Lib.hid (HB.out.trans (hb2.mono hx0)); have hzb := Nat.le_trans hzb hb2.size; clear hD2 hb2
            go_wp2
            go_roundw
            case rel => exact ⟨k + 1, by omega, by go_num, by rw [HET.out, HE.out, ← List.cons_append, HL0.out]; exact HD.out, HX.out, hzb, HB.out⟩
            case measure => simp [intOf]; omega
      · have hlt' : ¬ (k : Int) < (s.length : Int) := by omega
        have hq : q = (34 :: (s.take k).flatMap esc) ++ [34] := by rw [← HQQ.out]; unfold quoS; rw [ltake_all s hlt]; rfl
        have hln : (34 :: (s.take k).flatMap esc).length ≤ 1000 := by have h9 := esc_len (s.take k); rw [List.length_take] at h9; rw [List.length_cons]; omega
        obtain ⟨L0, hL0⟩ : ∃ L0, 34 :: (s.take k).flatMap esc = L0 := ⟨_, rfl⟩
        rw [hL0] at hln
        have hq2 : q = L0 ++ [34] := by rw [hq, hL0]
        have HQ2 := Lib.hid hq2; clear hq hq2
        have HD := Lib.hid (show Bd w1.heap.size L0 wr by rw [← hL0]; exact HD.out)
        clear hL0
        go_wp2_with fail
        refine (Bd.write w1.heap.size L0 34 _ HD.out (by first | omega | exact Nat.zero_le _ | (rw [List.length_append]; show _ + 1 ≤ _; omega)) hzb).mono ?_
        rintro er w3 ⟨rfl, hD2, hb2⟩
        have HD := Lib.hid hD2; have HX := Lib.hid (HX.out.below hb2 hx1); have HB := Lib.hid (HB.out.trans (hb2.mono hx0)); have hzb := Nat.le_trans hzb hb2.size; clear hD2 hb2
        go_wp2_with fail
        refine (Bd.string w1.heap.size (L0 ++ [34]) _ HD.out hzb).mono ?_
        rintro er w4 ⟨rfl, hb2⟩
        go_wp2
        go_ret
        exact ⟨congrArg Ending.returned (by rw [HQ2.out]; rfl), HB.out.trans (hb2.mono hx0)⟩
end Go.Proofs.YtmffdoblpkjmjaaDoor
