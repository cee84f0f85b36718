/- The walks of layer 2's Int and Text and of layer 5's Encode. No conditions. -/
import Derived.Test.YtmffdoblpkjmjaaDoorValG
import Derived.Laws.Bits64
namespace Go.Proofs.YtmffdoblpkjmjaaDoor
open Go.RowKit

theorem u64_eq9 (x : Int) : IntKind.u64.wrap x = x % 18446744073709551616 := by
  simp only [IntKind.wrap, IntKind.signed, IntKind.bits]
  simp
theorem xor_ones (a : Nat) (h : a < 18446744073709551616) : a ^^^ 18446744073709551615 = 18446744073709551615 - a := by
  have e := congrArg BitVec.toNat (BitVec.xor_allOnes (x := BitVec.ofNat 64 a))
  rw [BitVec.toNat_xor, BitVec.toNat_not, BitVec.toNat_allOnes, BitVec.toNat_ofNat, Nat.mod_eq_of_lt h] at e
  exact e
theorem zig_bits (n : Int) (h0 : -9223372036854775808 ≤ n) (h1 : n ≤ 9223372036854775807) : bits .xor .u64 (IntKind.u64.wrap (IntKind.u64.wrap n * 2)) (IntKind.u64.wrap (n / 9223372036854775808)) = ((zig n : Nat) : Int) := by
  rw [u64_eq9, u64_eq9, u64_eq9]
  by_cases h : n < 0
  · have h2 : n / 9223372036854775808 = -1 := by omega
    have ha : n % 18446744073709551616 * 2 % 18446744073709551616 = (((2 * n + 18446744073709551616).toNat : Nat) : Int) := by omega
    rw [h2, ha, show ((-1 : Int) % 18446744073709551616) = ((18446744073709551615 : Nat) : Int) by omega, bits_xor_u64_nat _ _ (by omega) (by omega), xor_ones _ (by omega)]
    unfold zig; rw [if_pos h]; omega
  · have h2 : n / 9223372036854775808 = 0 := by omega
    have ha : n % 18446744073709551616 * 2 % 18446744073709551616 = (((2 * n).toNat : Nat) : Int) := by omega
    rw [h2, ha, show ((0 : Int) % 18446744073709551616) = ((0 : Nat) : Int) by omega, bits_xor_u64_nat _ _ (by omega) (by omega), Nat.xor_zero]
    unfold zig; rw [if_neg h]
theorem zig_lt (n : Int) (h0 : -9223372036854775808 ≤ n) (h1 : n ≤ 9223372036854775807) : zig n < 18446744073709551616 := by
  unfold zig; split <;> omega

set_option maxRecDepth 100000 in
set_option maxHeartbeats 4000000 in
theorem WInt_any (n : Int) (hn0 : -9223372036854775808 ≤ n) (hn1 : n ≤ 9223372036854775807) (w : World) :
    Calls Tryd.prog 45 #[.int .i64 n] w fun e w' => e = .returned (.string (bs (uintS (zig n)))) ∧ Below w.heap.size w w' := by
  have HZ := Lib.hid (zig_bits n hn0 hn1)
  have hz := zig_lt n hn0 hn1
  go_enter Tryd.func45, Tryd.ntmps45
  go_wp2_with fail
  rw [HZ.out]
  refine (Uint_any (zig n) hz _).mono ?_
  rintro er w1 ⟨rfl, hb1⟩
  go_wp2
  go_ret
  exact ⟨rfl, hb1⟩
set_option maxRecDepth 100000 in
set_option maxHeartbeats 4000000 in
theorem WText_any (l : List UInt8) (hl : l.length ≤ 1000000) (w : World) :
    Calls Tryd.prog 46 #[.string (bs l)] w fun e w' => e = .returned (.string (bs (textS l))) ∧ Below w.heap.size w w' := by
  have hw : IntKind.u64.wrap (l.length : Int) = (l.length : Int) := by rw [u64_eq9]; omega
  obtain ⟨t, ht⟩ : ∃ t, uintS l.length = t := ⟨_, rfl⟩
  have htl : t.length ≤ 10 := by rw [← ht]; exact (uintF_len 9 _).2
  have HT := Lib.hid ht; clear ht
  have HE := Lib.hid (show textS l = t ++ l by unfold textS; rw [HT.out])
  go_enter Tryd.func46, Tryd.ntmps46
  go_wp2_with fail
  refine (Uint_any l.length (by omega) _).mono ?_
  rw [HT.out]
  rintro er w1 ⟨rfl, hb1⟩
  go_wp2
  go_ret
  exact ⟨by rw [HE.out]; simp [bs], hb1⟩
set_option maxRecDepth 100000 in
set_option maxHeartbeats 8000000 in
theorem VEncode_any (v : Vl) (hn0 : -9223372036854775808 ≤ v.n) (hn1 : v.n ≤ 9223372036854775807) (hl : v.s.length ≤ 1000000) (w : World) :
    Calls Tryd.prog 24 #[.agg (vV v)] w fun e w' => e = .returned (.string (bs (encV v))) ∧ Below w.heap.size w w' := by
  obtain ⟨kd, n, s⟩ := v
  simp only at hn0 hn1 hl
  simp only [vV]
  by_cases h1 : kd = 1
  · have t1 : (kd == 1) = true := by rw [h1]; rfl
    obtain ⟨a, ha⟩ : ∃ a, uintS 1 = a := ⟨_, rfl⟩
    have hal : a.length ≤ 10 := by rw [← ha]; exact (uintF_len 9 _).2
    obtain ⟨c, hc⟩ : ∃ c, uintS (zig n) = c := ⟨_, rfl⟩
    have hcl : c.length ≤ 2000000 := by rw [← hc]; have h9 : (uintS (zig n)).length ≤ 10 := (uintF_len 9 _).2; omega
    have hsz : ¬ 9223372036854775807 < a.length + c.length := by omega
    have HA := Lib.hid ha; have HC := Lib.hid hc; clear ha hc
    have HE := Lib.hid (show encV ⟨kd, n, s⟩ = a ++ c by rw [← HA.out, ← HC.out]; unfold encV; rw [if_pos h1])
    have H1 := Lib.hid h1; clear h1
    have hb0 := ((Below.refl w.heap.size w).alloc (Nat.le_refl _) (.cells #[.int .i64 kd, .int .i64 n, .string (bs s)] 23))
    have h_HX := (Bx.new w #[.int .i64 kd, .int .i64 n, .string (bs s)] 23)
    have HB := Lib.hid hb0; have HX := Lib.hid h_HX
    clear hb0 h_HX
    go_enter Tryd.func24, Tryd.ntmps24
    go_upto_region 1 with (fail)
    generalize hW0 : w.alloc (.cells #[.int .i64 kd, .int .i64 n, .string (bs s)] 23) = v0 at HB HX ⊢
    clear hW0
    have x0 : v0.cell? ⟨w.heap.size, 0, none⟩ = some (.int .i64 kd) := HX.out.cell 0
    have x1 : v0.cell? ⟨w.heap.size, 1, none⟩ = some (.int .i64 n) := HX.out.cell 1
    have x2 : v0.cell? ⟨w.heap.size, 2, none⟩ = some (.string (bs s)) := HX.out.cell 2
    go_upto_region 3 with (fail)
    have hs0 : Bx w.heap.size #[.int .i64 kd, .int .i64 n, .string (bs s)] 23 v0.drew := HX.out
    have HS0 := Lib.hid hs0; clear hs0
    clear x0 x1 x2
    go_wp2_with fail
    refine wp_region_held_drew (S := (fun w' => Bx w.heap.size #[.int .i64 kd, .int .i64 n, .string (bs s)] 23 w')) (by kernel_rfl) ?_ (fun hHeld => ?_)
    · exact HS0.out
    refine takeH (i := 1) (v := ?vv1) 8 rfl rfl (by kernel_rfl) (by kernel_rfl) (by kernel_rfl) (fun _ _ _ h => h) (Or.inl ⟨by kernel_rfl, ?yy1⟩) (by assumption) ?_
    case yy1 => intro w hSw; (try dsimp only at hSw); go_simp; (try with_reducible rfl)
    simp only [List.setIfInBounds_toArray, List.set_cons_zero, List.set_cons_succ]
    refine takeH (i := 2) (v := ?vv2) 9 rfl rfl (by kernel_rfl) (by kernel_rfl) (by kernel_rfl) (fun _ _ _ h => h) (Or.inl ⟨by kernel_rfl, ?yy2⟩) (by assumption) ?_
    case yy2 =>
      intro wq hSw
      have c0_0 : wq.cell? ⟨w.heap.size, 0, none⟩ = some (.int .i64 kd) := (hSw).cell 0
      have c0_1 : wq.cell? ⟨w.heap.size, 1, none⟩ = some (.int .i64 n) := (hSw).cell 1
      have c0_2 : wq.cell? ⟨w.heap.size, 2, none⟩ = some (.string (bs s)) := (hSw).cell 2
      clear hSw
      go_simp
      (try with_reducible rfl)
    simp only [List.setIfInBounds_toArray, List.set_cons_zero, List.set_cons_succ]
    refine wpAnyH_ready (rs := [0]) (by kernel_rfl) (by simp) ?_
    refine (AllReadyH.cons rfl (fun K hK => ?_) AllReadyH.nil)
    go_simp
    (refine (Uint_any 1 (by omega) _).mono ?_; rw [HA.out]; rintro er wa ⟨rfl, hb1⟩)
    (try go_wp2_with fail)
    refine hK.out _ _ ?_ (fun hHeld => ?_)
    · exact hHeld.call hb1
    clear hK K
    (try simp only [Act.put, List.setIfInBounds_toArray, List.set_cons_zero, List.set_cons_succ])
    refine wpAnyH_ready (rs := [3]) (by kernel_rfl) (by simp) ?_
    refine (AllReadyH.cons rfl (fun K hK => ?_) AllReadyH.nil)
    go_simp
    (refine (WInt_any n hn0 hn1 _).mono ?_; rw [HC.out]; rintro er wb ⟨rfl, hb2⟩)
    (try go_wp2_with fail)
    refine hK.out _ _ ?_ (fun hHeld => ?_)
    · exact hHeld.call hb2
    clear hK K
    (try simp only [Act.put, List.setIfInBounds_toArray, List.set_cons_zero, List.set_cons_succ])
    refine takeH (i := 4) (v := ?vv3) 11 rfl rfl (by kernel_rfl) (by kernel_rfl) (by kernel_rfl) (fun _ _ _ h => h) (Or.inl ⟨by kernel_rfl, ?yy3⟩) (by assumption) ?_
    case yy3 => intro w hSw; (try dsimp only at hSw); go_simp; (try with_reducible rfl)
    simp only [List.setIfInBounds_toArray, List.set_cons_zero, List.set_cons_succ]
    refine takeH (i := 5) (v := ?vv4) 2 rfl rfl (by kernel_rfl) (by kernel_rfl) (by kernel_rfl) (fun _ _ _ h => h) (Or.inl ⟨by kernel_rfl, ?yy4⟩) (by assumption) ?_
    case yy4 => intro w hSw; (try dsimp only at hSw); go_simp; (try with_reducible rfl)
    simp only [List.setIfInBounds_toArray, List.set_cons_zero, List.set_cons_succ]
    refine wpAnyH_done (by kernel_rfl) ?_ _
    have hb03 := btrans (Below.refl v0.heap.size v0).drew (Nat.le_refl _) hb1
    have hb04 := btrans hb03 hb03.size hb2
    go_wp2_with fail
    go_ret
    exact ⟨by rw [HE.out]; simp [bs], btrans HB.out HB.out.size hb04⟩
  have t1 : (kd == 1) = false := by rw [beq_eq_false_iff_ne]; exact h1
  by_cases h2 : kd = 2
  · have t2 : (kd == 2) = true := by rw [h2]; rfl
    obtain ⟨a, ha⟩ : ∃ a, uintS 2 = a := ⟨_, rfl⟩
    have hal : a.length ≤ 10 := by rw [← ha]; exact (uintF_len 9 _).2
    obtain ⟨c, hc⟩ : ∃ c, textS s = c := ⟨_, rfl⟩
    have hcl : c.length ≤ 2000000 := by rw [← hc]; have h9 : (uintS s.length).length ≤ 10 := (uintF_len 9 _).2; unfold textS; rw [List.length_append]; omega
    have hsz : ¬ 9223372036854775807 < a.length + c.length := by omega
    have HA := Lib.hid ha; have HC := Lib.hid hc; clear ha hc
    have HE := Lib.hid (show encV ⟨kd, n, s⟩ = a ++ c by rw [← HA.out, ← HC.out]; unfold encV; rw [if_neg h1, if_pos h2])
    have H1 := Lib.hid h1; have H2 := Lib.hid h2; clear h1 h2
    have hb0 := ((Below.refl w.heap.size w).alloc (Nat.le_refl _) (.cells #[.int .i64 kd, .int .i64 n, .string (bs s)] 23))
    have h_HX := (Bx.new w #[.int .i64 kd, .int .i64 n, .string (bs s)] 23)
    have HB := Lib.hid hb0; have HX := Lib.hid h_HX
    clear hb0 h_HX
    go_enter Tryd.func24, Tryd.ntmps24
    go_upto_region 1 with (fail)
    generalize hW0 : w.alloc (.cells #[.int .i64 kd, .int .i64 n, .string (bs s)] 23) = v0 at HB HX ⊢
    clear hW0
    have x0 : v0.cell? ⟨w.heap.size, 0, none⟩ = some (.int .i64 kd) := HX.out.cell 0
    have x1 : v0.cell? ⟨w.heap.size, 1, none⟩ = some (.int .i64 n) := HX.out.cell 1
    have x2 : v0.cell? ⟨w.heap.size, 2, none⟩ = some (.string (bs s)) := HX.out.cell 2
    go_upto_region 5 with (fail)
    have hs0 : Bx w.heap.size #[.int .i64 kd, .int .i64 n, .string (bs s)] 23 v0.drew := HX.out
    have HS0 := Lib.hid hs0; clear hs0
    clear x0 x1 x2
    go_wp2_with fail
    refine wp_region_held_drew (S := (fun w' => Bx w.heap.size #[.int .i64 kd, .int .i64 n, .string (bs s)] 23 w')) (by kernel_rfl) ?_ (fun hHeld => ?_)
    · exact HS0.out
    refine takeH (i := 1) (v := ?vv5) 15 rfl rfl (by kernel_rfl) (by kernel_rfl) (by kernel_rfl) (fun _ _ _ h => h) (Or.inl ⟨by kernel_rfl, ?yy5⟩) (by assumption) ?_
    case yy5 => intro w hSw; (try dsimp only at hSw); go_simp; (try with_reducible rfl)
    simp only [List.setIfInBounds_toArray, List.set_cons_zero, List.set_cons_succ]
    refine takeH (i := 2) (v := ?vv6) 16 rfl rfl (by kernel_rfl) (by kernel_rfl) (by kernel_rfl) (fun _ _ _ h => h) (Or.inl ⟨by kernel_rfl, ?yy6⟩) (by assumption) ?_
    case yy6 =>
      intro wq hSw
      have c0_0 : wq.cell? ⟨w.heap.size, 0, none⟩ = some (.int .i64 kd) := (hSw).cell 0
      have c0_1 : wq.cell? ⟨w.heap.size, 1, none⟩ = some (.int .i64 n) := (hSw).cell 1
      have c0_2 : wq.cell? ⟨w.heap.size, 2, none⟩ = some (.string (bs s)) := (hSw).cell 2
      clear hSw
      go_simp
      (try with_reducible rfl)
    simp only [List.setIfInBounds_toArray, List.set_cons_zero, List.set_cons_succ]
    refine wpAnyH_ready (rs := [0]) (by kernel_rfl) (by simp) ?_
    refine (AllReadyH.cons rfl (fun K hK => ?_) AllReadyH.nil)
    go_simp
    (refine (Uint_any 2 (by omega) _).mono ?_; rw [HA.out]; rintro er wa ⟨rfl, hb1⟩)
    (try go_wp2_with fail)
    refine hK.out _ _ ?_ (fun hHeld => ?_)
    · exact hHeld.call hb1
    clear hK K
    (try simp only [Act.put, List.setIfInBounds_toArray, List.set_cons_zero, List.set_cons_succ])
    refine wpAnyH_ready (rs := [3]) (by kernel_rfl) (by simp) ?_
    refine (AllReadyH.cons rfl (fun K hK => ?_) AllReadyH.nil)
    go_simp
    (refine (WText_any s hl _).mono ?_; rw [HC.out]; rintro er wb ⟨rfl, hb2⟩)
    (try go_wp2_with fail)
    refine hK.out _ _ ?_ (fun hHeld => ?_)
    · exact hHeld.call hb2
    clear hK K
    (try simp only [Act.put, List.setIfInBounds_toArray, List.set_cons_zero, List.set_cons_succ])
    refine takeH (i := 4) (v := ?vv7) 18 rfl rfl (by kernel_rfl) (by kernel_rfl) (by kernel_rfl) (fun _ _ _ h => h) (Or.inl ⟨by kernel_rfl, ?yy7⟩) (by assumption) ?_
    case yy7 => intro w hSw; (try dsimp only at hSw); go_simp; (try with_reducible rfl)
    simp only [List.setIfInBounds_toArray, List.set_cons_zero, List.set_cons_succ]
    refine takeH (i := 5) (v := ?vv8) 2 rfl rfl (by kernel_rfl) (by kernel_rfl) (by kernel_rfl) (fun _ _ _ h => h) (Or.inl ⟨by kernel_rfl, ?yy8⟩) (by assumption) ?_
    case yy8 => intro w hSw; (try dsimp only at hSw); go_simp; (try with_reducible rfl)
    simp only [List.setIfInBounds_toArray, List.set_cons_zero, List.set_cons_succ]
    refine wpAnyH_done (by kernel_rfl) ?_ _
    have hb03 := btrans (Below.refl v0.heap.size v0).drew (Nat.le_refl _) hb1
    have hb04 := btrans hb03 hb03.size hb2
    go_wp2_with fail
    go_ret
    exact ⟨by rw [HE.out]; simp [bs], btrans HB.out HB.out.size hb04⟩
  have t2 : (kd == 2) = false := by rw [beq_eq_false_iff_ne]; exact h2
  have HE := Lib.hid (show encV ⟨kd, n, s⟩ = uintS 0 by unfold encV; rw [if_neg h1, if_neg h2])
  have H1 := Lib.hid h1; have H2 := Lib.hid h2; clear h1 h2
  have hb0 := ((Below.refl w.heap.size w).alloc (Nat.le_refl _) (.cells #[.int .i64 kd, .int .i64 n, .string (bs s)] 23))
  have h_HX := (Bx.new w #[.int .i64 kd, .int .i64 n, .string (bs s)] 23)
  have HB := Lib.hid hb0; have HX := Lib.hid h_HX
  clear hb0 h_HX
  go_enter Tryd.func24, Tryd.ntmps24
  go_upto_region 1 with (fail)
  generalize hW0 : w.alloc (.cells #[.int .i64 kd, .int .i64 n, .string (bs s)] 23) = v0 at HB HX ⊢
  clear hW0
  have x0 : v0.cell? ⟨w.heap.size, 0, none⟩ = some (.int .i64 kd) := HX.out.cell 0
  have x1 : v0.cell? ⟨w.heap.size, 1, none⟩ = some (.int .i64 n) := HX.out.cell 1
  have x2 : v0.cell? ⟨w.heap.size, 2, none⟩ = some (.string (bs s)) := HX.out.cell 2
  go_wp2_with fail
  refine (Uint_any 0 (by omega) _).mono ?_
  rintro er w1 ⟨rfl, hb1⟩
  go_wp2
  go_ret
  exact ⟨by rw [HE.out]; rfl, btrans HB.out HB.out.size hb1⟩
end Go.Proofs.YtmffdoblpkjmjaaDoor
