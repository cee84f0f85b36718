/- The walks of the reference's number, line and Format. No conditions. -/
import Derived.Test.YtkmmdkklpbafdaaGreatDoorBytJ
namespace Go.Proofs.YtkmmdkklpbafdaaGreatDoor
open Go.RowKit

theorem cat_l (A : List UInt8) (L : List UInt8) : ({ data := A.toArray } : ByteArray) ++ bs L = bs (A ++ L) := by show bs A ++ bs L = _; rw [bs_append]
theorem cat_r (A : List UInt8) (L : List UInt8) : bs L ++ ({ data := A.toArray } : ByteArray) = bs (L ++ A) := by show bs L ++ bs A = _; rw [bs_append]
theorem cat_n (I nm : List UInt8) : bs I ++ ({ data := #[32] } : ByteArray) ++ bs nm = bs (I ++ [32] ++ nm) := by show bs I ++ bs [32] ++ bs nm = _; rw [bs_append, bs_append]
theorem cat_t (T J : List UInt8) : bs T ++ (({ data := #[32] } : ByteArray) ++ bs J) = bs (T ++ (32 :: J)) := by show bs T ++ (bs [32] ++ bs J) = _; rw [bs_append, bs_append]; rfl
theorem cat_o (T J : List UInt8) : bs T ++ ({ data := #[32] } : ByteArray) ++ bs J = bs (T ++ (32 :: J)) := by show bs T ++ bs [32] ++ bs J = _; rw [bs_append, bs_append]; simp

set_option maxRecDepth 100000 in
set_option maxHeartbeats 4000000 in
theorem number_any (n : Int) (w : World) (h0 : -9223372036854775808 ≤ n) (h1 : n ≤ 9223372036854775807) :
    Calls Tryz.prog 47 #[.int .i64 n] w fun e w' => e = .returned (.string (bs (Lib.itoa n))) ∧ Below w.heap.size w w' := by
  go_enter Tryz.func47, Tryz.ntmps47
  go_wp2_with fail
  refine (RFormat_any n _ h0 h1).mono ?_
  rintro er w1 ⟨rfl, hb⟩
  go_wp2
  go_ret
  exact ⟨rfl, hb⟩
set_option maxRecDepth 100000 in
set_option maxHeartbeats 16000000 in
theorem Rline_any (i : Nat) (op a b n : Int) (s : List UInt8) (w : World) (hi : i ≤ 100000) (h1 : 1 ≤ op) (h2 : op ≤ 14) (h5 : op = 5 → 4 ≤ a ∧ a ≤ 24) (ha : -9223372036854775808 ≤ a ∧ a ≤ 9223372036854775807) (hb : -9223372036854775808 ≤ b ∧ b ≤ 9223372036854775807) (hn : -9223372036854775808 ≤ n ∧ n ≤ 9223372036854775807) (hs : s.length ≤ 64) (hsp : s.all okc = true) :
    Calls Tryz.prog 48 #[.int .i64 (i : Int), .agg #[.int .i64 op, .int .i64 a, .int .i64 b, .int .i64 n, .string (bs s)]] w fun e w' => e = .returned (.string (bs (lineT i ⟨op, a, b, n, s⟩))) ∧ Below w.heap.size w w' := by
  obtain ⟨ha0, ha1⟩ := ha
  obtain ⟨hb0_, hb1_⟩ := hb
  obtain ⟨hn0, hn1⟩ := hn
  have hgrp := grp_any h1 h2
  have hnl := nameS_len op
  obtain ⟨nm, hnm⟩ : ∃ nm, nameS op = nm := ⟨_, rfl⟩
  rw [hnm] at hnl
  obtain ⟨I, hI⟩ : ∃ I, Lib.itoa (i : Int) = I := ⟨_, rfl⟩
  have hIl : I.length ≤ 1000 := by rw [← hI]; have := Lib.itoa_length_le (i : Int) (by omega) (by omega); omega
  obtain ⟨F, hF⟩ : ∃ F, fldT ⟨op, a, b, n, s⟩ = F := ⟨_, rfl⟩
  have hline : lineT i ⟨op, a, b, n, s⟩ = (I ++ [32] ++ nm) ++ F := by unfold lineT; rw [hI, hnm, hF]; simp
  rw [hline]
  have HF := Lib.hid hF; have HN := Lib.hid hnm; have HI := Lib.hid hI; have HG := Lib.hid hgrp; have H5 := Lib.hid h5; have HSP := Lib.hid hsp; clear hF hnm hI hgrp hline h5 hsp
  obtain ⟨v0, hW0, hb0, hx0⟩ := boxes1 w #[.int .i64 op, .int .i64 a, .int .i64 b, .int .i64 n, .string (bs s)] 39
  have HW := Lib.hid hW0; have HB := Lib.hid hb0; have HX := Lib.hid hx0; clear hW0 hb0 hx0
  go_enter Tryz.func48, Tryz.ntmps48
  go_upto_region 1 with (fail)
  rw [HW.out]
  clear HW
  have hs0 : Bx w.heap.size #[.int .i64 op, .int .i64 a, .int .i64 b, .int .i64 n, .string (bs s)] 39 v0.drew := HX.out
  have HS0 := Lib.hid hs0; clear hs0
  have hz1 : ¬ 9223372036854775807 < I.length + 1 := by omega
  have hz2 : ¬ 9223372036854775807 < (I ++ [32]).length + nm.length := by simp only [List.length_append, List.length_singleton]; omega
  have hz3 : ¬ 9223372036854775807 < I.length + 1 + nm.length := by omega
  go_wp2_with fail
  refine wp_region_held_drew (S := (fun w' => Bx w.heap.size #[.int .i64 op, .int .i64 a, .int .i64 b, .int .i64 n, .string (bs s)] 39 w')) (by kernel_rfl) ?_ (fun hHeld => ?_)
  · exact HS0.out
  refine takeH (i := 0) (v := ?vv1) 12 rfl rfl (by kernel_rfl) (by kernel_rfl) (by kernel_rfl) (fun _ _ _ h => h) (Or.inl ⟨by kernel_rfl, ?yy1⟩) (by assumption) ?_
  case yy1 => intro w hSw; (try dsimp only at hSw); go_simp; (try with_reducible rfl)
  simp only [List.setIfInBounds_toArray, List.set_cons_zero, List.set_cons_succ]
  refine takeH (i := 3) (v := ?vv2) 15 rfl rfl (by kernel_rfl) (by kernel_rfl) (by kernel_rfl) (fun _ _ _ h => h) (Or.inl ⟨by kernel_rfl, ?yy2⟩) (by assumption) ?_
  case yy2 => intro w hSw; (try dsimp only at hSw); go_simp; (try with_reducible rfl)
  simp only [List.setIfInBounds_toArray, List.set_cons_zero, List.set_cons_succ]
  refine takeH (i := 4) (v := ?vv3) 16 rfl rfl (by kernel_rfl) (by kernel_rfl) (by kernel_rfl) (fun _ _ _ h => h) (Or.inl ⟨by kernel_rfl, ?yy3⟩) (by assumption) ?_
  case yy3 =>
    intro wq hSw
    obtain ⟨x0, x1, x2, x3, x4⟩ := hSw.c5
    clear hSw
    go_simp
    (try with_reducible rfl)
  simp only [List.setIfInBounds_toArray, List.set_cons_zero, List.set_cons_succ]
  have hc0 : Below v0.heap.size v0 v0.drew := (Below.refl v0.heap.size v0).drew
  refine wpAnyH_ready (rs := [1]) (by kernel_rfl) (by simp) ?_
  refine (AllReadyH.cons rfl (fun K hK => ?_) AllReadyH.nil)
  go_simp
  (refine (number_any (i : Int) _ (by omega) (by omega)).mono ?_; rw [HI.out]; rintro er u1 ⟨rfl, hb1⟩)
  (try go_wp2_with fail)
  refine hK.out _ _ ?_ (fun hHeld => ?_)
  · exact hHeld.call hb1
  clear hK K
  (try simp only [Act.put, List.setIfInBounds_toArray, List.set_cons_zero, List.set_cons_succ])
  have hc1 := btrans hc0 hc0.size hb1
  refine takeH (i := 2) (v := ?vv4) 14 rfl rfl (by kernel_rfl) (by kernel_rfl) (by kernel_rfl) (fun _ _ _ h => h) (Or.inl ⟨by kernel_rfl, ?yy4⟩) (by assumption) ?_
  case yy4 => intro w hSw; (try dsimp only at hSw); go_simp; (try with_reducible rfl)
  simp only [List.setIfInBounds_toArray, List.set_cons_zero, List.set_cons_succ]
  refine wpAnyH_ready (rs := [5]) (by kernel_rfl) (by simp) ?_
  refine (AllReadyH.cons rfl (fun K hK => ?_) AllReadyH.nil)
  go_simp
  (refine (RName_any op _).mono ?_; rw [HN.out]; rintro er u2 ⟨rfl, hb2⟩)
  (try go_wp2_with fail)
  refine hK.out _ _ ?_ (fun hHeld => ?_)
  · exact hHeld.call hb2
  clear hK K
  (try simp only [Act.put, List.setIfInBounds_toArray, List.set_cons_zero, List.set_cons_succ])
  have hc2 := btrans hc1 hc1.size hb2
  refine takeH (i := 6) (v := ?vv5) 18 rfl rfl (by kernel_rfl) (by kernel_rfl) (by kernel_rfl) (fun _ _ _ h => h) (Or.inl ⟨by kernel_rfl, ?yy5⟩) (by assumption) ?_
  case yy5 => intro w hSw; (try dsimp only at hSw); go_simp; (try with_reducible rfl)
  simp only [List.setIfInBounds_toArray, List.set_cons_zero, List.set_cons_succ]
  refine takeH (i := 7) (v := ?vv6) 5 rfl rfl (by kernel_rfl) (by kernel_rfl) (by kernel_rfl) (fun _ _ _ h => h) (Or.inl ⟨by kernel_rfl, ?yy6⟩) (by assumption) ?_
  case yy6 => intro w hSw; (try dsimp only at hSw); go_simp; (try with_reducible rfl)
  simp only [List.setIfInBounds_toArray, List.set_cons_zero, List.set_cons_succ]
  refine wpAnyH_done (by kernel_rfl) ?_ _
  have HX := Lib.hid hHeld; have HB := Lib.hid (btrans HB.out HB.out.size hc2); clear hb1 hb2 hc0 hc1 hc2 hHeld HS0 hz1 hz2 hz3
  obtain ⟨T0, hT0⟩ : ∃ T, I ++ [32] ++ nm = T := ⟨_, rfl⟩
  have hT0l : T0.length ≤ 1100 := by rw [← hT0]; simp only [List.length_append, List.length_singleton]; omega
  rw [cat_n, hT0]
  skip
  have HT0 := Lib.hid hT0; clear hT0 hIl hnl
  rcases HG.out with h | h | h | h | h
  · obtain ⟨hV, gA, gB, gN, gS⟩ := h
    have h5n : op ≠ 5 := grp_5 (by simp [gA, gB, gN, gS])
    have t5 : (op == 5) = false := by rw [beq_eq_false_iff_ne]; exact h5n
    have HFE := Lib.hid (show F = 32 :: Lib.itoa n by rw [← HF.out]; exact fldT_n h5n gA gB gN gS)
    have HGA := Lib.hid gA; have HGB := Lib.hid gB; have HGN := Lib.hid gN; have HGS := Lib.hid gS; clear gA gB gN gS hV h5n
    obtain ⟨x0, x1, x2, x3, x4⟩ := HX.out.c5
    go_wp2_with fail
    refine (uses_any op h1 h2 _).mono ?_
    rw [HGA.out, HGB.out, HGN.out, HGS.out]
    rintro er w1 ⟨rfl, rfl⟩
    obtain ⟨J1, hJ1⟩ : ∃ I, Lib.itoa n = I := ⟨_, rfl⟩
    have hJ1l : J1.length ≤ 1000 := by rw [← hJ1]; have := Lib.itoa_length_le n (by omega) (by omega); omega
    have hzJ1 : ¬ 9223372036854775807 < 1 + J1.length := by omega
    have hyJ1 : ¬ 9223372036854775807 < T0.length + (1 + J1.length) := by omega
    have hxJ1 : ¬ 9223372036854775807 < T0.length + (J1.length + 1) := by omega
    have HJ1 := Lib.hid hJ1; clear hJ1
    obtain ⟨T1, hT1⟩ : ∃ T, T0 ++ (32 :: J1) = T := ⟨_, rfl⟩
    have hT1l : T1.length ≤ 3000 := by rw [← hT1]; simp only [List.length_append, List.length_cons]; omega
    have HT1c := Lib.hid (show bs T0 ++ (({ data := #[32] } : ByteArray) ++ bs J1) = bs T1 by rw [cat_t, hT1])
    have HT1 := Lib.hid hT1; clear hT1
    go_wp2_with fail
    refine (RFormat_any n _ hn0 hn1).mono ?_
    rw [HJ1.out]
    rintro er z1 ⟨rfl, hb1⟩
    clear x0 x1 x2 x3 x4
    have HX := Lib.hid (HX.out.call hb1); have HB := Lib.hid (btrans HB.out HB.out.size hb1); clear hb1
    obtain ⟨x0, x1, x2, x3, x4⟩ := HX.out.c5
    go_upto_region 11 with (fail)
    rw [HT1c.out]
    have HE := Lib.hid (show I ++ [32] ++ nm ++ F = T1 by rw [HFE.out, ← HT1.out, ← HT0.out, ← HJ1.out]; (try simp))
    go_wp2
    go_ret
    exact ⟨by rw [HE.out] <;> rfl, HB.out⟩
  · obtain ⟨hV, gA, gB, gN, gS⟩ := h
    have h5n : op ≠ 5 := grp_5 (by simp [gA, gB, gN, gS])
    have t5 : (op == 5) = false := by rw [beq_eq_false_iff_ne]; exact h5n
    have HFE := Lib.hid (show F = 32 :: (quoL s).1 by rw [← HF.out]; exact fldT_s h5n gA gB gN gS)
    have HGA := Lib.hid gA; have HGB := Lib.hid gB; have HGN := Lib.hid gN; have HGS := Lib.hid gS; clear gA gB gN gS hV h5n
    obtain ⟨⟨J1, qe⟩, hq⟩ : ∃ r, quoL s = r := ⟨_, rfl⟩
    have hJ1l : J1.length ≤ 1000 := by have h1 := esc_len2 s; have h2 : J1 = (quoL s).1 := (by rw [hq]); rw [h2, quoL_ok2 hs HSP.out]; unfold quoS; simp only [List.length_cons, List.length_append, List.length_nil]; omega
    have hzJ1 : ¬ 9223372036854775807 < 1 + J1.length := by omega
    have hyJ1 : ¬ 9223372036854775807 < T0.length + (1 + J1.length) := by omega
    have hxJ1 : ¬ 9223372036854775807 < T0.length + (J1.length + 1) := by omega
    have HFE := Lib.hid (show F = 32 :: J1 by rw [HFE.out, hq])
    have HQ := Lib.hid hq; clear hq
    obtain ⟨T1, hT1⟩ : ∃ T, T0 ++ (32 :: J1) = T := ⟨_, rfl⟩
    have hT1l : T1.length ≤ 3000 := by rw [← hT1]; simp only [List.length_append, List.length_cons]; omega
    have HT1c := Lib.hid (show bs T0 ++ (({ data := #[32] } : ByteArray) ++ bs J1) = bs T1 by rw [cat_t, hT1])
    have HT1 := Lib.hid hT1; clear hT1
    obtain ⟨x0, x1, x2, x3, x4⟩ := HX.out.c5
    go_wp2_with fail
    refine (uses_any op h1 h2 _).mono ?_
    rw [HGA.out, HGB.out, HGN.out, HGS.out]
    rintro er w1 ⟨rfl, rfl⟩
    go_wp2_with fail
    refine (RLQuote_any s (by omega) _).mono ?_
    rw [HQ.out]
    rintro er z9 ⟨rfl, hb9⟩
    clear x0 x1 x2 x3 x4
    have HX := Lib.hid (HX.out.call hb9); have HB := Lib.hid (btrans HB.out HB.out.size hb9); clear hb9
    go_upto_region 14 with (fail)
    rw [HT1c.out]
    have HE := Lib.hid (show I ++ [32] ++ nm ++ F = T1 by rw [HFE.out, ← HT1.out, ← HT0.out]; (try simp))
    go_wp2
    go_ret
    exact ⟨by rw [HE.out] <;> rfl, HB.out⟩
  · obtain ⟨hV, gA, gB, gN, gS⟩ := h
    have h5n : op ≠ 5 := grp_5 (by simp [gA, gB, gN, gS])
    have t5 : (op == 5) = false := by rw [beq_eq_false_iff_ne]; exact h5n
    have HFE := Lib.hid (show F = 32 :: Lib.itoa a ++ (32 :: Lib.itoa b ++ 32 :: Lib.itoa n) by rw [← HF.out]; exact fldT_abn h5n gA gB gN gS)
    have HGA := Lib.hid gA; have HGB := Lib.hid gB; have HGN := Lib.hid gN; have HGS := Lib.hid gS; clear gA gB gN gS hV h5n
    obtain ⟨x0, x1, x2, x3, x4⟩ := HX.out.c5
    go_wp2_with fail
    refine (uses_any op h1 h2 _).mono ?_
    rw [HGA.out, HGB.out, HGN.out, HGS.out]
    rintro er w1 ⟨rfl, rfl⟩
    obtain ⟨J1, hJ1⟩ : ∃ I, Lib.itoa a = I := ⟨_, rfl⟩
    have hJ1l : J1.length ≤ 1000 := by rw [← hJ1]; have := Lib.itoa_length_le a (by omega) (by omega); omega
    have hzJ1 : ¬ 9223372036854775807 < 1 + J1.length := by omega
    have hyJ1 : ¬ 9223372036854775807 < T0.length + (1 + J1.length) := by omega
    have hxJ1 : ¬ 9223372036854775807 < T0.length + (J1.length + 1) := by omega
    have HJ1 := Lib.hid hJ1; clear hJ1
    obtain ⟨T1, hT1⟩ : ∃ T, T0 ++ (32 :: J1) = T := ⟨_, rfl⟩
    have hT1l : T1.length ≤ 3000 := by rw [← hT1]; simp only [List.length_append, List.length_cons]; omega
    have HT1c := Lib.hid (show bs T0 ++ (({ data := #[32] } : ByteArray) ++ bs J1) = bs T1 by rw [cat_t, hT1])
    have HT1 := Lib.hid hT1; clear hT1
    go_wp2_with fail
    refine (number_any a _ ha0 ha1).mono ?_
    rw [HJ1.out]
    rintro er z2 ⟨rfl, hb2⟩
    clear x0 x1 x2 x3 x4
    have HX := Lib.hid (HX.out.call hb2); have HB := Lib.hid (btrans HB.out HB.out.size hb2); clear hb2
    obtain ⟨x0, x1, x2, x3, x4⟩ := HX.out.c5
    go_upto_region 7 with (fail)
    rw [HT1c.out]
    obtain ⟨J2, hJ2⟩ : ∃ I, Lib.itoa b = I := ⟨_, rfl⟩
    have hJ2l : J2.length ≤ 1000 := by rw [← hJ2]; have := Lib.itoa_length_le b (by omega) (by omega); omega
    have hzJ2 : ¬ 9223372036854775807 < 1 + J2.length := by omega
    have hyJ2 : ¬ 9223372036854775807 < T1.length + (1 + J2.length) := by omega
    have hxJ2 : ¬ 9223372036854775807 < T1.length + (J2.length + 1) := by omega
    have HJ2 := Lib.hid hJ2; clear hJ2
    obtain ⟨T2, hT2⟩ : ∃ T, T1 ++ (32 :: J2) = T := ⟨_, rfl⟩
    have hT2l : T2.length ≤ 5000 := by rw [← hT2]; simp only [List.length_append, List.length_cons]; omega
    have HT2c := Lib.hid (show bs T1 ++ (({ data := #[32] } : ByteArray) ++ bs J2) = bs T2 by rw [cat_t, hT2])
    have HT2 := Lib.hid hT2; clear hT2
    go_wp2_with fail
    refine (number_any b _ hb0_ hb1_).mono ?_
    rw [HJ2.out]
    rintro er z3 ⟨rfl, hb3⟩
    clear x0 x1 x2 x3 x4
    have HX := Lib.hid (HX.out.call hb3); have HB := Lib.hid (btrans HB.out HB.out.size hb3); clear hb3
    obtain ⟨x0, x1, x2, x3, x4⟩ := HX.out.c5
    go_upto_region 9 with (fail)
    rw [HT2c.out]
    obtain ⟨J3, hJ3⟩ : ∃ I, Lib.itoa n = I := ⟨_, rfl⟩
    have hJ3l : J3.length ≤ 1000 := by rw [← hJ3]; have := Lib.itoa_length_le n (by omega) (by omega); omega
    have hzJ3 : ¬ 9223372036854775807 < 1 + J3.length := by omega
    have hyJ3 : ¬ 9223372036854775807 < T2.length + (1 + J3.length) := by omega
    have hxJ3 : ¬ 9223372036854775807 < T2.length + (J3.length + 1) := by omega
    have HJ3 := Lib.hid hJ3; clear hJ3
    obtain ⟨T3, hT3⟩ : ∃ T, T2 ++ (32 :: J3) = T := ⟨_, rfl⟩
    have hT3l : T3.length ≤ 7000 := by rw [← hT3]; simp only [List.length_append, List.length_cons]; omega
    have HT3c := Lib.hid (show bs T2 ++ (({ data := #[32] } : ByteArray) ++ bs J3) = bs T3 by rw [cat_t, hT3])
    have HT3 := Lib.hid hT3; clear hT3
    go_wp2_with fail
    refine (RFormat_any n _ hn0 hn1).mono ?_
    rw [HJ3.out]
    rintro er z4 ⟨rfl, hb4⟩
    clear x0 x1 x2 x3 x4
    have HX := Lib.hid (HX.out.call hb4); have HB := Lib.hid (btrans HB.out HB.out.size hb4); clear hb4
    obtain ⟨x0, x1, x2, x3, x4⟩ := HX.out.c5
    go_upto_region 11 with (fail)
    rw [HT3c.out]
    have HE := Lib.hid (show I ++ [32] ++ nm ++ F = T3 by rw [HFE.out, ← HT3.out, ← HT2.out, ← HT1.out, ← HT0.out, ← HJ1.out, ← HJ2.out, ← HJ3.out]; (try simp))
    go_wp2
    go_ret
    exact ⟨by rw [HE.out] <;> rfl, HB.out⟩
  · obtain ⟨hV, gA, gB, gN, gS⟩ := h
    by_cases h5n : op = 5
    rotate_left
    · have t5 : (op == 5) = false := by rw [beq_eq_false_iff_ne]; exact h5n
      have HFE := Lib.hid (show F = 32 :: Lib.itoa a by rw [← HF.out]; exact fldT_a h5n gA gB gN gS)
      have HGA := Lib.hid gA; have HGB := Lib.hid gB; have HGN := Lib.hid gN; have HGS := Lib.hid gS; clear gA gB gN gS hV h5n
      obtain ⟨x0, x1, x2, x3, x4⟩ := HX.out.c5
      go_wp2_with fail
      refine (uses_any op h1 h2 _).mono ?_
      rw [HGA.out, HGB.out, HGN.out, HGS.out]
      rintro er w1 ⟨rfl, rfl⟩
      obtain ⟨J1, hJ1⟩ : ∃ I, Lib.itoa a = I := ⟨_, rfl⟩
      have hJ1l : J1.length ≤ 1000 := by rw [← hJ1]; have := Lib.itoa_length_le a (by omega) (by omega); omega
      have hzJ1 : ¬ 9223372036854775807 < 1 + J1.length := by omega
      have hyJ1 : ¬ 9223372036854775807 < T0.length + (1 + J1.length) := by omega
      have hxJ1 : ¬ 9223372036854775807 < T0.length + (J1.length + 1) := by omega
      have HJ1 := Lib.hid hJ1; clear hJ1
      obtain ⟨T1, hT1⟩ : ∃ T, T0 ++ (32 :: J1) = T := ⟨_, rfl⟩
      have hT1l : T1.length ≤ 3000 := by rw [← hT1]; simp only [List.length_append, List.length_cons]; omega
      have HT1c := Lib.hid (show bs T0 ++ (({ data := #[32] } : ByteArray) ++ bs J1) = bs T1 by rw [cat_t, hT1])
      have HT1 := Lib.hid hT1; clear hT1
      go_wp2_with fail
      refine (number_any a _ ha0 ha1).mono ?_
      rw [HJ1.out]
      rintro er z5 ⟨rfl, hb5⟩
      clear x0 x1 x2 x3 x4
      have HX := Lib.hid (HX.out.call hb5); have HB := Lib.hid (btrans HB.out HB.out.size hb5); clear hb5
      obtain ⟨x0, x1, x2, x3, x4⟩ := HX.out.c5
      go_upto_region 7 with (fail)
      rw [HT1c.out]
      have HE := Lib.hid (show I ++ [32] ++ nm ++ F = T1 by rw [HFE.out, ← HT1.out, ← HT0.out, ← HJ1.out]; (try simp))
      go_wp2
      go_ret
      exact ⟨by rw [HE.out] <;> rfl, HB.out⟩
    obtain ⟨h40, h41⟩ := H5.out h5n
    have t5 : (op == 5) = true := by rw [h5n]; rfl
    have HFE := Lib.hid (show F = 32 :: OPR.getD (a - 4).toNat [] by rw [← HF.out]; exact fldT_5 h5n)
    have HGA := Lib.hid gA; have HGB := Lib.hid gB; have HGN := Lib.hid gN; have HGS := Lib.hid gS; clear gA gB gN gS hV h5n
    obtain ⟨k, rfl⟩ : ∃ k : Nat, a = (k : Int) + 4 := ⟨(a - 4).toNat, by omega⟩
    clear ha0 ha1
    have hk : k < 21 := by omega
    have hk' : (k : Int) < 21 := by omega
    have hwk : IntKind.i64.wrap ((k : Int) + 4 - 4) = (k : Int) := by rw [IntKind.wrap_i64]; omega
    have hwk2 : IntKind.i64.wrap (k : Int) = (k : Int) := by rw [IntKind.wrap_i64]; omega
    have hol := OPR_len k hk
    have hke : ((k : Int) + 4 - 4).toNat = k := by omega
    obtain ⟨J1, hJ1⟩ : ∃ J, OPR.getD k [] = J := ⟨_, rfl⟩
    rw [hJ1] at hol
    have HFE := Lib.hid (show F = 32 :: J1 by rw [HFE.out, hke, hJ1])
    have HJ1 := Lib.hid hJ1; clear hJ1 hke h40 h41
    have hzJ1 : ¬ 9223372036854775807 < T0.length + 1 := by omega
    have hyJ1 : ¬ 9223372036854775807 < T0.length + 1 + J1.length := by omega
    obtain ⟨T1, hT1⟩ : ∃ T, T0 ++ (32 :: J1) = T := ⟨_, rfl⟩
    have HT1c := Lib.hid (show bs T0 ++ ({ data := #[32] } : ByteArray) ++ bs J1 = bs T1 by rw [cat_o, hT1])
    have HT1 := Lib.hid hT1; clear hT1
    obtain ⟨x0, x1, x2, x3, x4⟩ := HX.out.c5
    go_wp2_with fail
    refine (uses_any op h1 h2 _).mono ?_
    rw [HGA.out, HGB.out, HGN.out, HGS.out]
    rintro er w1 ⟨rfl, rfl⟩
    have hs0 : Bx w.heap.size #[.int .i64 op, .int .i64 ((k : Int) + 4), .int .i64 b, .int .i64 n, .string (bs s)] 39 w1.drew := HX.out
    have HS0 := Lib.hid hs0; clear hs0
    go_upto_region 4 with (fail)
    clear x0 x1 x2 x3 x4
    go_wp2_with fail
    refine wp_region_held_drew (S := (fun w' => Bx w.heap.size #[.int .i64 op, .int .i64 ((k : Int) + 4), .int .i64 b, .int .i64 n, .string (bs s)] 39 w')) (by kernel_rfl) ?_ (fun hHeld => ?_)
    · exact HS0.out
    refine takeH (i := 0) (v := ?vv7) 30 rfl rfl (by kernel_rfl) (by kernel_rfl) (by kernel_rfl) (fun _ _ _ h => h) (Or.inl ⟨by kernel_rfl, ?yy7⟩) (by assumption) ?_
    case yy7 => intro w hSw; (try dsimp only at hSw); go_simp; (try with_reducible rfl)
    simp only [List.setIfInBounds_toArray, List.set_cons_zero, List.set_cons_succ]
    refine takeH (i := 1) (v := ?vv8) 31 rfl rfl (by kernel_rfl) (by kernel_rfl) (by kernel_rfl) (fun _ _ _ h => h) (Or.inl ⟨by kernel_rfl, ?yy8⟩) (by assumption) ?_
    case yy8 => intro w hSw; (try dsimp only at hSw); go_simp; (try with_reducible rfl)
    simp only [List.setIfInBounds_toArray, List.set_cons_zero, List.set_cons_succ]
    refine takeH (i := 3) (v := ?vv9) 33 rfl rfl (by kernel_rfl) (by kernel_rfl) (by kernel_rfl) (fun _ _ _ h => h) (Or.inl ⟨by kernel_rfl, ?yy9⟩) (by assumption) ?_
    case yy9 => intro w hSw; (try dsimp only at hSw); go_simp; (try with_reducible rfl)
    simp only [List.setIfInBounds_toArray, List.set_cons_zero, List.set_cons_succ]
    refine takeH (i := 4) (v := ?vv10) 34 rfl rfl (by kernel_rfl) (by kernel_rfl) (by kernel_rfl) (fun _ _ _ h => h) (Or.inl ⟨by kernel_rfl, ?yy10⟩) (by assumption) ?_
    case yy10 =>
      intro wq hSw
      obtain ⟨x0, x1, x2, x3, x4⟩ := hSw.c5
      clear hSw
      go_simp
      (try with_reducible rfl)
    simp only [List.setIfInBounds_toArray, List.set_cons_zero, List.set_cons_succ]
    refine takeH (i := 5) (v := ?vv11) 35 rfl rfl (by kernel_rfl) (by kernel_rfl) (by kernel_rfl) (fun _ _ _ h => h) (Or.inl ⟨by kernel_rfl, ?yy11⟩) (by assumption) ?_
    case yy11 => intro w hSw; (try dsimp only at hSw); go_simp; (try with_reducible rfl)
    simp only [List.setIfInBounds_toArray, List.set_cons_zero, List.set_cons_succ]
    have hc0 : Below w1.heap.size w1 w1.drew := (Below.refl w1.heap.size w1).drew
    refine wpAnyH_ready (rs := [2]) (by kernel_rfl) (by simp) ?_
    refine (AllReadyH.cons rfl (fun K hK => ?_) AllReadyH.nil)
    go_simp
    (refine (operators_any _).mono ?_; rintro er v1 ⟨rfl, rfl⟩)
    (try go_wp2_with fail)
    refine hK.out _ _ ?_ (fun hHeld => ?_)
    · exact hHeld.alloc _
    clear hK K
    (try simp only [Act.put, List.setIfInBounds_toArray, List.set_cons_zero, List.set_cons_succ])
    have HY := Lib.hid (Bx.new w1 (OPR.map strV).toArray 9)
    have hc1 : Below w1.heap.size w1 (w1.alloc (.cells (OPR.map strV).toArray 9)).drew := (hc0.alloc (Nat.le_refl _) _)
    have HH := Lib.hid (show Bx w.heap.size #[.int .i64 op, .int .i64 ((k : Int) + 4), .int .i64 b, .int .i64 n, .string (bs s)] 39 (w1.alloc (.cells (OPR.map strV).toArray 9)).drew from hHeld); have HC1 := Lib.hid hc1; clear hHeld hc1 hc0 HS0
    (try rw [show w1.drew.alloc (.cells (OPR.map strV).toArray 9) = (w1.alloc (.cells (OPR.map strV).toArray 9)).drew from rfl])
    generalize hW : w1.alloc (.cells (OPR.map strV).toArray 9) = v1 at HY HC1 HH ⊢
    clear hW
    have hHeld := HH.out; clear HH
    have cO : v1.drew.cell? ⟨w1.heap.size, k, none⟩ = some (.string (bs J1)) := by show v1.cell? _ = _; rw [HY.out.cell k, ← HJ1.out]; exact strs_at (by show k < 21; exact hk)
    refine takeH (i := 6) (v := ?vv12) 36 rfl rfl (by kernel_rfl) (by kernel_rfl) (by kernel_rfl) (fun _ _ _ h => h) (Or.inl ⟨by kernel_rfl, ?yy12⟩) (by assumption) ?_
    case yy12 => intro w hSw; (try dsimp only at hSw); go_simp; (try with_reducible rfl)
    simp only [List.setIfInBounds_toArray, List.set_cons_zero, List.set_cons_succ]
    refine wpAnyH_ready (rs := [7]) (by kernel_rfl) (by simp) ?_
    refine (AllReadyH.cons rfl (fun K hK => ?_) AllReadyH.nil)
    go_simp
    skip
    (try go_wp2_with fail)
    refine hK.out _ _ ?_ (fun hHeld => ?_)
    · exact hHeld
    clear hK K
    (try simp only [Act.put, List.setIfInBounds_toArray, List.set_cons_zero, List.set_cons_succ])
    refine takeH (i := 8) (v := ?vv13) 38 rfl rfl (by kernel_rfl) (by kernel_rfl) (by kernel_rfl) (fun _ _ _ h => h) (Or.inl ⟨by kernel_rfl, ?yy13⟩) (by assumption) ?_
    case yy13 => intro w hSw; (try dsimp only at hSw); go_simp; (try with_reducible rfl)
    simp only [List.setIfInBounds_toArray, List.set_cons_zero, List.set_cons_succ]
    refine takeH (i := 9) (v := ?vv14) 4 rfl rfl (by kernel_rfl) (by kernel_rfl) (by kernel_rfl) (fun _ _ _ h => h) (Or.inl ⟨by kernel_rfl, ?yy14⟩) (by assumption) ?_
    case yy14 => intro w hSw; (try dsimp only at hSw); go_simp; (try with_reducible rfl)
    simp only [List.setIfInBounds_toArray, List.set_cons_zero, List.set_cons_succ]
    refine wpAnyH_done (by kernel_rfl) ?_ _
    have HB := Lib.hid (btrans HB.out HB.out.size HC1.out)
    rw [HT1c.out]
    clear hk hk' hwk hwk2 hol HY HC1 cO hHeld hzJ1 hyJ1
    have HE := Lib.hid (show I ++ [32] ++ nm ++ F = T1 by rw [HFE.out, ← HT1.out, ← HT0.out]; (try simp))
    go_wp2
    go_ret
    exact ⟨by rw [HE.out] <;> rfl, HB.out⟩
  · obtain ⟨hV, gA, gB, gN, gS⟩ := h
    have h5n : op ≠ 5 := grp_5 (by simp [gA, gB, gN, gS])
    have t5 : (op == 5) = false := by rw [beq_eq_false_iff_ne]; exact h5n
    have HFE := Lib.hid (show F = [] by rw [← HF.out]; exact fldT_0 h5n gA gB gN gS)
    have HGA := Lib.hid gA; have HGB := Lib.hid gB; have HGN := Lib.hid gN; have HGS := Lib.hid gS; clear gA gB gN gS hV h5n
    obtain ⟨x0, x1, x2, x3, x4⟩ := HX.out.c5
    go_wp2_with fail
    refine (uses_any op h1 h2 _).mono ?_
    rw [HGA.out, HGB.out, HGN.out, HGS.out]
    rintro er w1 ⟨rfl, rfl⟩
    have HE := Lib.hid (show I ++ [32] ++ nm ++ F = T0 by rw [HFE.out, ← HT0.out]; (try simp))
    go_wp2
    go_ret
    exact ⟨by rw [HE.out] <;> rfl, HB.out⟩
theorem cat_s (T J : List UInt8) : bs T ++ (({ data := #[10, 115, 108, 111, 116, 115, 32] } : ByteArray) ++ bs J ++ ({ data := #[10] } : ByteArray)) = bs (T ++ ([10, 115, 108, 111, 116, 115, 32] ++ J ++ [10])) := by show bs T ++ (bs [10, 115, 108, 111, 116, 115, 32] ++ bs J ++ bs [10]) = _; rw [bs_append, bs_append, bs_append]
theorem cat_e (T J : List UInt8) : bs T ++ (bs J ++ ({ data := #[10] } : ByteArray)) = bs (T ++ (J ++ [10])) := by show bs T ++ (bs J ++ bs [10]) = _; rw [bs_append, bs_append]
theorem cat_i (T : List UInt8) : bs T ++ ({ data := #[32, 105, 110, 116] } : ByteArray) = bs (T ++ [32, 105, 110, 116]) := by show bs T ++ bs _ = _; rw [bs_append]
theorem cat_z (T : List UInt8) : bs T ++ ({ data := #[32, 115, 116, 114] } : ByteArray) = bs (T ++ [32, 115, 116, 114]) := by show bs T ++ bs _ = _; rw [bs_append]

set_option maxRecDepth 100000 in
set_option maxHeartbeats 16000000 in
theorem CRFormat_any (pa ia : Option Addr) (pc ic : Nat) (P : List Int) (sl : Int) (l : List Ins) (w : World) (hP : CellsAt w (.slice pa P.length pc) P.length (intsL P)) (hI : CellsAt w (.slice ia l.length ic) l.length (insLs l)) (hp : P.length ≤ 9223372036854775806) (hs : ∀ x ∈ l, InsR x) (hll : l.length ≤ 1500) :
    Calls Tryz.prog 21 #[.agg #[.slice pa P.length pc, .int .i64 sl, .slice ia l.length ic]] w fun e w' => e = .returned (.string (bs (fmtC ⟨P, sl, l⟩))) ∧ Below w.heap.size w w' := by
  obtain ⟨V, hV⟩ : ∃ V, valC ⟨P, sl, l⟩ = V := ⟨_, rfl⟩
  obtain ⟨FT, hFT⟩ : ∃ F, fmtC ⟨P, sl, l⟩ = F := ⟨_, rfl⟩
  rw [hFT]
  have HV := Lib.hid hV; have HFT := Lib.hid hFT; have HPA := Lib.hid hP; have HIA := Lib.hid hI; have HS := Lib.hid hs; clear hV hFT hP hI hs
  obtain ⟨v0, hW0, hb0, hc0⟩ := boxes1 w #[.slice pa P.length pc, .int .i64 sl, .slice ia l.length ic] 25
  have HW := Lib.hid hW0; have HB := Lib.hid hb0; have HC := Lib.hid hc0; clear hW0 hb0 hc0
  go_enter Tryz.func21, Tryz.ntmps21
  go_upto_region 1 with (fail)
  rw [HW.out]
  clear HW
  obtain ⟨c0, c1, c2⟩ := HC.out.c3
  go_wp2_with fail
  refine (RValidate_any pa ia pc ic P sl l _ (HPA.out.below HB.out) (HIA.out.below HB.out) hp (fun x hx => (HS.out x hx).2.2.2)).mono ?_
  rw [HV.out]
  rintro er w1 ⟨rfl, hb1⟩
  clear c0 c1 c2
  have HB := Lib.hid (btrans HB.out HB.out.size hb1); have HC := Lib.hid (HC.out.call hb1); clear hb1
  by_cases hV0 : V = 0
  rotate_left
  · have tv : (V != 0) = true := by rw [bne_iff_ne]; exact hV0
    have HF := Lib.hid (show FT = [] by rw [← HFT.out]; unfold fmtC; rw [if_neg (by rw [HV.out]; exact hV0)])
    clear hV0
    go_wp2
    go_ret
    exact ⟨by rw [HF.out] <;> rfl, HB.out⟩
  have tv : (V != 0) = false := by rw [hV0]; rfl
  have HVV := Lib.hid (HV.out.trans hV0)
  have HF := Lib.hid (show FT = textC ⟨P, sl, l⟩ by rw [← HFT.out]; unfold fmtC; rw [if_pos HVV.out])
  clear hV0
  obtain ⟨_, hsl, _, hpl, hins, _⟩ := valC_parts HVV.out
  simp only at hsl hpl hins
  have hpl2 : P.length ≤ 64 := by omega
  have hsl0 : 0 ≤ sl := by omega
  have HINS := Lib.hid hins; clear hins hpl
  obtain ⟨c0, c1, c2⟩ := HC.out.c3
  go_wp2
  go_loopw [3, 4] (fun sv i wr => ∃ k : Nat, k ≤ P.length ∧ i = .int .i64 k ∧ sv = .string (bs ([112, 97, 114, 97, 109, 115] ++ (P.take k).flatMap tyT)) ∧ Hid (Bx w.heap.size #[.slice pa P.length pc, .int .i64 sl, .slice ia l.length ic] 25 wr) ∧ Below w.heap.size w wr) (fun _ i _ => P.length - (intOf i).toNat)
  case atStart => exact ⟨0, Nat.zero_le _, rfl, rfl, HC, HB.out⟩
  case round =>
    clear c0 c1 c2 HB HC
    obtain ⟨k, hk, rfl, hs, HC, hB⟩ := hrel
    have HB := Lib.hid hB; clear hB
    obtain ⟨T0, hT0⟩ : ∃ T, [112, 97, 114, 97, 109, 115] ++ (P.take k).flatMap tyT = T := ⟨_, rfl⟩
    have hTl : T0.length ≤ 1000 := by rw [← hT0]; have := tyT_len (P.take k); rw [List.length_take] at this; simp only [List.length_append, List.length_cons, List.length_nil]; omega
    rw [hT0] at hs
    subst hs
    have HT0 := Lib.hid hT0; clear hT0
    have hz1 : ¬ 9223372036854775807 < T0.length + 4 := by omega
    obtain ⟨c0, c1, c2⟩ := HC.out.c3
    by_cases hlt : k < P.length
    · have hlt' : (k : Int) < (P.length : Int) := by omega
      have hw1 : IntKind.i64.wrap ((k : Int) + 1) = (k : Int) + 1 := by rw [IntKind.wrap_i64]; omega
      obtain ⟨ba, oa, rfl, p0⟩ := int_cells (HPA.out.below HB.out) hlt
      obtain ⟨t, ht⟩ : ∃ t, P[k] = t := ⟨_, rfl⟩
      rw [ht] at p0
      have HT := Lib.hid ht; clear ht
      by_cases e1 : t = 1
      · have t1 : (t == 1) = true := by rw [e1]; rfl
        have E1 := Lib.hid (show tyT t = [32, 105, 110, 116] by unfold tyT; rw [if_pos e1]); clear e1
        have HS1 := Lib.hid (show [112, 97, 114, 97, 109, 115] ++ (P.take (k + 1)).flatMap tyT = T0 ++ [32, 105, 110, 116] by rw [ty_step hlt, HT.out, ← HT0.out, E1.out]; simp)
        go_wp2
        go_roundw
        case rel => exact ⟨k + 1, by omega, by go_num, by rw [HS1.out]; exact congrArg Value.string (cat_i _), HC, HB.out⟩
        case measure => simp [intOf]; omega
      have t1 : (t == 1) = false := by rw [beq_eq_false_iff_ne]; exact e1
      have E1 := Lib.hid (show tyT t = [32, 115, 116, 114] by unfold tyT; rw [if_neg e1]); clear e1
      have HS1 := Lib.hid (show [112, 97, 114, 97, 109, 115] ++ (P.take (k + 1)).flatMap tyT = T0 ++ [32, 115, 116, 114] by rw [ty_step hlt, HT.out, ← HT0.out, E1.out]; simp)
      go_wp2
      go_roundw
      case rel => exact ⟨k + 1, by omega, by go_num, by rw [HS1.out]; exact congrArg Value.string (cat_z _), HC, HB.out⟩
      case measure => simp [intOf]; omega
    · have hlt' : ¬ (k : Int) < (P.length : Int) := by omega
      have hk2 : P.take k = P := List.take_of_length_le (by omega)
      have HT0 := Lib.hid (show T0 = [112, 97, 114, 97, 109, 115] ++ P.flatMap tyT by rw [← HT0.out, hk2])
      clear hlt hk hk2 hz1
      obtain ⟨J, hJ⟩ : ∃ J, Lib.itoa sl = J := ⟨_, rfl⟩
      have hJl : J.length ≤ 1000 := by rw [← hJ]; have := Lib.itoa_length_le sl (by omega) (by omega); omega
      have hz1 : ¬ 9223372036854775807 < 7 + J.length := by omega
      have hz2 : ¬ 9223372036854775807 < 7 + J.length + 1 := by omega
      have hz3 : ¬ 9223372036854775807 < J.length + 7 + 1 := by omega
      have hz4 : ¬ 9223372036854775807 < T0.length + (7 + J.length + 1) := by omega
      have HJ := Lib.hid hJ; clear hJ
      obtain ⟨T1, hT1⟩ : ∃ T, T0 ++ ([10, 115, 108, 111, 116, 115, 32] ++ J ++ [10]) = T := ⟨_, rfl⟩
      have HTc := Lib.hid (show bs T0 ++ (({ data := #[10, 115, 108, 111, 116, 115, 32] } : ByteArray) ++ bs J ++ ({ data := #[10] } : ByteArray)) = bs T1 by rw [cat_s, hT1])
      have hT1l : T1.length ≤ 3000 := by rw [← hT1]; simp only [List.length_append, List.length_cons, List.length_nil]; omega
      have HH := Lib.hid (show headT ⟨P, sl, l⟩ = T1 by unfold headT; rw [← hT1, HT0.out]; show _ = _; rw [HJ.out]; simp)
      clear hT1
      go_wp2_with fail
      refine (number_any sl _ (by omega) (by omega)).mono ?_
      rw [HJ.out]
      rintro er w4 ⟨rfl, hb4⟩
      clear c0 c1 c2
      have HC := Lib.hid (HC.out.call hb4); have HB := Lib.hid (btrans HB.out HB.out.size hb4); clear hb4
      go_upto_region 11 with (fail)
      rw [HTc.out]
      clear hz1 hz2 hz3 hz4 hTl hJl HTc
      obtain ⟨c0, c1, c2⟩ := HC.out.c3
      go_wp2
      go_loopw [3, 5] (fun sv i wr => ∃ k : Nat, k ≤ l.length ∧ i = .int .i64 k ∧ sv = .string (bs (T1 ++ linesT 0 (l.take k))) ∧ Hid (Bx w.heap.size #[.slice pa P.length pc, .int .i64 sl, .slice ia l.length ic] 25 wr) ∧ Below w.heap.size w wr) (fun _ i _ => l.length - (intOf i).toNat)
      case atStart => exact ⟨0, Nat.zero_le _, rfl, by rw [List.take_zero]; show _ = Value.string (bs (T1 ++ [])); rw [List.append_nil], HC, HB.out⟩
      case round =>
        clear c0 c1 c2 HB HC
        obtain ⟨k, hk, rfl, hs, HC, hB⟩ := hrel
        have HB := Lib.hid hB; clear hB
        have HLL := Lib.hid (linesT_len (sl := sl) (n := (l.length : Int)) (l.take k) 0 (by rw [List.length_take]; omega) (fun x hx => ⟨HS.out x (List.mem_of_mem_take hx), List.all_eq_true.1 HINS.out x (List.mem_of_mem_take hx)⟩))
        obtain ⟨T2, hT2⟩ : ∃ T, T1 ++ linesT 0 (l.take k) = T := ⟨_, rfl⟩
        have hT2l : T2.length ≤ 400000 := by rw [← hT2]; have := HLL.out; rw [List.length_take] at this; rw [List.length_append]; omega
        rw [hT2] at hs
        subst hs
        have HT2 := Lib.hid hT2; clear hT2 HLL
        obtain ⟨c0, c1, c2⟩ := HC.out.c3
        by_cases hlt : k < l.length
        · have hlt' : (k : Int) < (l.length : Int) := by omega
          have hw1 : IntKind.i64.wrap ((k : Int) + 1) = (k : Int) + 1 := by rw [IntKind.wrap_i64]; omega
          obtain ⟨ba, oa, rfl, p0, p1, p2, p3, p4⟩ := ins_cells (HIA.out.below HB.out) hlt
          have hxr := HS.out _ (List.getElem_mem hlt)
          have hxi := ins_facts (List.all_eq_true.1 HINS.out _ (List.getElem_mem hlt))
          obtain ⟨⟨op, a, b1, n, s⟩, hxe⟩ : ∃ x, l[k] = x := ⟨_, rfl⟩
          rw [hxe] at p0 p1 p2 p3 p4 hxr hxi
          simp only at p0 p1 p2 p3 p4 hxi
          have hln := lineT_len (i := k) (by omega) (x := ⟨op, a, b1, n, s⟩) hxr.1 hxr.2.1 hxr.2.2.1 hxi.1 hxi.2.1 hxi.2.2.1 hxi.2.2.2.1 hxi.2.2.2.2
          obtain ⟨LN, hLN⟩ : ∃ L, lineT k ⟨op, a, b1, n, s⟩ = L := ⟨_, rfl⟩
          rw [hLN] at hln
          have hz1 : ¬ 9223372036854775807 < LN.length + 1 := by omega
          have hz2 : ¬ 9223372036854775807 < T2.length + (LN.length + 1) := by omega
          have HLN := Lib.hid hLN; have HXR := Lib.hid hxr; have HXI := Lib.hid hxi; have HXE := Lib.hid hxe; clear hxe hxr hxi hLN
          have HN := Lib.hid (show T1 ++ linesT 0 (l.take (k + 1)) = T2 ++ (LN ++ [10]) by rw [lines_step hlt, HXE.out, ← List.append_assoc, HT2.out, HLN.out])
          go_wp2_with fail
          refine (Rline_any k op a b1 n s _ (by omega) HXI.out.1 HXI.out.2.1 HXI.out.2.2.1 HXR.out.1 HXR.out.2.1 HXR.out.2.2.1 HXI.out.2.2.2.1 HXI.out.2.2.2.2).mono ?_
          rw [HLN.out]
          rintro er w6 ⟨rfl, hb6⟩
          clear c0 c1 c2 p0 p1 p2 p3 p4
          have HC := Lib.hid (HC.out.call hb6); have HB := Lib.hid (btrans HB.out HB.out.size hb6); clear hb6
          go_wp2
          go_roundw
          case rel => exact ⟨k + 1, by omega, by go_num, by rw [HN.out]; exact congrArg Value.string (cat_e _ _), HC, HB.out⟩
          case measure => simp [intOf]; omega
        · have hlt' : ¬ (k : Int) < (l.length : Int) := by omega
          have hk2 : l.take k = l := List.take_of_length_le (by omega)
          have HT2 := Lib.hid (show FT = T2 by rw [HF.out, ← HT2.out, hk2]; unfold textC; rw [HH.out])
          clear hlt hk hk2
          go_wp2
          go_ret
          exact ⟨by rw [HT2.out] <;> rfl, HB.out⟩
end Go.Proofs.YtkmmdkklpbafdaaGreatDoor
