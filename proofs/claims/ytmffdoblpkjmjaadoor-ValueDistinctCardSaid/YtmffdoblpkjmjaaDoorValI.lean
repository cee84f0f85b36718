/- The walk of layer 5's examples. No conditions. -/
import Derived.Test.YtmffdoblpkjmjaaDoorValH
namespace Go.Proofs.YtmffdoblpkjmjaaDoor
open Go.RowKit

theorem vp1 : parV [45, 48] = (v00, 5) := by decide
theorem vp2 : parV [57, 50, 50, 51, 51, 55, 50, 48, 51, 54, 56, 53, 52, 55, 55, 53, 56, 48, 56] = (v00, 3) := by decide
theorem vp3 : strV5 [97, 34, 98] = (⟨2, 0, [97, 34, 98]⟩, 0) := by decide
theorem vp4 : parV [34, 97, 92, 34, 98, 34] = (⟨2, 0, [97, 34, 98]⟩, 0) := by decide
theorem vp5 : fmtV ⟨1, -7, []⟩ = [45, 55] := by
  unfold fmtV
  rw [if_pos (by decide), if_neg (by decide), if_pos (by decide)]
  show Lib.itoa (-7) = _
  unfold Lib.itoa
  rw [if_pos (by decide), show (-7 : Int).natAbs = 7 from rfl, Lib.decDigits, dif_pos (by decide)]
  rfl
theorem vp6 : fmtV ⟨2, 0, [97, 34, 98]⟩ = [34, 97, 92, 34, 98, 34] := by decide
theorem vp7 : encV ⟨1, -1, []⟩ = [1, 1] := by decide
theorem vp8 : vaB ⟨2, 0, [97, 34, 98]⟩ = true := by decide
theorem vp9 : cmpV ⟨1, 1, []⟩ ⟨2, 0, [97, 34, 98]⟩ = -1 := by decide

set_option maxRecDepth 100000 in
set_option maxHeartbeats 16000000 in
theorem works_any (w : World) (hL : Laid w) :
    Calls Tryd.prog 11 #[] w fun e w' => e = .returned (.bool true) ∧ Below w.heap.size w w' := by
  have HB := Lib.hid (Below.refl w.heap.size w)
  go_enter Tryd.func11, Tryd.ntmps11
  go_wp2_with fail
  refine (VParse_any [45, 48] (by decide) _ (hL.below HB.out)).mono ?_
  rw [vp1]
  simp only [vV, v00]
  rintro er w1 ⟨rfl, hb1⟩
  have hal := (Below.refl w1.heap.size w1).alloc (Nat.le_refl _) (.cells #[.int .i64 0, .int .i64 0, .string (bs [])] 23)
  have HB := Lib.hid (btrans (btrans HB.out HB.out.size hb1) (btrans HB.out HB.out.size hb1).size hal); clear hb1 hal
  go_upto_region 2 with (fail)
  generalize hW : w1.alloc (.cells #[.int .i64 0, .int .i64 0, .string (bs [])] 23) = v1 at HB  ⊢
  clear hW
  go_wp2_with fail
  refine (VParse_any [57, 50, 50, 51, 51, 55, 50, 48, 51, 54, 56, 53, 52, 55, 55, 53, 56, 48, 56] (by decide) _ (hL.below HB.out)).mono ?_
  rw [vp2]
  simp only [vV, v00]
  rintro er w2 ⟨rfl, hb1⟩
  have hal := (Below.refl w2.heap.size w2).alloc (Nat.le_refl _) (.cells #[.int .i64 0, .int .i64 0, .string (bs [])] 23)
  have HB := Lib.hid (btrans (btrans HB.out HB.out.size hb1) (btrans HB.out HB.out.size hb1).size hal); clear hb1 hal
  go_upto_region 3 with (fail)
  generalize hW : w2.alloc (.cells #[.int .i64 0, .int .i64 0, .string (bs [])] 23) = v2 at HB  ⊢
  clear hW
  go_wp2_with fail
  refine (VStr_any [97, 34, 98] (by decide) _).mono ?_
  rw [vp3]
  simp only [vV]
  rintro er w3 ⟨rfl, hb1⟩
  have hal := (Below.refl w3.heap.size w3).alloc (Nat.le_refl _) (.cells #[.int .i64 2, .int .i64 0, .string (bs [97, 34, 98])] 23)
  have HX := Lib.hid (Bx.new w3 #[.int .i64 2, .int .i64 0, .string (bs [97, 34, 98])] 23)
  have HB := Lib.hid (btrans (btrans HB.out HB.out.size hb1) (btrans HB.out HB.out.size hb1).size hal); clear hb1 hal
  go_upto_region 4 with (fail)
  generalize hW : w3.alloc (.cells #[.int .i64 2, .int .i64 0, .string (bs [97, 34, 98])] 23) = v3 at HB HX ⊢
  clear hW
  go_wp2_with fail
  refine (VParse_any [34, 97, 92, 34, 98, 34] (by decide) _ (hL.below HB.out)).mono ?_
  rw [vp4]
  simp only [vV]
  rintro er w4 ⟨rfl, hb1⟩
  have hal := (Below.refl w4.heap.size w4).alloc (Nat.le_refl _) (.cells #[.int .i64 2, .int .i64 0, .string (bs [97, 34, 98])] 23)
  have HX := Lib.hid ((HX.out.call hb1).call hal)
  have HY := Lib.hid (Bx.new w4 #[.int .i64 2, .int .i64 0, .string (bs [97, 34, 98])] 23)
  have HB := Lib.hid (btrans (btrans HB.out HB.out.size hb1) (btrans HB.out HB.out.size hb1).size hal); clear hb1 hal
  go_upto_region 5 with (fail)
  generalize hW : w4.alloc (.cells #[.int .i64 2, .int .i64 0, .string (bs [97, 34, 98])] 23) = v4 at HB HX HY ⊢
  clear hW
  have hs0 : Bx w3.heap.size #[.int .i64 2, .int .i64 0, .string (bs [97, 34, 98])] 23 v4.drew ∧ Bx w4.heap.size #[.int .i64 2, .int .i64 0, .string (bs [97, 34, 98])] 23 v4.drew := ⟨HX.out, HY.out⟩
  have HS0 := Lib.hid hs0; clear hs0
  have hL4 := hL.below HB.out
  have HL4 := Lib.hid hL4; clear hL4
  go_wp2_with fail
  refine wp_region_held_drew (S := (fun w' => Bx w3.heap.size #[.int .i64 2, .int .i64 0, .string (bs [97, 34, 98])] 23 w' ∧ Bx w4.heap.size #[.int .i64 2, .int .i64 0, .string (bs [97, 34, 98])] 23 w')) (by kernel_rfl) ?_ (fun hHeld => ?_)
  · exact HS0.out
  have hc0 : Below v4.heap.size v4 v4.drew := (Below.refl v4.heap.size v4).drew
  refine wpAnyH_ready (rs := [0]) (by kernel_rfl) (by simp) ?_
  refine (AllReadyH.cons rfl (fun K hK => ?_) AllReadyH.nil)
  go_simp
  (refine (VInt_any (-7) _).mono ?_; simp only [vV, intV5]; rintro er u1 ⟨rfl, hb1⟩)
  (try go_wp2_with fail)
  refine hK.out _ _ ?_ (fun hHeld => ?_)
  · exact ⟨hHeld.1.call hb1, hHeld.2.call hb1⟩
  clear hK K
  (try simp only [Act.put, List.setIfInBounds_toArray, List.set_cons_zero, List.set_cons_succ])
  have hc1 := btrans hc0 hc0.size hb1
  refine wpAnyH_ready (rs := [1]) (by kernel_rfl) (by simp) ?_
  refine (AllReadyH.cons rfl (fun K hK => ?_) AllReadyH.nil)
  go_simp
  (refine (VFormat_any ⟨1, -7, []⟩ (by decide) (by decide) (by decide) _ (HL4.out.below hc1)).mono ?_; rw [vp5]; rintro er u2 ⟨rfl, hb2⟩)
  (try go_wp2_with fail)
  refine hK.out _ _ ?_ (fun hHeld => ?_)
  · exact ⟨hHeld.1.call hb2, hHeld.2.call hb2⟩
  clear hK K
  (try simp only [Act.put, List.setIfInBounds_toArray, List.set_cons_zero, List.set_cons_succ])
  have hc2 := btrans hc1 hc1.size hb2
  refine takeH (i := 2) (v := ?vv1) 27 rfl rfl (by kernel_rfl) (by kernel_rfl) (by kernel_rfl) (fun _ _ _ h => h) (Or.inl ⟨by kernel_rfl, ?yy1⟩) (by assumption) ?_
  case yy1 => intro w hSw; (try dsimp only at hSw); go_simp; (try with_reducible rfl)
  simp only [List.setIfInBounds_toArray, List.set_cons_zero, List.set_cons_succ]
  refine takeH (i := 3) (v := ?vv2) 28 rfl rfl (by kernel_rfl) (by kernel_rfl) (by kernel_rfl) (fun _ _ _ h => h) (Or.inl ⟨by kernel_rfl, ?yy2⟩) (by assumption) ?_
  case yy2 => intro w hSw; (try dsimp only at hSw); go_simp; (try with_reducible rfl)
  simp only [List.setIfInBounds_toArray, List.set_cons_zero, List.set_cons_succ]
  refine takeH (i := 4) (v := ?vv3) 29 rfl rfl (by kernel_rfl) (by kernel_rfl) (by kernel_rfl) (fun _ _ _ h => h) (Or.inl ⟨by kernel_rfl, ?yy3⟩) (by assumption) ?_
  case yy3 =>
    intro wq hSw
    have c0_0 : wq.cell? ⟨w3.heap.size, 0, none⟩ = some (.int .i64 2) := (hSw.1).cell 0
    have c0_1 : wq.cell? ⟨w3.heap.size, 1, none⟩ = some (.int .i64 0) := (hSw.1).cell 1
    have c0_2 : wq.cell? ⟨w3.heap.size, 2, none⟩ = some (.string (bs [97, 34, 98])) := (hSw.1).cell 2
    clear hSw
    go_simp
    (try with_reducible rfl)
  simp only [List.setIfInBounds_toArray, List.set_cons_zero, List.set_cons_succ]
  refine wpAnyH_ready (rs := [5]) (by kernel_rfl) (by simp) ?_
  refine (AllReadyH.cons rfl (fun K hK => ?_) AllReadyH.nil)
  go_simp
  (refine (VFormat_any ⟨2, 0, [97, 34, 98]⟩ (by decide) (by decide) (by decide) _ (HL4.out.below hc2)).mono ?_; rw [vp6]; rintro er u3 ⟨rfl, hb3⟩)
  (try go_wp2_with fail)
  refine hK.out _ _ ?_ (fun hHeld => ?_)
  · exact ⟨hHeld.1.call hb3, hHeld.2.call hb3⟩
  clear hK K
  (try simp only [Act.put, List.setIfInBounds_toArray, List.set_cons_zero, List.set_cons_succ])
  have hc3 := btrans hc2 hc2.size hb3
  refine takeH (i := 6) (v := ?vv4) 31 rfl rfl (by kernel_rfl) (by kernel_rfl) (by kernel_rfl) (fun _ _ _ h => h) (Or.inl ⟨by kernel_rfl, ?yy4⟩) (by assumption) ?_
  case yy4 => intro w hSw; (try dsimp only at hSw); go_simp; (try with_reducible rfl)
  simp only [List.setIfInBounds_toArray, List.set_cons_zero, List.set_cons_succ]
  refine takeH (i := 7) (v := ?vv5) 32 rfl rfl (by kernel_rfl) (by kernel_rfl) (by kernel_rfl) (fun _ _ _ h => h) (Or.inl ⟨by kernel_rfl, ?yy5⟩) (by assumption) ?_
  case yy5 => intro w hSw; (try dsimp only at hSw); go_simp; (try with_reducible rfl)
  simp only [List.setIfInBounds_toArray, List.set_cons_zero, List.set_cons_succ]
  refine takeH (i := 8) (v := ?vv6) 33 rfl rfl (by kernel_rfl) (by kernel_rfl) (by kernel_rfl) (fun _ _ _ h => h) (Or.inl ⟨by kernel_rfl, ?yy6⟩) (by assumption) ?_
  case yy6 => intro w hSw; (try dsimp only at hSw); go_simp; (try with_reducible rfl)
  simp only [List.setIfInBounds_toArray, List.set_cons_zero, List.set_cons_succ]
  refine takeH (i := 9) (v := ?vv7) 34 rfl rfl (by kernel_rfl) (by kernel_rfl) (by kernel_rfl) (fun _ _ _ h => h) (Or.inl ⟨by kernel_rfl, ?yy7⟩) (by assumption) ?_
  case yy7 => intro w hSw; (try dsimp only at hSw); go_simp; (try with_reducible rfl)
  simp only [List.setIfInBounds_toArray, List.set_cons_zero, List.set_cons_succ]
  refine takeH (i := 10) (v := ?vv8) 35 rfl rfl (by kernel_rfl) (by kernel_rfl) (by kernel_rfl) (fun _ _ _ h => h) (Or.inl ⟨by kernel_rfl, ?yy8⟩) (by assumption) ?_
  case yy8 => intro w hSw; (try dsimp only at hSw); go_simp; (try with_reducible rfl)
  simp only [List.setIfInBounds_toArray, List.set_cons_zero, List.set_cons_succ]
  refine takeH (i := 11) (v := ?vv9) 36 rfl rfl (by kernel_rfl) (by kernel_rfl) (by kernel_rfl) (fun _ _ _ h => h) (Or.inl ⟨by kernel_rfl, ?yy9⟩) (by assumption) ?_
  case yy9 => intro w hSw; (try dsimp only at hSw); go_simp; (try with_reducible rfl)
  simp only [List.setIfInBounds_toArray, List.set_cons_zero, List.set_cons_succ]
  refine takeH (i := 12) (v := ?vv10) 37 rfl rfl (by kernel_rfl) (by kernel_rfl) (by kernel_rfl) (fun _ _ _ h => h) (Or.inl ⟨by kernel_rfl, ?yy10⟩) (by assumption) ?_
  case yy10 => intro w hSw; (try dsimp only at hSw); go_simp; (try with_reducible rfl)
  simp only [List.setIfInBounds_toArray, List.set_cons_zero, List.set_cons_succ]
  refine takeH (i := 13) (v := ?vv11) 38 rfl rfl (by kernel_rfl) (by kernel_rfl) (by kernel_rfl) (fun _ _ _ h => h) (Or.inl ⟨by kernel_rfl, ?yy11⟩) (by assumption) ?_
  case yy11 => intro w hSw; (try dsimp only at hSw); go_simp; (try with_reducible rfl)
  simp only [List.setIfInBounds_toArray, List.set_cons_zero, List.set_cons_succ]
  refine takeH (i := 14) (v := ?vv12) 39 rfl rfl (by kernel_rfl) (by kernel_rfl) (by kernel_rfl) (fun _ _ _ h => h) (Or.inl ⟨by kernel_rfl, ?yy12⟩) (by assumption) ?_
  case yy12 => intro w hSw; (try dsimp only at hSw); go_simp; (try with_reducible rfl)
  simp only [List.setIfInBounds_toArray, List.set_cons_zero, List.set_cons_succ]
  refine takeH (i := 15) (v := ?vv13) 40 rfl rfl (by kernel_rfl) (by kernel_rfl) (by kernel_rfl) (fun _ _ _ h => h) (Or.inl ⟨by kernel_rfl, ?yy13⟩) (by assumption) ?_
  case yy13 => intro w hSw; (try dsimp only at hSw); go_simp; (try with_reducible rfl)
  simp only [List.setIfInBounds_toArray, List.set_cons_zero, List.set_cons_succ]
  refine takeH (i := 16) (v := ?vv14) 41 rfl rfl (by kernel_rfl) (by kernel_rfl) (by kernel_rfl) (fun _ _ _ h => h) (Or.inl ⟨by kernel_rfl, ?yy14⟩) (by assumption) ?_
  case yy14 => intro w hSw; (try dsimp only at hSw); go_simp; (try with_reducible rfl)
  simp only [List.setIfInBounds_toArray, List.set_cons_zero, List.set_cons_succ]
  refine takeH (i := 17) (v := ?vv15) 42 rfl rfl (by kernel_rfl) (by kernel_rfl) (by kernel_rfl) (fun _ _ _ h => h) (Or.inl ⟨by kernel_rfl, ?yy15⟩) (by assumption) ?_
  case yy15 => intro w hSw; (try dsimp only at hSw); go_simp; (try with_reducible rfl)
  simp only [List.setIfInBounds_toArray, List.set_cons_zero, List.set_cons_succ]
  refine takeH (i := 18) (v := ?vv16) 43 rfl rfl (by kernel_rfl) (by kernel_rfl) (by kernel_rfl) (fun _ _ _ h => h) (Or.inl ⟨by kernel_rfl, ?yy16⟩) (by assumption) ?_
  case yy16 => intro w hSw; (try dsimp only at hSw); go_simp; (try with_reducible rfl)
  simp only [List.setIfInBounds_toArray, List.set_cons_zero, List.set_cons_succ]
  refine takeH (i := 19) (v := ?vv17) 44 rfl rfl (by kernel_rfl) (by kernel_rfl) (by kernel_rfl) (fun _ _ _ h => h) (Or.inl ⟨by kernel_rfl, ?yy17⟩) (by assumption) ?_
  case yy17 => intro w hSw; (try dsimp only at hSw); go_simp; (try with_reducible rfl)
  simp only [List.setIfInBounds_toArray, List.set_cons_zero, List.set_cons_succ]
  refine takeH (i := 20) (v := ?vv18) 45 rfl rfl (by kernel_rfl) (by kernel_rfl) (by kernel_rfl) (fun _ _ _ h => h) (Or.inl ⟨by kernel_rfl, ?yy18⟩) (by assumption) ?_
  case yy18 => intro w hSw; (try dsimp only at hSw); go_simp; (try with_reducible rfl)
  simp only [List.setIfInBounds_toArray, List.set_cons_zero, List.set_cons_succ]
  refine takeH (i := 21) (v := ?vv19) 46 rfl rfl (by kernel_rfl) (by kernel_rfl) (by kernel_rfl) (fun _ _ _ h => h) (Or.inl ⟨by kernel_rfl, ?yy19⟩) (by assumption) ?_
  case yy19 => intro w hSw; (try dsimp only at hSw); go_simp; (try with_reducible rfl)
  simp only [List.setIfInBounds_toArray, List.set_cons_zero, List.set_cons_succ]
  refine takeH (i := 22) (v := ?vv20) 47 rfl rfl (by kernel_rfl) (by kernel_rfl) (by kernel_rfl) (fun _ _ _ h => h) (Or.inl ⟨by kernel_rfl, ?yy20⟩) (by assumption) ?_
  case yy20 => intro w hSw; (try dsimp only at hSw); go_simp; (try with_reducible rfl)
  simp only [List.setIfInBounds_toArray, List.set_cons_zero, List.set_cons_succ]
  refine takeH (i := 23) (v := ?vv21) 48 rfl rfl (by kernel_rfl) (by kernel_rfl) (by kernel_rfl) (fun _ _ _ h => h) (Or.inl ⟨by kernel_rfl, ?yy21⟩) (by assumption) ?_
  case yy21 => intro w hSw; (try dsimp only at hSw); go_simp; (try with_reducible rfl)
  simp only [List.setIfInBounds_toArray, List.set_cons_zero, List.set_cons_succ]
  refine takeH (i := 24) (v := ?vv22) 49 rfl rfl (by kernel_rfl) (by kernel_rfl) (by kernel_rfl) (fun _ _ _ h => h) (Or.inl ⟨by kernel_rfl, ?yy22⟩) (by assumption) ?_
  case yy22 => intro w hSw; (try dsimp only at hSw); go_simp; (try with_reducible rfl)
  simp only [List.setIfInBounds_toArray, List.set_cons_zero, List.set_cons_succ]
  refine takeH (i := 25) (v := ?vv23) 50 rfl rfl (by kernel_rfl) (by kernel_rfl) (by kernel_rfl) (fun _ _ _ h => h) (Or.inl ⟨by kernel_rfl, ?yy23⟩) (by assumption) ?_
  case yy23 =>
    intro wq hSw
    have c1_0 : wq.cell? ⟨w4.heap.size, 0, none⟩ = some (.int .i64 2) := (hSw.2).cell 0
    have c1_1 : wq.cell? ⟨w4.heap.size, 1, none⟩ = some (.int .i64 0) := (hSw.2).cell 1
    have c1_2 : wq.cell? ⟨w4.heap.size, 2, none⟩ = some (.string (bs [97, 34, 98])) := (hSw.2).cell 2
    clear hSw
    go_simp
    (try with_reducible rfl)
  simp only [List.setIfInBounds_toArray, List.set_cons_zero, List.set_cons_succ]
  refine takeH (i := 26) (v := ?vv24) 51 rfl rfl (by kernel_rfl) (by kernel_rfl) (by kernel_rfl) (fun _ _ _ h => h) (Or.inl ⟨by kernel_rfl, ?yy24⟩) (by assumption) ?_
  case yy24 =>
    intro wq hSw
    have c0_0 : wq.cell? ⟨w3.heap.size, 0, none⟩ = some (.int .i64 2) := (hSw.1).cell 0
    have c0_1 : wq.cell? ⟨w3.heap.size, 1, none⟩ = some (.int .i64 0) := (hSw.1).cell 1
    have c0_2 : wq.cell? ⟨w3.heap.size, 2, none⟩ = some (.string (bs [97, 34, 98])) := (hSw.1).cell 2
    clear hSw
    go_simp
    (try with_reducible rfl)
  simp only [List.setIfInBounds_toArray, List.set_cons_zero, List.set_cons_succ]
  refine takeH (i := 27) (v := ?vv25) 52 rfl rfl (by kernel_rfl) (by kernel_rfl) (by kernel_rfl) (fun _ _ _ h => h) (Or.inl ⟨by kernel_rfl, ?yy25⟩) (by assumption) ?_
  case yy25 => intro w hSw; (try dsimp only at hSw); go_simp; (try with_reducible rfl)
  simp only [List.setIfInBounds_toArray, List.set_cons_zero, List.set_cons_succ]
  refine takeH (i := 28) (v := ?vv26) 53 rfl rfl (by kernel_rfl) (by kernel_rfl) (by kernel_rfl) (fun _ _ _ h => h) (Or.inl ⟨by kernel_rfl, ?yy26⟩) (by assumption) ?_
  case yy26 => intro w hSw; (try dsimp only at hSw); go_simp; (try with_reducible rfl)
  simp only [List.setIfInBounds_toArray, List.set_cons_zero, List.set_cons_succ]
  refine takeH (i := 29) (v := ?vv27) 54 rfl rfl (by kernel_rfl) (by kernel_rfl) (by kernel_rfl) (fun _ _ _ h => h) (Or.inl ⟨by kernel_rfl, ?yy27⟩) (by assumption) ?_
  case yy27 => intro w hSw; (try dsimp only at hSw); go_simp; (try with_reducible rfl)
  simp only [List.setIfInBounds_toArray, List.set_cons_zero, List.set_cons_succ]
  refine wpAnyH_ready (rs := [30]) (by kernel_rfl) (by simp) ?_
  refine (AllReadyH.cons rfl (fun K hK => ?_) AllReadyH.nil)
  go_simp
  (refine (VInt_any (-1) _).mono ?_; simp only [vV, intV5]; rintro er u4 ⟨rfl, hb4⟩)
  (try go_wp2_with fail)
  refine hK.out _ _ ?_ (fun hHeld => ?_)
  · exact ⟨hHeld.1.call hb4, hHeld.2.call hb4⟩
  clear hK K
  (try simp only [Act.put, List.setIfInBounds_toArray, List.set_cons_zero, List.set_cons_succ])
  have hc4 := btrans hc3 hc3.size hb4
  refine wpAnyH_ready (rs := [31]) (by kernel_rfl) (by simp) ?_
  refine (AllReadyH.cons rfl (fun K hK => ?_) AllReadyH.nil)
  go_simp
  (refine (VEncode_any ⟨1, -1, []⟩ (by decide) (by decide) (by decide) _).mono ?_; rw [vp7]; rintro er u5 ⟨rfl, hb5⟩)
  (try go_wp2_with fail)
  refine hK.out _ _ ?_ (fun hHeld => ?_)
  · exact ⟨hHeld.1.call hb5, hHeld.2.call hb5⟩
  clear hK K
  (try simp only [Act.put, List.setIfInBounds_toArray, List.set_cons_zero, List.set_cons_succ])
  have hc5 := btrans hc4 hc4.size hb5
  refine takeH (i := 32) (v := ?vv28) 57 rfl rfl (by kernel_rfl) (by kernel_rfl) (by kernel_rfl) (fun _ _ _ h => h) (Or.inl ⟨by kernel_rfl, ?yy28⟩) (by assumption) ?_
  case yy28 => intro w hSw; (try dsimp only at hSw); go_simp; (try with_reducible rfl)
  simp only [List.setIfInBounds_toArray, List.set_cons_zero, List.set_cons_succ]
  refine takeH (i := 33) (v := ?vv29) 58 rfl rfl (by kernel_rfl) (by kernel_rfl) (by kernel_rfl) (fun _ _ _ h => h) (Or.inl ⟨by kernel_rfl, ?yy29⟩) (by assumption) ?_
  case yy29 => intro w hSw; (try dsimp only at hSw); go_simp; (try with_reducible rfl)
  simp only [List.setIfInBounds_toArray, List.set_cons_zero, List.set_cons_succ]
  refine takeH (i := 34) (v := ?vv30) 59 rfl rfl (by kernel_rfl) (by kernel_rfl) (by kernel_rfl) (fun _ _ _ h => h) (Or.inl ⟨by kernel_rfl, ?yy30⟩) (by assumption) ?_
  case yy30 => intro w hSw; (try dsimp only at hSw); go_simp; (try with_reducible rfl)
  simp only [List.setIfInBounds_toArray, List.set_cons_zero, List.set_cons_succ]
  refine takeH (i := 35) (v := ?vv31) 60 rfl rfl (by kernel_rfl) (by kernel_rfl) (by kernel_rfl) (fun _ _ _ h => h) (Or.inl ⟨by kernel_rfl, ?yy31⟩) (by assumption) ?_
  case yy31 =>
    intro wq hSw
    have c0_0 : wq.cell? ⟨w3.heap.size, 0, none⟩ = some (.int .i64 2) := (hSw.1).cell 0
    have c0_1 : wq.cell? ⟨w3.heap.size, 1, none⟩ = some (.int .i64 0) := (hSw.1).cell 1
    have c0_2 : wq.cell? ⟨w3.heap.size, 2, none⟩ = some (.string (bs [97, 34, 98])) := (hSw.1).cell 2
    clear hSw
    go_simp
    (try with_reducible rfl)
  simp only [List.setIfInBounds_toArray, List.set_cons_zero, List.set_cons_succ]
  refine wpAnyH_ready (rs := [36]) (by kernel_rfl) (by simp) ?_
  refine (AllReadyH.cons rfl (fun K hK => ?_) AllReadyH.nil)
  go_simp
  (refine (VValid_any ⟨2, 0, [97, 34, 98]⟩ (by decide) _).mono ?_; rw [vp8]; rintro er u6 ⟨rfl, hb6⟩)
  (try go_wp2_with fail)
  refine hK.out _ _ ?_ (fun hHeld => ?_)
  · exact ⟨hHeld.1.call hb6, hHeld.2.call hb6⟩
  clear hK K
  (try simp only [Act.put, List.setIfInBounds_toArray, List.set_cons_zero, List.set_cons_succ])
  have hc6 := btrans hc5 hc5.size hb6
  refine takeH (i := 37) (v := ?vv32) 62 rfl rfl (by kernel_rfl) (by kernel_rfl) (by kernel_rfl) (fun _ _ _ h => h) (Or.inl ⟨by kernel_rfl, ?yy32⟩) (by assumption) ?_
  case yy32 => intro w hSw; (try dsimp only at hSw); go_simp; (try with_reducible rfl)
  simp only [List.setIfInBounds_toArray, List.set_cons_zero, List.set_cons_succ]
  refine takeH (i := 38) (v := ?vv33) 63 rfl rfl (by kernel_rfl) (by kernel_rfl) (by kernel_rfl) (fun _ _ _ h => h) (Or.inl ⟨by kernel_rfl, ?yy33⟩) (by assumption) ?_
  case yy33 => intro w hSw; (try dsimp only at hSw); go_simp; (try with_reducible rfl)
  simp only [List.setIfInBounds_toArray, List.set_cons_zero, List.set_cons_succ]
  refine takeH (i := 40) (v := ?vv34) 65 rfl rfl (by kernel_rfl) (by kernel_rfl) (by kernel_rfl) (fun _ _ _ h => h) (Or.inl ⟨by kernel_rfl, ?yy34⟩) (by assumption) ?_
  case yy34 =>
    intro wq hSw
    have c0_0 : wq.cell? ⟨w3.heap.size, 0, none⟩ = some (.int .i64 2) := (hSw.1).cell 0
    have c0_1 : wq.cell? ⟨w3.heap.size, 1, none⟩ = some (.int .i64 0) := (hSw.1).cell 1
    have c0_2 : wq.cell? ⟨w3.heap.size, 2, none⟩ = some (.string (bs [97, 34, 98])) := (hSw.1).cell 2
    clear hSw
    go_simp
    (try with_reducible rfl)
  simp only [List.setIfInBounds_toArray, List.set_cons_zero, List.set_cons_succ]
  refine wpAnyH_ready (rs := [39]) (by kernel_rfl) (by simp) ?_
  refine (AllReadyH.cons rfl (fun K hK => ?_) AllReadyH.nil)
  go_simp
  (refine (VInt_any 1 _).mono ?_; simp only [vV, intV5]; rintro er u7 ⟨rfl, hb7⟩)
  (try go_wp2_with fail)
  refine hK.out _ _ ?_ (fun hHeld => ?_)
  · exact ⟨hHeld.1.call hb7, hHeld.2.call hb7⟩
  clear hK K
  (try simp only [Act.put, List.setIfInBounds_toArray, List.set_cons_zero, List.set_cons_succ])
  have hc7 := btrans hc6 hc6.size hb7
  refine wpAnyH_ready (rs := [41]) (by kernel_rfl) (by simp) ?_
  refine (AllReadyH.cons rfl (fun K hK => ?_) AllReadyH.nil)
  go_simp
  (refine (VCompare_any ⟨1, 1, []⟩ ⟨2, 0, [97, 34, 98]⟩ _).mono ?_; rw [vp9]; rintro er u8 ⟨rfl, hb8⟩)
  (try go_wp2_with fail)
  refine hK.out _ _ ?_ (fun hHeld => ?_)
  · exact ⟨hHeld.1.call hb8, hHeld.2.call hb8⟩
  clear hK K
  (try simp only [Act.put, List.setIfInBounds_toArray, List.set_cons_zero, List.set_cons_succ])
  have hc8 := btrans hc7 hc7.size hb8
  refine takeH (i := 42) (v := ?vv35) 67 rfl rfl (by kernel_rfl) (by kernel_rfl) (by kernel_rfl) (fun _ _ _ h => h) (Or.inl ⟨by kernel_rfl, ?yy35⟩) (by assumption) ?_
  case yy35 => intro w hSw; (try dsimp only at hSw); go_simp; (try with_reducible rfl)
  simp only [List.setIfInBounds_toArray, List.set_cons_zero, List.set_cons_succ]
  refine takeH (i := 43) (v := ?vv36) 68 rfl rfl (by kernel_rfl) (by kernel_rfl) (by kernel_rfl) (fun _ _ _ h => h) (Or.inl ⟨by kernel_rfl, ?yy36⟩) (by assumption) ?_
  case yy36 => intro w hSw; (try dsimp only at hSw); go_simp; (try with_reducible rfl)
  simp only [List.setIfInBounds_toArray, List.set_cons_zero, List.set_cons_succ]
  refine takeH (i := 44) (v := ?vv37) 0 rfl rfl (by kernel_rfl) (by kernel_rfl) (by kernel_rfl) (fun _ _ _ h => h) (Or.inl ⟨by kernel_rfl, ?yy37⟩) (by assumption) ?_
  case yy37 => intro w hSw; (try dsimp only at hSw); go_simp; (try with_reducible rfl)
  simp only [List.setIfInBounds_toArray, List.set_cons_zero]
  refine wpAnyH_done (by kernel_rfl) ?_ _
  go_wp2_with fail
  go_ret
  exact ⟨rfl, btrans HB.out HB.out.size hc8⟩
end Go.Proofs.YtmffdoblpkjmjaaDoor
