/- The walk of ValueMakes. No conditions. -/
import Derived.Test.YtmffdoblpkjmjaaDoorValI
namespace Go.Proofs.YtmffdoblpkjmjaaDoor
open Go.RowKit

theorem str_va (l : List UInt8) : vaB (strV5 l).1 = true := by
  unfold strV5
  by_cases h : plB l = true
  · rw [if_pos h]; show (decide ((0 : Int) = 0) && plB l) = true; rw [h]; rfl
  · rw [if_neg h]; rfl
theorem int_va (n : Int) : vaB (intV5 n) = true := rfl

set_option maxRecDepth 100000 in
set_option maxHeartbeats 32000000 in
theorem makesWalk (v : Vl) (_ : -9223372036854775808 ≤ v.n) (_ : v.n ≤ 9223372036854775807) (hl : v.s.length ≤ 140737488351232) (n : Int) (_ : (Lit.int .i64 n).wf = true) (l : List UInt8) (hl2 : l.length ≤ 140737488351232) (w : World) (hL : Laid w) :
    Calls Tryd.prog 3 #[.agg (vV v), .int .i64 n, .string (bs l)] w fun e w' => e = .returned (.bool true) ∧ Below w.heap.size w w' := by
  simp only [vV]
  by_cases h3 : (300 : Int) < (v.s.length : Int)
  · skip
    have hb0 := ((Below.refl w.heap.size w).alloc (Nat.le_refl _) (.cells #[.int .i64 v.k, .int .i64 v.n, .string (bs v.s)] 23))
    have h_HX := (Bx.new w #[.int .i64 v.k, .int .i64 v.n, .string (bs v.s)] 23)
    have HB := Lib.hid hb0; have HX := Lib.hid h_HX
    clear hb0 h_HX
    go_enter Tryd.func3, Tryd.ntmps3
    go_upto_region 1 with (fail)
    generalize hW0 : w.alloc (.cells #[.int .i64 v.k, .int .i64 v.n, .string (bs v.s)] 23) = v0 at HB HX ⊢
    clear hW0
    have x0 : v0.cell? ⟨w.heap.size, 0, none⟩ = some (.int .i64 v.k) := HX.out.cell 0
    have x1 : v0.cell? ⟨w.heap.size, 1, none⟩ = some (.int .i64 v.n) := HX.out.cell 1
    have x2 : v0.cell? ⟨w.heap.size, 2, none⟩ = some (.string (bs v.s)) := HX.out.cell 2
    go_wp2_with fail
    refine (works_any _ (hL.below HB.out)).mono ?_
    rintro er w1 ⟨rfl, hb1⟩
    go_wp2
    go_ret
    exact ⟨rfl, btrans HB.out HB.out.size hb1⟩
  by_cases h4 : (300 : Int) < (l.length : Int)
  · skip
    have hb0 := ((Below.refl w.heap.size w).alloc (Nat.le_refl _) (.cells #[.int .i64 v.k, .int .i64 v.n, .string (bs v.s)] 23))
    have h_HX := (Bx.new w #[.int .i64 v.k, .int .i64 v.n, .string (bs v.s)] 23)
    have HB := Lib.hid hb0; have HX := Lib.hid h_HX
    clear hb0 h_HX
    go_enter Tryd.func3, Tryd.ntmps3
    go_upto_region 1 with (fail)
    generalize hW0 : w.alloc (.cells #[.int .i64 v.k, .int .i64 v.n, .string (bs v.s)] 23) = v0 at HB HX ⊢
    clear hW0
    have x0 : v0.cell? ⟨w.heap.size, 0, none⟩ = some (.int .i64 v.k) := HX.out.cell 0
    have x1 : v0.cell? ⟨w.heap.size, 1, none⟩ = some (.int .i64 v.n) := HX.out.cell 1
    have x2 : v0.cell? ⟨w.heap.size, 2, none⟩ = some (.string (bs v.s)) := HX.out.cell 2
    go_wp2_with fail
    refine (works_any _ (hL.below HB.out)).mono ?_
    rintro er w1 ⟨rfl, hb1⟩
    go_wp2
    go_ret
    exact ⟨rfl, btrans HB.out HB.out.size hb1⟩
  have hl7 : v.s.length ≤ 9223372036854775807 := by omega
  have hl8 : l.length ≤ 9223372036854775807 := by omega
  obtain ⟨b, hb⟩ : ∃ b, vaB v = b := ⟨_, rfl⟩
  have q3 : (b == b) = true := by simp
  have hsl : (strV5 l).1.s.length ≤ 9223372036854775807 := by unfold strV5; split <;> simp [v00] <;> omega
  have hsv := str_va l
  obtain ⟨⟨⟨rk, rn, rs⟩, e⟩, hr⟩ : ∃ r, strV5 l = r := ⟨_, rfl⟩
  rw [hr] at hsl hsv
  simp only at hsl hsv
  have q4 : (rk == rk) = true := by simp
  have q5 : (rn == rn) = true := by simp
  have q6 : (rs == rs) = true := by simp
  have q7 : (e == e) = true := by simp
  have q8 : (n == n) = true := by simp
  have HV := Lib.hid hb; have HR := Lib.hid hr; have HSV := Lib.hid hsv; clear hb hr hsv
  have hb0 := ((Below.refl w.heap.size w).alloc (Nat.le_refl _) (.cells #[.int .i64 v.k, .int .i64 v.n, .string (bs v.s)] 23))
  have h_HX := (Bx.new w #[.int .i64 v.k, .int .i64 v.n, .string (bs v.s)] 23)
  have HB := Lib.hid hb0; have HX := Lib.hid h_HX
  clear hb0 h_HX
  go_enter Tryd.func3, Tryd.ntmps3
  go_upto_region 1 with (fail)
  generalize hW0 : w.alloc (.cells #[.int .i64 v.k, .int .i64 v.n, .string (bs v.s)] 23) = v0 at HB HX ⊢
  clear hW0
  have x0 : v0.cell? ⟨w.heap.size, 0, none⟩ = some (.int .i64 v.k) := HX.out.cell 0
  have x1 : v0.cell? ⟨w.heap.size, 1, none⟩ = some (.int .i64 v.n) := HX.out.cell 1
  have x2 : v0.cell? ⟨w.heap.size, 2, none⟩ = some (.string (bs v.s)) := HX.out.cell 2
  go_upto_region 3 with (fail)
  clear x0 x1 x2
  go_wp2_with fail
  refine (VStr_any l hl8 _).mono ?_
  rw [HR.out]
  simp only [vV]
  rintro er w1 ⟨rfl, hb1⟩
  have hal := (Below.refl w1.heap.size w1).alloc (Nat.le_refl _) (.cells #[.int .i64 rk, .int .i64 rn, .string (bs rs)] 23)
  have HX := Lib.hid ((HX.out.call hb1).call hal)
  have HY := Lib.hid (Bx.new w1 #[.int .i64 rk, .int .i64 rn, .string (bs rs)] 23)
  have HB := Lib.hid (btrans (btrans HB.out HB.out.size hb1) (btrans HB.out HB.out.size hb1).size hal); clear hb1 hal
  go_upto_region 4 with (fail)
  generalize hW : w1.alloc (.cells #[.int .i64 rk, .int .i64 rn, .string (bs rs)] 23) = v1 at HB HX HY ⊢
  clear hW
  go_wp2_with fail
  refine (RVStr_any l hl8 _).mono ?_
  rw [HR.out]
  simp only [vV]
  rintro er w2 ⟨rfl, hb1⟩
  have hal := (Below.refl w2.heap.size w2).alloc (Nat.le_refl _) (.cells #[.int .i64 rk, .int .i64 rn, .string (bs rs)] 23)
  have HX := Lib.hid ((HX.out.call hb1).call hal)
  have HY := Lib.hid ((HY.out.call hb1).call hal)
  have HZ := Lib.hid (Bx.new w2 #[.int .i64 rk, .int .i64 rn, .string (bs rs)] 23)
  have HB := Lib.hid (btrans (btrans HB.out HB.out.size hb1) (btrans HB.out HB.out.size hb1).size hal); clear hb1 hal
  go_upto_region 5 with (fail)
  generalize hW : w2.alloc (.cells #[.int .i64 rk, .int .i64 rn, .string (bs rs)] 23) = v2 at HB HX HY HZ ⊢
  clear hW
  have hs0 : Bx w.heap.size #[.int .i64 v.k, .int .i64 v.n, .string (bs v.s)] 23 v2.drew ∧ Bx w1.heap.size #[.int .i64 rk, .int .i64 rn, .string (bs rs)] 23 v2.drew ∧ Bx w2.heap.size #[.int .i64 rk, .int .i64 rn, .string (bs rs)] 23 v2.drew := ⟨HX.out, HY.out, HZ.out⟩
  have HS0 := Lib.hid hs0; clear hs0
  have hL4 := hL.below HB.out
  have HL4 := Lib.hid hL4; clear hL4
  go_wp2_with fail
  refine wp_region_held_drew (S := (fun w' => Bx w.heap.size #[.int .i64 v.k, .int .i64 v.n, .string (bs v.s)] 23 w' ∧ Bx w1.heap.size #[.int .i64 rk, .int .i64 rn, .string (bs rs)] 23 w' ∧ Bx w2.heap.size #[.int .i64 rk, .int .i64 rn, .string (bs rs)] 23 w')) (by kernel_rfl) ?_ (fun hHeld => ?_)
  · exact HS0.out
  have hc0 : Below v2.heap.size v2 v2.drew := (Below.refl v2.heap.size v2).drew
  refine takeH (i := 0) (v := ?vv1) 31 rfl rfl (by kernel_rfl) (by kernel_rfl) (by kernel_rfl) (fun _ _ _ h => h) (Or.inl ⟨by kernel_rfl, ?yy1⟩) (by assumption) ?_
  case yy1 =>
    intro wq hSw
    have c0_0 : wq.cell? ⟨w.heap.size, 0, none⟩ = some (.int .i64 v.k) := (hSw.1).cell 0
    have c0_1 : wq.cell? ⟨w.heap.size, 1, none⟩ = some (.int .i64 v.n) := (hSw.1).cell 1
    have c0_2 : wq.cell? ⟨w.heap.size, 2, none⟩ = some (.string (bs v.s)) := (hSw.1).cell 2
    clear hSw
    go_simp
    (try with_reducible rfl)
  simp only [List.setIfInBounds_toArray, List.set_cons_zero, List.set_cons_succ]
  refine takeH (i := 2) (v := ?vv2) 33 rfl rfl (by kernel_rfl) (by kernel_rfl) (by kernel_rfl) (fun _ _ _ h => h) (Or.inl ⟨by kernel_rfl, ?yy2⟩) (by assumption) ?_
  case yy2 =>
    intro wq hSw
    have c0_0 : wq.cell? ⟨w.heap.size, 0, none⟩ = some (.int .i64 v.k) := (hSw.1).cell 0
    have c0_1 : wq.cell? ⟨w.heap.size, 1, none⟩ = some (.int .i64 v.n) := (hSw.1).cell 1
    have c0_2 : wq.cell? ⟨w.heap.size, 2, none⟩ = some (.string (bs v.s)) := (hSw.1).cell 2
    clear hSw
    go_simp
    (try with_reducible rfl)
  simp only [List.setIfInBounds_toArray, List.set_cons_zero, List.set_cons_succ]
  refine wpAnyH_ready (rs := [1]) (by kernel_rfl) (by simp) ?_
  refine (AllReadyH.cons rfl (fun K hK => ?_) AllReadyH.nil)
  go_simp
  (refine (VValid_any v hl7 _).mono ?_; rw [HV.out]; rintro er u1 ⟨rfl, hb1⟩)
  (try go_wp2_with fail)
  refine hK.out _ _ ?_ (fun hHeld => ?_)
  · exact ⟨hHeld.1.call hb1, hHeld.2.1.call hb1, hHeld.2.2.call hb1⟩
  clear hK K
  (try simp only [Act.put, List.setIfInBounds_toArray, List.set_cons_zero, List.set_cons_succ])
  have hc1 := btrans hc0 hc0.size hb1
  refine wpAnyH_ready (rs := [3]) (by kernel_rfl) (by simp) ?_
  refine (AllReadyH.cons rfl (fun K hK => ?_) AllReadyH.nil)
  go_simp
  (refine (RVValid_any v hl7 _).mono ?_; rw [HV.out]; rintro er u2 ⟨rfl, hb2⟩)
  (try go_wp2_with fail)
  refine hK.out _ _ ?_ (fun hHeld => ?_)
  · exact ⟨hHeld.1.call hb2, hHeld.2.1.call hb2, hHeld.2.2.call hb2⟩
  clear hK K
  (try simp only [Act.put, List.setIfInBounds_toArray, List.set_cons_zero, List.set_cons_succ])
  have hc2 := btrans hc1 hc1.size hb2
  refine takeH (i := 4) (v := ?vv3) 35 rfl rfl (by kernel_rfl) (by kernel_rfl) (by kernel_rfl) (fun _ _ _ h => h) (Or.inl ⟨by kernel_rfl, ?yy3⟩) (by assumption) ?_
  case yy3 => intro w hSw; (try dsimp only at hSw); go_simp; (try with_reducible rfl)
  simp only [List.setIfInBounds_toArray, List.set_cons_zero, List.set_cons_succ]
  refine takeH (i := 5) (v := ?vv4) 36 rfl rfl (by kernel_rfl) (by kernel_rfl) (by kernel_rfl) (fun _ _ _ h => h) (Or.inl ⟨by kernel_rfl, ?yy4⟩) (by assumption) ?_
  case yy4 => intro w hSw; (try dsimp only at hSw); go_simp; (try with_reducible rfl)
  simp only [List.setIfInBounds_toArray, List.set_cons_zero, List.set_cons_succ]
  refine takeH (i := 6) (v := ?vv5) 37 rfl rfl (by kernel_rfl) (by kernel_rfl) (by kernel_rfl) (fun _ _ _ h => h) (Or.inl ⟨by kernel_rfl, ?yy5⟩) (by assumption) ?_
  case yy5 => intro w hSw; (try dsimp only at hSw); go_simp; (try with_reducible rfl)
  simp only [List.setIfInBounds_toArray, List.set_cons_zero, List.set_cons_succ]
  refine takeH (i := 8) (v := ?vv6) 39 rfl rfl (by kernel_rfl) (by kernel_rfl) (by kernel_rfl) (fun _ _ _ h => h) (Or.inl ⟨by kernel_rfl, ?yy6⟩) (by assumption) ?_
  case yy6 => intro w hSw; (try dsimp only at hSw); go_simp; (try with_reducible rfl)
  simp only [List.setIfInBounds_toArray, List.set_cons_zero, List.set_cons_succ]
  refine wpAnyH_ready (rs := [7]) (by kernel_rfl) (by simp) ?_
  refine (AllReadyH.cons rfl (fun K hK => ?_) AllReadyH.nil)
  go_simp
  (refine (VInt_any n _).mono ?_; simp only [vV, intV5]; rintro er u3 ⟨rfl, hb3⟩)
  (try go_wp2_with fail)
  refine hK.out _ _ ?_ (fun hHeld => ?_)
  · exact ⟨hHeld.1.call hb3, hHeld.2.1.call hb3, hHeld.2.2.call hb3⟩
  clear hK K
  (try simp only [Act.put, List.setIfInBounds_toArray, List.set_cons_zero, List.set_cons_succ])
  have hc3 := btrans hc2 hc2.size hb3
  refine wpAnyH_ready (rs := [9]) (by kernel_rfl) (by simp) ?_
  refine (AllReadyH.cons rfl (fun K hK => ?_) AllReadyH.nil)
  go_simp
  (refine (RVInt_any n _).mono ?_; simp only [vV, intV5]; rintro er u4 ⟨rfl, hb4⟩)
  (try go_wp2_with fail)
  refine hK.out _ _ ?_ (fun hHeld => ?_)
  · exact ⟨hHeld.1.call hb4, hHeld.2.1.call hb4, hHeld.2.2.call hb4⟩
  clear hK K
  (try simp only [Act.put, List.setIfInBounds_toArray, List.set_cons_zero, List.set_cons_succ])
  have hc4 := btrans hc3 hc3.size hb4
  refine takeH (i := 10) (v := ?vv7) 41 rfl rfl (by kernel_rfl) (by kernel_rfl) (by kernel_rfl) (fun _ _ _ h => h) (Or.inl ⟨by kernel_rfl, ?yy7⟩) (by assumption) ?_
  case yy7 => intro w hSw; (try dsimp only at hSw); go_simp; (try with_reducible rfl)
  simp only [List.setIfInBounds_toArray, List.set_cons_zero, List.set_cons_succ]
  refine takeH (i := 11) (v := ?vv8) 42 rfl rfl (by kernel_rfl) (by kernel_rfl) (by kernel_rfl) (fun _ _ _ h => h) (Or.inl ⟨by kernel_rfl, ?yy8⟩) (by assumption) ?_
  case yy8 => intro w hSw; (try dsimp only at hSw); go_simp; (try with_reducible rfl)
  simp only [List.setIfInBounds_toArray, List.set_cons_zero, List.set_cons_succ]
  refine takeH (i := 12) (v := ?vv9) 43 rfl rfl (by kernel_rfl) (by kernel_rfl) (by kernel_rfl) (fun _ _ _ h => h) (Or.inl ⟨by kernel_rfl, ?yy9⟩) (by assumption) ?_
  case yy9 => intro w hSw; (try dsimp only at hSw); go_simp; (try with_reducible rfl)
  simp only [List.setIfInBounds_toArray, List.set_cons_zero, List.set_cons_succ]
  refine takeH (i := 13) (v := ?vv10) 44 rfl rfl (by kernel_rfl) (by kernel_rfl) (by kernel_rfl) (fun _ _ _ h => h) (Or.inl ⟨by kernel_rfl, ?yy10⟩) (by assumption) ?_
  case yy10 =>
    intro wq hSw
    have c1_0 : wq.cell? ⟨w1.heap.size, 0, none⟩ = some (.int .i64 rk) := (hSw.2.1).cell 0
    have c1_1 : wq.cell? ⟨w1.heap.size, 1, none⟩ = some (.int .i64 rn) := (hSw.2.1).cell 1
    have c1_2 : wq.cell? ⟨w1.heap.size, 2, none⟩ = some (.string (bs rs)) := (hSw.2.1).cell 2
    clear hSw
    go_simp
    (try with_reducible rfl)
  simp only [List.setIfInBounds_toArray, List.set_cons_zero, List.set_cons_succ]
  refine takeH (i := 14) (v := ?vv11) 45 rfl rfl (by kernel_rfl) (by kernel_rfl) (by kernel_rfl) (fun _ _ _ h => h) (Or.inl ⟨by kernel_rfl, ?yy11⟩) (by assumption) ?_
  case yy11 =>
    intro wq hSw
    have c2_0 : wq.cell? ⟨w2.heap.size, 0, none⟩ = some (.int .i64 rk) := (hSw.2.2).cell 0
    have c2_1 : wq.cell? ⟨w2.heap.size, 1, none⟩ = some (.int .i64 rn) := (hSw.2.2).cell 1
    have c2_2 : wq.cell? ⟨w2.heap.size, 2, none⟩ = some (.string (bs rs)) := (hSw.2.2).cell 2
    clear hSw
    go_simp
    (try with_reducible rfl)
  simp only [List.setIfInBounds_toArray, List.set_cons_zero, List.set_cons_succ]
  refine takeH (i := 15) (v := ?vv12) 46 rfl rfl (by kernel_rfl) (by kernel_rfl) (by kernel_rfl) (fun _ _ _ h => h) (Or.inl ⟨by kernel_rfl, ?yy12⟩) (by assumption) ?_
  case yy12 => intro w hSw; (try dsimp only at hSw); go_simp; (try with_reducible rfl)
  simp only [List.setIfInBounds_toArray, List.set_cons_zero, List.set_cons_succ]
  refine takeH (i := 16) (v := ?vv13) 47 rfl rfl (by kernel_rfl) (by kernel_rfl) (by kernel_rfl) (fun _ _ _ h => h) (Or.inl ⟨by kernel_rfl, ?yy13⟩) (by assumption) ?_
  case yy13 => intro w hSw; (try dsimp only at hSw); go_simp; (try with_reducible rfl)
  simp only [List.setIfInBounds_toArray, List.set_cons_zero, List.set_cons_succ]
  refine takeH (i := 17) (v := ?vv14) 48 rfl rfl (by kernel_rfl) (by kernel_rfl) (by kernel_rfl) (fun _ _ _ h => h) (Or.inl ⟨by kernel_rfl, ?yy14⟩) (by assumption) ?_
  case yy14 => intro w hSw; (try dsimp only at hSw); go_simp; (try with_reducible rfl)
  simp only [List.setIfInBounds_toArray, List.set_cons_zero, List.set_cons_succ]
  refine takeH (i := 18) (v := ?vv15) 49 rfl rfl (by kernel_rfl) (by kernel_rfl) (by kernel_rfl) (fun _ _ _ h => h) (Or.inl ⟨by kernel_rfl, ?yy15⟩) (by assumption) ?_
  case yy15 => intro w hSw; (try dsimp only at hSw); go_simp; (try with_reducible rfl)
  simp only [List.setIfInBounds_toArray, List.set_cons_zero, List.set_cons_succ]
  refine takeH (i := 19) (v := ?vv16) 50 rfl rfl (by kernel_rfl) (by kernel_rfl) (by kernel_rfl) (fun _ _ _ h => h) (Or.inl ⟨by kernel_rfl, ?yy16⟩) (by assumption) ?_
  case yy16 => intro w hSw; (try dsimp only at hSw); go_simp; (try with_reducible rfl)
  simp only [List.setIfInBounds_toArray, List.set_cons_zero, List.set_cons_succ]
  refine takeH (i := 20) (v := ?vv17) 51 rfl rfl (by kernel_rfl) (by kernel_rfl) (by kernel_rfl) (fun _ _ _ h => h) (Or.inl ⟨by kernel_rfl, ?yy17⟩) (by assumption) ?_
  case yy17 => intro w hSw; (try dsimp only at hSw); go_simp; (try with_reducible rfl)
  simp only [List.setIfInBounds_toArray, List.set_cons_zero, List.set_cons_succ]
  refine takeH (i := 21) (v := ?vv18) 52 rfl rfl (by kernel_rfl) (by kernel_rfl) (by kernel_rfl) (fun _ _ _ h => h) (Or.inl ⟨by kernel_rfl, ?yy18⟩) (by assumption) ?_
  case yy18 => intro w hSw; (try dsimp only at hSw); go_simp; (try with_reducible rfl)
  simp only [List.setIfInBounds_toArray, List.set_cons_zero, List.set_cons_succ]
  refine takeH (i := 22) (v := ?vv19) 53 rfl rfl (by kernel_rfl) (by kernel_rfl) (by kernel_rfl) (fun _ _ _ h => h) (Or.inl ⟨by kernel_rfl, ?yy19⟩) (by assumption) ?_
  case yy19 => intro w hSw; (try dsimp only at hSw); go_simp; (try with_reducible rfl)
  simp only [List.setIfInBounds_toArray, List.set_cons_zero, List.set_cons_succ]
  refine takeH (i := 23) (v := ?vv20) 54 rfl rfl (by kernel_rfl) (by kernel_rfl) (by kernel_rfl) (fun _ _ _ h => h) (Or.inl ⟨by kernel_rfl, ?yy20⟩) (by assumption) ?_
  case yy20 => intro w hSw; (try dsimp only at hSw); go_simp; (try with_reducible rfl)
  simp only [List.setIfInBounds_toArray, List.set_cons_zero, List.set_cons_succ]
  refine wpAnyH_ready (rs := [24]) (by kernel_rfl) (by simp) ?_
  refine (AllReadyH.cons rfl (fun K hK => ?_) AllReadyH.nil)
  go_simp
  (refine (VInt_any n _).mono ?_; simp only [vV, intV5]; rintro er u5 ⟨rfl, hb5⟩)
  (try go_wp2_with fail)
  refine hK.out _ _ ?_ (fun hHeld => ?_)
  · exact ⟨hHeld.1.call hb5, hHeld.2.1.call hb5, hHeld.2.2.call hb5⟩
  clear hK K
  (try simp only [Act.put, List.setIfInBounds_toArray, List.set_cons_zero, List.set_cons_succ])
  have hc5 := btrans hc4 hc4.size hb5
  refine wpAnyH_ready (rs := [25]) (by kernel_rfl) (by simp) ?_
  refine (AllReadyH.cons rfl (fun K hK => ?_) AllReadyH.nil)
  go_simp
  (refine (VValid_any (intV5 n) (by show (0 : Nat) ≤ _; omega) _).mono ?_; rw [int_va n]; rintro er u6 ⟨rfl, hb6⟩)
  (try go_wp2_with fail)
  refine hK.out _ _ ?_ (fun hHeld => ?_)
  · exact ⟨hHeld.1.call hb6, hHeld.2.1.call hb6, hHeld.2.2.call hb6⟩
  clear hK K
  (try simp only [Act.put, List.setIfInBounds_toArray, List.set_cons_zero, List.set_cons_succ])
  have hc6 := btrans hc5 hc5.size hb6
  refine takeH (i := 26) (v := ?vv21) 57 rfl rfl (by kernel_rfl) (by kernel_rfl) (by kernel_rfl) (fun _ _ _ h => h) (Or.inl ⟨by kernel_rfl, ?yy21⟩) (by assumption) ?_
  case yy21 => intro w hSw; (try dsimp only at hSw); go_simp; (try with_reducible rfl)
  simp only [List.setIfInBounds_toArray, List.set_cons_zero, List.set_cons_succ]
  refine takeH (i := 27) (v := ?vv22) 58 rfl rfl (by kernel_rfl) (by kernel_rfl) (by kernel_rfl) (fun _ _ _ h => h) (Or.inl ⟨by kernel_rfl, ?yy22⟩) (by assumption) ?_
  case yy22 => intro w hSw; (try dsimp only at hSw); go_simp; (try with_reducible rfl)
  simp only [List.setIfInBounds_toArray, List.set_cons_zero, List.set_cons_succ]
  refine takeH (i := 28) (v := ?vv23) 59 rfl rfl (by kernel_rfl) (by kernel_rfl) (by kernel_rfl) (fun _ _ _ h => h) (Or.inl ⟨by kernel_rfl, ?yy23⟩) (by assumption) ?_
  case yy23 =>
    intro wq hSw
    have c1_0 : wq.cell? ⟨w1.heap.size, 0, none⟩ = some (.int .i64 rk) := (hSw.2.1).cell 0
    have c1_1 : wq.cell? ⟨w1.heap.size, 1, none⟩ = some (.int .i64 rn) := (hSw.2.1).cell 1
    have c1_2 : wq.cell? ⟨w1.heap.size, 2, none⟩ = some (.string (bs rs)) := (hSw.2.1).cell 2
    clear hSw
    go_simp
    (try with_reducible rfl)
  simp only [List.setIfInBounds_toArray, List.set_cons_zero, List.set_cons_succ]
  refine wpAnyH_ready (rs := [29]) (by kernel_rfl) (by simp) ?_
  refine (AllReadyH.cons rfl (fun K hK => ?_) AllReadyH.nil)
  go_simp
  (refine (VValid_any ⟨rk, rn, rs⟩ hsl _).mono ?_; rw [HSV.out]; rintro er u7 ⟨rfl, hb7⟩)
  (try go_wp2_with fail)
  refine hK.out _ _ ?_ (fun hHeld => ?_)
  · exact ⟨hHeld.1.call hb7, hHeld.2.1.call hb7, hHeld.2.2.call hb7⟩
  clear hK K
  (try simp only [Act.put, List.setIfInBounds_toArray, List.set_cons_zero, List.set_cons_succ])
  have hc7 := btrans hc6 hc6.size hb7
  refine takeH (i := 30) (v := ?vv24) 61 rfl rfl (by kernel_rfl) (by kernel_rfl) (by kernel_rfl) (fun _ _ _ h => h) (Or.inl ⟨by kernel_rfl, ?yy24⟩) (by assumption) ?_
  case yy24 => intro w hSw; (try dsimp only at hSw); go_simp; (try with_reducible rfl)
  simp only [List.setIfInBounds_toArray, List.set_cons_zero, List.set_cons_succ]
  refine takeH (i := 31) (v := ?vv25) 62 rfl rfl (by kernel_rfl) (by kernel_rfl) (by kernel_rfl) (fun _ _ _ h => h) (Or.inl ⟨by kernel_rfl, ?yy25⟩) (by assumption) ?_
  case yy25 => intro w hSw; (try dsimp only at hSw); go_simp; (try with_reducible rfl)
  simp only [List.setIfInBounds_toArray, List.set_cons_zero, List.set_cons_succ]
  refine wpAnyH_ready (rs := [32]) (by kernel_rfl) (by simp) ?_
  refine (AllReadyH.cons rfl (fun K hK => ?_) AllReadyH.nil)
  go_simp
  (refine (works_any _ (HL4.out.below hc7)).mono ?_; rintro er u8 ⟨rfl, hb8⟩)
  (try go_wp2_with fail)
  refine hK.out _ _ ?_ (fun hHeld => ?_)
  · exact ⟨hHeld.1.call hb8, hHeld.2.1.call hb8, hHeld.2.2.call hb8⟩
  clear hK K
  (try simp only [Act.put, List.setIfInBounds_toArray, List.set_cons_zero, List.set_cons_succ])
  have hc8 := btrans hc7 hc7.size hb8
  refine takeH (i := 33) (v := ?vv26) 64 rfl rfl (by kernel_rfl) (by kernel_rfl) (by kernel_rfl) (fun _ _ _ h => h) (Or.inl ⟨by kernel_rfl, ?yy26⟩) (by assumption) ?_
  case yy26 => intro w hSw; (try dsimp only at hSw); go_simp; (try with_reducible rfl)
  simp only [List.setIfInBounds_toArray, List.set_cons_zero, List.set_cons_succ]
  refine takeH (i := 34) (v := ?vv27) 6 rfl rfl (by kernel_rfl) (by kernel_rfl) (by kernel_rfl) (fun _ _ _ h => h) (Or.inl ⟨by kernel_rfl, ?yy27⟩) (by assumption) ?_
  case yy27 => intro w hSw; (try dsimp only at hSw); go_simp; (try with_reducible rfl)
  simp only [List.setIfInBounds_toArray, List.set_cons_zero, List.set_cons_succ]
  refine wpAnyH_done (by kernel_rfl) ?_ _
  go_wp2_with fail
  go_ret
  exact ⟨rfl, btrans HB.out HB.out.size hc8⟩
end Go.Proofs.YtmffdoblpkjmjaaDoor
