/- The walk of ValueRoundTrips. No conditions. -/
import Derived.Test.YtmffdoblpkjmjaaDoorValO
import Derived.Test.YtmffdoblpkjmjaaDoorValQ
import Derived.Test.YtmffdoblpkjmjaaDoorValI
import Derived.Lib.ItoaLen
namespace Go.Proofs.YtmffdoblpkjmjaaDoor
open Go.RowKit

theorem vaB_len {v : Vl} (h : vaB v = true) : v.s.length ≤ 64 := by
  rcases (vaB_iff _).1 h with ⟨h1, h2, h3⟩ | ⟨h1, h2⟩ | ⟨h1, h2, h3⟩
  · rw [h3]; simp
  · rw [h2]; simp
  · exact ((plB_iff _).1 h3).2
theorem fmt_len {v : Vl} (hn0 : -9223372036854775808 ≤ v.n) (hn1 : v.n ≤ 9223372036854775807) (h : vaB v = true) : (fmtV v).length ≤ 1000 := by
  have h64 := vaB_len h
  unfold fmtV
  rw [if_pos h]
  split
  · decide
  · split
    · have := Lib.itoa_length_le v.n hn0 hn1; omega
    · unfold quoS
      have := esc_len v.s
      rw [List.length_cons, List.length_append, List.length_singleton]; omega
theorem enc_len {v : Vl} (h : vaB v = true) : (encV v).length ≤ 1000 := by
  have h64 := vaB_len h
  have h9 : ∀ u, (uintS u).length ≤ 10 := fun u => (uintF_len 9 u).2
  unfold encV textS
  split
  · rw [List.length_append]; have := h9 1; have := h9 (zig v.n); omega
  · split
    · rw [List.length_append, List.length_append]; have := h9 2; have := h9 v.s.length; omega
    · have := h9 0; omega
theorem par_range {l : List UInt8} {v : Vl} (h : parV l = (v, 0)) : -9223372036854775808 ≤ v.n ∧ v.n ≤ 9223372036854775807 := by
  have hp := parseS_bd l
  unfold parV at h
  split at h
  · injection h with h _; subst h; exact ⟨by decide, by decide⟩
  · split at h
    · split at h
      · split at h
        · injection h with h _; subst h; exact ⟨by decide, by decide⟩
        · injection h with h _; subst h; exact ⟨by simp, by simp⟩
      · injection h with h _; subst h; exact ⟨by decide, by decide⟩
    · split at h
      · injection h with h _; subst h; exact hp
      · injection h with h _; subst h; exact ⟨by decide, by decide⟩

set_option maxRecDepth 100000 in
set_option maxHeartbeats 64000000 in
theorem tripsWalk5 (v : Vl) (hn0 : -9223372036854775808 ≤ v.n) (hn1 : v.n ≤ 9223372036854775807) (hl : v.s.length ≤ 140737488351232) (s : List UInt8) (hls : s.length ≤ 140737488351232) (w : World) (hL : Laid w) :
    Calls Tryd.prog 10 #[.agg (vV v), .string (bs s)] w fun e w' => e = .returned (.bool true) ∧ Below w.heap.size w w' := by
  simp only [vV]
  by_cases h3 : (300 : Int) < (v.s.length : Int)
  · skip
    have hb0 := ((Below.refl w.heap.size w).alloc (Nat.le_refl _) (.cells #[.int .i64 v.k, .int .i64 v.n, .string (bs v.s)] 23))
    have h_HX := (Bx.new w #[.int .i64 v.k, .int .i64 v.n, .string (bs v.s)] 23)
    have HB := Lib.hid hb0; have HX := Lib.hid h_HX
    clear hb0 h_HX
    go_enter Tryd.func10, Tryd.ntmps10
    go_upto_region 1 with (fail)
    generalize hW0 : w.alloc (.cells #[.int .i64 v.k, .int .i64 v.n, .string (bs v.s)] 23) = v0 at HB HX ⊢
    clear hW0
    have x0 : v0.cell? ⟨w.heap.size, 0, none⟩ = some (.int .i64 v.k) := HX.out.cell 0
    have x1 : v0.cell? ⟨w.heap.size, 1, none⟩ = some (.int .i64 v.n) := HX.out.cell 1
    have x2 : v0.cell? ⟨w.heap.size, 2, none⟩ = some (.string (bs v.s)) := HX.out.cell 2
    go_wp2_with fail
    refine (works_any _ (hL.below HB.out)).mono ?_
    rintro er wz ⟨rfl, hbz⟩
    go_wp2
    go_ret
    exact ⟨rfl, btrans HB.out HB.out.size hbz⟩
  by_cases h4 : (300 : Int) < (s.length : Int)
  · skip
    have hb0 := ((Below.refl w.heap.size w).alloc (Nat.le_refl _) (.cells #[.int .i64 v.k, .int .i64 v.n, .string (bs v.s)] 23))
    have h_HX := (Bx.new w #[.int .i64 v.k, .int .i64 v.n, .string (bs v.s)] 23)
    have HB := Lib.hid hb0; have HX := Lib.hid h_HX
    clear hb0 h_HX
    go_enter Tryd.func10, Tryd.ntmps10
    go_upto_region 1 with (fail)
    generalize hW0 : w.alloc (.cells #[.int .i64 v.k, .int .i64 v.n, .string (bs v.s)] 23) = v0 at HB HX ⊢
    clear hW0
    have x0 : v0.cell? ⟨w.heap.size, 0, none⟩ = some (.int .i64 v.k) := HX.out.cell 0
    have x1 : v0.cell? ⟨w.heap.size, 1, none⟩ = some (.int .i64 v.n) := HX.out.cell 1
    have x2 : v0.cell? ⟨w.heap.size, 2, none⟩ = some (.string (bs v.s)) := HX.out.cell 2
    go_wp2_with fail
    refine (works_any _ (hL.below HB.out)).mono ?_
    rintro er wz ⟨rfl, hbz⟩
    go_wp2
    go_ret
    exact ⟨rfl, btrans HB.out HB.out.size hbz⟩
  have hl7 : v.s.length ≤ 9223372036854775807 := by omega
  have hs6 : s.length ≤ 100000 := by omega
  have hs7 : s.length ≤ 1000000 := by omega
  obtain ⟨⟨⟨ak, an, sa⟩, pe⟩, hpar⟩ : ∃ r, parV s = r := ⟨_, rfl⟩
  obtain ⟨⟨⟨bk, bn, sb⟩, nx, de⟩, hdec⟩ : ∃ r, decV s 0 = r := ⟨_, rfl⟩
  have HPAR := Lib.hid hpar; have HDEC := Lib.hid hdec; clear hpar hdec
  cases hv : vaB v with
  | false =>
    have HV := Lib.hid hv; clear hv
    have hb0 := ((Below.refl w.heap.size w).alloc (Nat.le_refl _) (.cells #[.int .i64 v.k, .int .i64 v.n, .string (bs v.s)] 23))
    have h_HX := (Bx.new w #[.int .i64 v.k, .int .i64 v.n, .string (bs v.s)] 23)
    have HB := Lib.hid hb0; have HX := Lib.hid h_HX
    clear hb0 h_HX
    go_enter Tryd.func10, Tryd.ntmps10
    go_upto_region 1 with (fail)
    generalize hW0 : w.alloc (.cells #[.int .i64 v.k, .int .i64 v.n, .string (bs v.s)] 23) = v0 at HB HX ⊢
    clear hW0
    have x0 : v0.cell? ⟨w.heap.size, 0, none⟩ = some (.int .i64 v.k) := HX.out.cell 0
    have x1 : v0.cell? ⟨w.heap.size, 1, none⟩ = some (.int .i64 v.n) := HX.out.cell 1
    have x2 : v0.cell? ⟨w.heap.size, 2, none⟩ = some (.string (bs v.s)) := HX.out.cell 2
    go_wp2_with fail
    refine (RVValid_any v hl7 _).mono ?_
    rw [HV.out]
    rintro er w1 ⟨rfl, hb1⟩
    have HB := Lib.hid (btrans HB.out HB.out.size hb1); clear hb1
    clear x0 x1 x2
    go_wp2_with fail
    refine (VParse_any s hs6 _ (hL.below HB.out)).mono ?_
    rw [HPAR.out]
    simp only [vV]
    rintro er w8 ⟨rfl, hb1⟩
    have hal := (Below.refl w8.heap.size w8).alloc (Nat.le_refl _) (.cells #[.int .i64 ak, .int .i64 an, .string (bs sa)] 23)
    have HA := Lib.hid (Bx.new w8 #[.int .i64 ak, .int .i64 an, .string (bs sa)] 23)
    have HB := Lib.hid (btrans (btrans HB.out HB.out.size hb1) (btrans HB.out HB.out.size hb1).size hal); clear hb1 hal
    go_upto_region 10 with (fail)
    generalize hW : w8.alloc (.cells #[.int .i64 ak, .int .i64 an, .string (bs sa)] 23) = v8 at HB HA ⊢
    clear hW
    have a0 : v8.cell? ⟨w8.heap.size, 0, none⟩ = some (.int .i64 ak) := HA.out.cell 0
    have a1 : v8.cell? ⟨w8.heap.size, 1, none⟩ = some (.int .i64 an) := HA.out.cell 1
    have a2 : v8.cell? ⟨w8.heap.size, 2, none⟩ = some (.string (bs sa)) := HA.out.cell 2
    by_cases hpe : pe = 0
    rotate_left
    · have tp : (pe == 0) = false := by rw [beq_eq_false_iff_ne]; exact hpe
      have HPE := Lib.hid hpe; clear hpe
      go_wp2_with fail
      refine (VDecode_any s 0 hs7 _).mono ?_
      rw [HDEC.out]
      simp only [vV]
      rintro er w9 ⟨rfl, hb1⟩
      have hal := (Below.refl w9.heap.size w9).alloc (Nat.le_refl _) (.cells #[.int .i64 bk, .int .i64 bn, .string (bs sb)] 23)
      have HY := Lib.hid (Bx.new w9 #[.int .i64 bk, .int .i64 bn, .string (bs sb)] 23)
      have HB := Lib.hid (btrans (btrans HB.out HB.out.size hb1) (btrans HB.out HB.out.size hb1).size hal); clear hb1 hal
      go_upto_region 13 with (fail)
      generalize hW : w9.alloc (.cells #[.int .i64 bk, .int .i64 bn, .string (bs sb)] 23) = v9 at HB HY ⊢
      clear hW
      have y0 : v9.cell? ⟨w9.heap.size, 0, none⟩ = some (.int .i64 bk) := HY.out.cell 0
      have y1 : v9.cell? ⟨w9.heap.size, 1, none⟩ = some (.int .i64 bn) := HY.out.cell 1
      have y2 : v9.cell? ⟨w9.heap.size, 2, none⟩ = some (.string (bs sb)) := HY.out.cell 2
      by_cases hde : de = 0
      rotate_left
      · have td : (de != 0) = true := by rw [bne_iff_ne]; exact hde
        go_wp2_with fail
        refine (works_any _ (hL.below HB.out)).mono ?_
        rintro er wz ⟨rfl, hbz⟩
        go_wp2
        go_ret
        exact ⟨rfl, btrans HB.out HB.out.size hbz⟩
      have td : (de != 0) = false := by rw [hde]; rfl
      subst hde
      obtain ⟨hvb, hbn0, hbn1, hnx, rest, hsr⟩ := encV_decV s _ nx HDEC.out
      simp only at hbn0 hbn1
      have hbl := vaB_len hvb
      simp only at hbl
      have hbl6 : sb.length ≤ 1000000 := by omega
      have hbl7 : sb.length ≤ 9223372036854775807 := by omega
      obtain ⟨E, hE⟩ : ∃ E, encV ⟨bk, bn, sb⟩ = E := ⟨_, rfl⟩
      have hE1 := encV_pos ⟨bk, bn, sb⟩
      rw [hE] at hnx hsr hE1
      obtain ⟨m, hm⟩ : ∃ m, E.length = m := ⟨_, rfl⟩
      rw [hm] at hnx hE1
      subst hnx
      have hst : s.take m = E := by rw [hsr, List.take_left' hm]
      have hml : m ≤ s.length := by rw [hsr, List.length_append]; omega
      have g1 : (1 : Int) ≤ (m : Int) := by omega
      have g2 : (m : Int) ≤ (s.length : Int) := by omega
      have g3 : (E == s.take m) = true := by rw [hst]; simp
      have HVB := Lib.hid hvb; have HEB := Lib.hid hE; clear hvb hE hsr hst hm hE1 HDEC
      go_upto_region 15 with (fail)
      clear y0 y1 y2
      have hs0 : Bx w9.heap.size #[.int .i64 bk, .int .i64 bn, .string (bs sb)] 23 v9.drew := HY.out
      have HS0 := Lib.hid hs0; clear hs0
      have hL4 := hL.below HB.out
      have HL4 := Lib.hid hL4; clear hL4
      go_wp2_with fail
      refine wp_region_held_drew (S := (fun w' => Bx w9.heap.size #[.int .i64 bk, .int .i64 bn, .string (bs sb)] 23 w')) (by kernel_rfl) ?_ (fun hHeld => ?_)
      · exact HS0.out
      have hc0 : Below v9.heap.size v9 v9.drew := (Below.refl v9.heap.size v9).drew
      refine takeH (i := 0) (v := ?vv1) 93 rfl rfl (by kernel_rfl) (by kernel_rfl) (by kernel_rfl) (fun _ _ _ h => h) (Or.inl ⟨by kernel_rfl, ?yy1⟩) (by assumption) ?_
      case yy1 =>
        intro wq hSw
        have c0_0 : wq.cell? ⟨w9.heap.size, 0, none⟩ = some (.int .i64 bk) := (hSw).cell 0
        have c0_1 : wq.cell? ⟨w9.heap.size, 1, none⟩ = some (.int .i64 bn) := (hSw).cell 1
        have c0_2 : wq.cell? ⟨w9.heap.size, 2, none⟩ = some (.string (bs sb)) := (hSw).cell 2
        clear hSw
        go_simp
        (try with_reducible rfl)
      simp only [List.setIfInBounds_toArray, List.set_cons_zero, List.set_cons_succ]
      refine wpAnyH_ready (rs := [1]) (by kernel_rfl) (by simp) ?_
      refine (AllReadyH.cons rfl (fun K hK => ?_) AllReadyH.nil)
      go_simp
      (refine (RVValid_any ⟨bk, bn, sb⟩ hbl7 _).mono ?_; rw [HVB.out]; rintro er u1 ⟨rfl, hd1⟩)
      (try go_wp2_with fail)
      refine hK.out _ _ ?_ (fun hHeld => ?_)
      · exact hHeld.call hd1
      clear hK K
      (try simp only [Act.put, List.setIfInBounds_toArray, List.set_cons_zero, List.set_cons_succ])
      have hc1 := btrans hc0 hc0.size hd1
      refine takeH (i := 2) (v := ?vv2) 95 rfl rfl (by kernel_rfl) (by kernel_rfl) (by kernel_rfl) (fun _ _ _ h => h) (Or.inl ⟨by kernel_rfl, ?yy2⟩) (by assumption) ?_
      case yy2 => intro w hSw; (try dsimp only at hSw); go_simp; (try with_reducible rfl)
      simp only [List.setIfInBounds_toArray, List.set_cons_zero, List.set_cons_succ]
      refine takeH (i := 3) (v := ?vv3) 96 rfl rfl (by kernel_rfl) (by kernel_rfl) (by kernel_rfl) (fun _ _ _ h => h) (Or.inl ⟨by kernel_rfl, ?yy3⟩) (by assumption) ?_
      case yy3 => intro w hSw; (try dsimp only at hSw); go_simp; (try with_reducible rfl)
      simp only [List.setIfInBounds_toArray, List.set_cons_zero, List.set_cons_succ]
      refine takeH (i := 4) (v := ?vv4) 97 rfl rfl (by kernel_rfl) (by kernel_rfl) (by kernel_rfl) (fun _ _ _ h => h) (Or.inl ⟨by kernel_rfl, ?yy4⟩) (by assumption) ?_
      case yy4 => intro w hSw; (try dsimp only at hSw); go_simp; (try with_reducible rfl)
      simp only [List.setIfInBounds_toArray, List.set_cons_zero, List.set_cons_succ]
      refine takeH (i := 5) (v := ?vv5) 98 rfl rfl (by kernel_rfl) (by kernel_rfl) (by kernel_rfl) (fun _ _ _ h => h) (Or.inl ⟨by kernel_rfl, ?yy5⟩) (by assumption) ?_
      case yy5 => intro w hSw; (try dsimp only at hSw); go_simp; (try with_reducible rfl)
      simp only [List.setIfInBounds_toArray, List.set_cons_zero, List.set_cons_succ]
      refine takeH (i := 6) (v := ?vv6) 99 rfl rfl (by kernel_rfl) (by kernel_rfl) (by kernel_rfl) (fun _ _ _ h => h) (Or.inl ⟨by kernel_rfl, ?yy6⟩) (by assumption) ?_
      case yy6 => intro w hSw; (try dsimp only at hSw); go_simp; (try with_reducible rfl)
      simp only [List.setIfInBounds_toArray, List.set_cons_zero, List.set_cons_succ]
      refine takeH (i := 7) (v := ?vv7) 100 rfl rfl (by kernel_rfl) (by kernel_rfl) (by kernel_rfl) (fun _ _ _ h => h) (Or.inl ⟨by kernel_rfl, ?yy7⟩) (by assumption) ?_
      case yy7 => intro w hSw; (try dsimp only at hSw); go_simp; (try with_reducible rfl)
      simp only [List.setIfInBounds_toArray, List.set_cons_zero, List.set_cons_succ]
      refine takeH (i := 8) (v := ?vv8) 101 rfl rfl (by kernel_rfl) (by kernel_rfl) (by kernel_rfl) (fun _ _ _ h => h) (Or.inl ⟨by kernel_rfl, ?yy8⟩) (by assumption) ?_
      case yy8 => intro w hSw; (try dsimp only at hSw); go_simp; (try with_reducible rfl)
      simp only [List.setIfInBounds_toArray, List.set_cons_zero, List.set_cons_succ]
      refine takeH (i := 9) (v := ?vv9) 102 rfl rfl (by kernel_rfl) (by kernel_rfl) (by kernel_rfl) (fun _ _ _ h => h) (Or.inl ⟨by kernel_rfl, ?yy9⟩) (by assumption) ?_
      case yy9 => intro w hSw; (try dsimp only at hSw); go_simp; (try with_reducible rfl)
      simp only [List.setIfInBounds_toArray, List.set_cons_zero, List.set_cons_succ]
      refine takeH (i := 10) (v := ?vv10) 103 rfl rfl (by kernel_rfl) (by kernel_rfl) (by kernel_rfl) (fun _ _ _ h => h) (Or.inl ⟨by kernel_rfl, ?yy10⟩) (by assumption) ?_
      case yy10 => intro w hSw; (try dsimp only at hSw); go_simp; (try with_reducible rfl)
      simp only [List.setIfInBounds_toArray, List.set_cons_zero, List.set_cons_succ]
      refine takeH (i := 11) (v := ?vv11) 104 rfl rfl (by kernel_rfl) (by kernel_rfl) (by kernel_rfl) (fun _ _ _ h => h) (Or.inl ⟨by kernel_rfl, ?yy11⟩) (by assumption) ?_
      case yy11 => intro w hSw; (try dsimp only at hSw); go_simp; (try with_reducible rfl)
      simp only [List.setIfInBounds_toArray, List.set_cons_zero, List.set_cons_succ]
      refine takeH (i := 12) (v := ?vv12) 105 rfl rfl (by kernel_rfl) (by kernel_rfl) (by kernel_rfl) (fun _ _ _ h => h) (Or.inl ⟨by kernel_rfl, ?yy12⟩) (by assumption) ?_
      case yy12 => intro w hSw; (try dsimp only at hSw); go_simp; (try with_reducible rfl)
      simp only [List.setIfInBounds_toArray, List.set_cons_zero, List.set_cons_succ]
      refine takeH (i := 13) (v := ?vv13) 106 rfl rfl (by kernel_rfl) (by kernel_rfl) (by kernel_rfl) (fun _ _ _ h => h) (Or.inl ⟨by kernel_rfl, ?yy13⟩) (by assumption) ?_
      case yy13 =>
        intro wq hSw
        have c0_0 : wq.cell? ⟨w9.heap.size, 0, none⟩ = some (.int .i64 bk) := (hSw).cell 0
        have c0_1 : wq.cell? ⟨w9.heap.size, 1, none⟩ = some (.int .i64 bn) := (hSw).cell 1
        have c0_2 : wq.cell? ⟨w9.heap.size, 2, none⟩ = some (.string (bs sb)) := (hSw).cell 2
        clear hSw
        go_simp
        (try with_reducible rfl)
      simp only [List.setIfInBounds_toArray, List.set_cons_zero, List.set_cons_succ]
      refine takeH (i := 15) (v := ?vv14) 108 rfl rfl (by kernel_rfl) (by kernel_rfl) (by kernel_rfl) (fun _ _ _ h => h) (Or.inl ⟨by kernel_rfl, ?yy14⟩) (by assumption) ?_
      case yy14 => intro w hSw; (try dsimp only at hSw); go_simp; (try with_reducible rfl)
      simp only [List.setIfInBounds_toArray, List.set_cons_zero, List.set_cons_succ]
      refine takeH (i := 16) (v := ?vv15) 109 rfl rfl (by kernel_rfl) (by kernel_rfl) (by kernel_rfl) (fun _ _ _ h => h) (Or.inl ⟨by kernel_rfl, ?yy15⟩) (by assumption) ?_
      case yy15 => intro w hSw; (try dsimp only at hSw); go_simp; (try with_reducible rfl)
      simp only [List.setIfInBounds_toArray, List.set_cons_zero, List.set_cons_succ]
      refine takeH (i := 17) (v := ?vv16) 110 rfl rfl (by kernel_rfl) (by kernel_rfl) (by kernel_rfl) (fun _ _ _ h => h) (Or.inl ⟨by kernel_rfl, ?yy16⟩) (by assumption) ?_
      case yy16 => intro w hSw; (try dsimp only at hSw); go_simp; (try with_reducible rfl)
      simp only [List.setIfInBounds_toArray, List.set_cons_zero, List.set_cons_succ]
      refine wpAnyH_ready (rs := [14]) (by kernel_rfl) (by simp) ?_
      refine (AllReadyH.cons rfl (fun K hK => ?_) AllReadyH.nil)
      go_simp
      (refine (VEncode_any ⟨bk, bn, sb⟩ hbn0 hbn1 hbl6 _).mono ?_; rw [HEB.out]; rintro er u2 ⟨rfl, hd2⟩)
      (try go_wp2_with fail)
      refine hK.out _ _ ?_ (fun hHeld => ?_)
      · exact hHeld.call hd2
      clear hK K
      (try simp only [Act.put, List.setIfInBounds_toArray, List.set_cons_zero, List.set_cons_succ])
      have hc2 := btrans hc1 hc1.size hd2
      refine takeH (i := 18) (v := ?vv17) 111 rfl rfl (by kernel_rfl) (by kernel_rfl) (by kernel_rfl) (fun _ _ _ h => h) (Or.inl ⟨by kernel_rfl, ?yy17⟩) (by assumption) ?_
      case yy17 => intro w hSw; (try dsimp only at hSw); go_simp; (try with_reducible rfl)
      simp only [List.setIfInBounds_toArray, List.set_cons_zero, List.set_cons_succ]
      refine takeH (i := 19) (v := ?vv18) 112 rfl rfl (by kernel_rfl) (by kernel_rfl) (by kernel_rfl) (fun _ _ _ h => h) (Or.inl ⟨by kernel_rfl, ?yy18⟩) (by assumption) ?_
      case yy18 => intro w hSw; (try dsimp only at hSw); go_simp; (try with_reducible rfl)
      simp only [List.setIfInBounds_toArray, List.set_cons_zero, List.set_cons_succ]
      refine takeH (i := 20) (v := ?vv19) 113 rfl rfl (by kernel_rfl) (by kernel_rfl) (by kernel_rfl) (fun _ _ _ h => h) (Or.inl ⟨by kernel_rfl, ?yy19⟩) (by assumption) ?_
      case yy19 => intro w hSw; (try dsimp only at hSw); go_simp; (try with_reducible rfl)
      simp only [List.setIfInBounds_toArray, List.set_cons_zero, List.set_cons_succ]
      refine wpAnyH_ready (rs := [21]) (by kernel_rfl) (by simp) ?_
      refine (AllReadyH.cons rfl (fun K hK => ?_) AllReadyH.nil)
      go_simp
      (refine (works_any _ (HL4.out.below hc2)).mono ?_; rintro er u3 ⟨rfl, hd3⟩)
      (try go_wp2_with fail)
      refine hK.out _ _ ?_ (fun hHeld => ?_)
      · exact hHeld.call hd3
      clear hK K
      (try simp only [Act.put, List.setIfInBounds_toArray, List.set_cons_zero, List.set_cons_succ])
      have hc3 := btrans hc2 hc2.size hd3
      refine takeH (i := 22) (v := ?vv20) 115 rfl rfl (by kernel_rfl) (by kernel_rfl) (by kernel_rfl) (fun _ _ _ h => h) (Or.inl ⟨by kernel_rfl, ?yy20⟩) (by assumption) ?_
      case yy20 => intro w hSw; (try dsimp only at hSw); go_simp; (try with_reducible rfl)
      simp only [List.setIfInBounds_toArray, List.set_cons_zero, List.set_cons_succ]
      refine takeH (i := 23) (v := ?vv21) 4 rfl rfl (by kernel_rfl) (by kernel_rfl) (by kernel_rfl) (fun _ _ _ h => h) (Or.inl ⟨by kernel_rfl, ?yy21⟩) (by assumption) ?_
      case yy21 => intro w hSw; (try dsimp only at hSw); go_simp; (try with_reducible rfl)
      simp only [List.setIfInBounds_toArray, List.set_cons_zero, List.set_cons_succ]
      refine wpAnyH_done (by kernel_rfl) ?_ _
      go_wp2_with fail
      go_ret
      exact ⟨rfl, btrans HB.out HB.out.size hc3⟩
    have tp : (pe == 0) = true := by rw [hpe]; rfl
    subst hpe
    obtain ⟨hva, hfa⟩ := fmtV_parV s _ HPAR.out
    obtain ⟨han0, han1⟩ := par_range HPAR.out
    simp only at han0 han1
    have hal6 := vaB_len hva
    simp only at hal6
    have hal7 : sa.length ≤ 1000000 := by omega
    have hal8 : sa.length ≤ 9223372036854775807 := by omega
    have qs : (s != s) = false := by simp
    have HVA := Lib.hid hva; have HFA := Lib.hid hfa; clear hva hfa
    go_wp2_with fail
    refine (RVValid_any ⟨ak, an, sa⟩ hal8 _).mono ?_
    rw [HVA.out]
    rintro er w10 ⟨rfl, hb1⟩
    have HA := Lib.hid (HA.out.call hb1)
    have HB := Lib.hid (btrans HB.out HB.out.size hb1); clear hb1
    clear a0 a1 a2
    have a0 : w10.cell? ⟨w8.heap.size, 0, none⟩ = some (.int .i64 ak) := HA.out.cell 0
    have a1 : w10.cell? ⟨w8.heap.size, 1, none⟩ = some (.int .i64 an) := HA.out.cell 1
    have a2 : w10.cell? ⟨w8.heap.size, 2, none⟩ = some (.string (bs sa)) := HA.out.cell 2
    go_wp2_with fail
    refine (VFormat_any ⟨ak, an, sa⟩ han0 han1 hal7 _ (hL.below HB.out)).mono ?_
    rw [HFA.out]
    rintro er w11 ⟨rfl, hb1⟩
    have HB := Lib.hid (btrans HB.out HB.out.size hb1); clear hb1
    clear a0 a1 a2
    go_wp2_with fail
    refine (VDecode_any s 0 hs7 _).mono ?_
    rw [HDEC.out]
    simp only [vV]
    rintro er w9 ⟨rfl, hb1⟩
    have hal := (Below.refl w9.heap.size w9).alloc (Nat.le_refl _) (.cells #[.int .i64 bk, .int .i64 bn, .string (bs sb)] 23)
    have HY := Lib.hid (Bx.new w9 #[.int .i64 bk, .int .i64 bn, .string (bs sb)] 23)
    have HB := Lib.hid (btrans (btrans HB.out HB.out.size hb1) (btrans HB.out HB.out.size hb1).size hal); clear hb1 hal
    go_upto_region 13 with (fail)
    generalize hW : w9.alloc (.cells #[.int .i64 bk, .int .i64 bn, .string (bs sb)] 23) = v9 at HB HY ⊢
    clear hW
    have y0 : v9.cell? ⟨w9.heap.size, 0, none⟩ = some (.int .i64 bk) := HY.out.cell 0
    have y1 : v9.cell? ⟨w9.heap.size, 1, none⟩ = some (.int .i64 bn) := HY.out.cell 1
    have y2 : v9.cell? ⟨w9.heap.size, 2, none⟩ = some (.string (bs sb)) := HY.out.cell 2
    by_cases hde : de = 0
    rotate_left
    · have td : (de != 0) = true := by rw [bne_iff_ne]; exact hde
      go_wp2_with fail
      refine (works_any _ (hL.below HB.out)).mono ?_
      rintro er wz ⟨rfl, hbz⟩
      go_wp2
      go_ret
      exact ⟨rfl, btrans HB.out HB.out.size hbz⟩
    have td : (de != 0) = false := by rw [hde]; rfl
    subst hde
    obtain ⟨hvb, hbn0, hbn1, hnx, rest, hsr⟩ := encV_decV s _ nx HDEC.out
    simp only at hbn0 hbn1
    have hbl := vaB_len hvb
    simp only at hbl
    have hbl6 : sb.length ≤ 1000000 := by omega
    have hbl7 : sb.length ≤ 9223372036854775807 := by omega
    obtain ⟨E, hE⟩ : ∃ E, encV ⟨bk, bn, sb⟩ = E := ⟨_, rfl⟩
    have hE1 := encV_pos ⟨bk, bn, sb⟩
    rw [hE] at hnx hsr hE1
    obtain ⟨m, hm⟩ : ∃ m, E.length = m := ⟨_, rfl⟩
    rw [hm] at hnx hE1
    subst hnx
    have hst : s.take m = E := by rw [hsr, List.take_left' hm]
    have hml : m ≤ s.length := by rw [hsr, List.length_append]; omega
    have g1 : (1 : Int) ≤ (m : Int) := by omega
    have g2 : (m : Int) ≤ (s.length : Int) := by omega
    have g3 : (E == s.take m) = true := by rw [hst]; simp
    have HVB := Lib.hid hvb; have HEB := Lib.hid hE; clear hvb hE hsr hst hm hE1 HDEC
    go_upto_region 15 with (fail)
    clear y0 y1 y2
    have hs0 : Bx w9.heap.size #[.int .i64 bk, .int .i64 bn, .string (bs sb)] 23 v9.drew := HY.out
    have HS0 := Lib.hid hs0; clear hs0
    have hL4 := hL.below HB.out
    have HL4 := Lib.hid hL4; clear hL4
    go_wp2_with fail
    refine wp_region_held_drew (S := (fun w' => Bx w9.heap.size #[.int .i64 bk, .int .i64 bn, .string (bs sb)] 23 w')) (by kernel_rfl) ?_ (fun hHeld => ?_)
    · exact HS0.out
    have hc0 : Below v9.heap.size v9 v9.drew := (Below.refl v9.heap.size v9).drew
    refine takeH (i := 0) (v := ?vv22) 93 rfl rfl (by kernel_rfl) (by kernel_rfl) (by kernel_rfl) (fun _ _ _ h => h) (Or.inl ⟨by kernel_rfl, ?yy22⟩) (by assumption) ?_
    case yy22 =>
      intro wq hSw
      have c0_0 : wq.cell? ⟨w9.heap.size, 0, none⟩ = some (.int .i64 bk) := (hSw).cell 0
      have c0_1 : wq.cell? ⟨w9.heap.size, 1, none⟩ = some (.int .i64 bn) := (hSw).cell 1
      have c0_2 : wq.cell? ⟨w9.heap.size, 2, none⟩ = some (.string (bs sb)) := (hSw).cell 2
      clear hSw
      go_simp
      (try with_reducible rfl)
    simp only [List.setIfInBounds_toArray, List.set_cons_zero, List.set_cons_succ]
    refine wpAnyH_ready (rs := [1]) (by kernel_rfl) (by simp) ?_
    refine (AllReadyH.cons rfl (fun K hK => ?_) AllReadyH.nil)
    go_simp
    (refine (RVValid_any ⟨bk, bn, sb⟩ hbl7 _).mono ?_; rw [HVB.out]; rintro er u1 ⟨rfl, hd1⟩)
    (try go_wp2_with fail)
    refine hK.out _ _ ?_ (fun hHeld => ?_)
    · exact hHeld.call hd1
    clear hK K
    (try simp only [Act.put, List.setIfInBounds_toArray, List.set_cons_zero, List.set_cons_succ])
    have hc1 := btrans hc0 hc0.size hd1
    refine takeH (i := 2) (v := ?vv23) 95 rfl rfl (by kernel_rfl) (by kernel_rfl) (by kernel_rfl) (fun _ _ _ h => h) (Or.inl ⟨by kernel_rfl, ?yy23⟩) (by assumption) ?_
    case yy23 => intro w hSw; (try dsimp only at hSw); go_simp; (try with_reducible rfl)
    simp only [List.setIfInBounds_toArray, List.set_cons_zero, List.set_cons_succ]
    refine takeH (i := 3) (v := ?vv24) 96 rfl rfl (by kernel_rfl) (by kernel_rfl) (by kernel_rfl) (fun _ _ _ h => h) (Or.inl ⟨by kernel_rfl, ?yy24⟩) (by assumption) ?_
    case yy24 => intro w hSw; (try dsimp only at hSw); go_simp; (try with_reducible rfl)
    simp only [List.setIfInBounds_toArray, List.set_cons_zero, List.set_cons_succ]
    refine takeH (i := 4) (v := ?vv25) 97 rfl rfl (by kernel_rfl) (by kernel_rfl) (by kernel_rfl) (fun _ _ _ h => h) (Or.inl ⟨by kernel_rfl, ?yy25⟩) (by assumption) ?_
    case yy25 => intro w hSw; (try dsimp only at hSw); go_simp; (try with_reducible rfl)
    simp only [List.setIfInBounds_toArray, List.set_cons_zero, List.set_cons_succ]
    refine takeH (i := 5) (v := ?vv26) 98 rfl rfl (by kernel_rfl) (by kernel_rfl) (by kernel_rfl) (fun _ _ _ h => h) (Or.inl ⟨by kernel_rfl, ?yy26⟩) (by assumption) ?_
    case yy26 => intro w hSw; (try dsimp only at hSw); go_simp; (try with_reducible rfl)
    simp only [List.setIfInBounds_toArray, List.set_cons_zero, List.set_cons_succ]
    refine takeH (i := 6) (v := ?vv27) 99 rfl rfl (by kernel_rfl) (by kernel_rfl) (by kernel_rfl) (fun _ _ _ h => h) (Or.inl ⟨by kernel_rfl, ?yy27⟩) (by assumption) ?_
    case yy27 => intro w hSw; (try dsimp only at hSw); go_simp; (try with_reducible rfl)
    simp only [List.setIfInBounds_toArray, List.set_cons_zero, List.set_cons_succ]
    refine takeH (i := 7) (v := ?vv28) 100 rfl rfl (by kernel_rfl) (by kernel_rfl) (by kernel_rfl) (fun _ _ _ h => h) (Or.inl ⟨by kernel_rfl, ?yy28⟩) (by assumption) ?_
    case yy28 => intro w hSw; (try dsimp only at hSw); go_simp; (try with_reducible rfl)
    simp only [List.setIfInBounds_toArray, List.set_cons_zero, List.set_cons_succ]
    refine takeH (i := 8) (v := ?vv29) 101 rfl rfl (by kernel_rfl) (by kernel_rfl) (by kernel_rfl) (fun _ _ _ h => h) (Or.inl ⟨by kernel_rfl, ?yy29⟩) (by assumption) ?_
    case yy29 => intro w hSw; (try dsimp only at hSw); go_simp; (try with_reducible rfl)
    simp only [List.setIfInBounds_toArray, List.set_cons_zero, List.set_cons_succ]
    refine takeH (i := 9) (v := ?vv30) 102 rfl rfl (by kernel_rfl) (by kernel_rfl) (by kernel_rfl) (fun _ _ _ h => h) (Or.inl ⟨by kernel_rfl, ?yy30⟩) (by assumption) ?_
    case yy30 => intro w hSw; (try dsimp only at hSw); go_simp; (try with_reducible rfl)
    simp only [List.setIfInBounds_toArray, List.set_cons_zero, List.set_cons_succ]
    refine takeH (i := 10) (v := ?vv31) 103 rfl rfl (by kernel_rfl) (by kernel_rfl) (by kernel_rfl) (fun _ _ _ h => h) (Or.inl ⟨by kernel_rfl, ?yy31⟩) (by assumption) ?_
    case yy31 => intro w hSw; (try dsimp only at hSw); go_simp; (try with_reducible rfl)
    simp only [List.setIfInBounds_toArray, List.set_cons_zero, List.set_cons_succ]
    refine takeH (i := 11) (v := ?vv32) 104 rfl rfl (by kernel_rfl) (by kernel_rfl) (by kernel_rfl) (fun _ _ _ h => h) (Or.inl ⟨by kernel_rfl, ?yy32⟩) (by assumption) ?_
    case yy32 => intro w hSw; (try dsimp only at hSw); go_simp; (try with_reducible rfl)
    simp only [List.setIfInBounds_toArray, List.set_cons_zero, List.set_cons_succ]
    refine takeH (i := 12) (v := ?vv33) 105 rfl rfl (by kernel_rfl) (by kernel_rfl) (by kernel_rfl) (fun _ _ _ h => h) (Or.inl ⟨by kernel_rfl, ?yy33⟩) (by assumption) ?_
    case yy33 => intro w hSw; (try dsimp only at hSw); go_simp; (try with_reducible rfl)
    simp only [List.setIfInBounds_toArray, List.set_cons_zero, List.set_cons_succ]
    refine takeH (i := 13) (v := ?vv34) 106 rfl rfl (by kernel_rfl) (by kernel_rfl) (by kernel_rfl) (fun _ _ _ h => h) (Or.inl ⟨by kernel_rfl, ?yy34⟩) (by assumption) ?_
    case yy34 =>
      intro wq hSw
      have c0_0 : wq.cell? ⟨w9.heap.size, 0, none⟩ = some (.int .i64 bk) := (hSw).cell 0
      have c0_1 : wq.cell? ⟨w9.heap.size, 1, none⟩ = some (.int .i64 bn) := (hSw).cell 1
      have c0_2 : wq.cell? ⟨w9.heap.size, 2, none⟩ = some (.string (bs sb)) := (hSw).cell 2
      clear hSw
      go_simp
      (try with_reducible rfl)
    simp only [List.setIfInBounds_toArray, List.set_cons_zero, List.set_cons_succ]
    refine takeH (i := 15) (v := ?vv35) 108 rfl rfl (by kernel_rfl) (by kernel_rfl) (by kernel_rfl) (fun _ _ _ h => h) (Or.inl ⟨by kernel_rfl, ?yy35⟩) (by assumption) ?_
    case yy35 => intro w hSw; (try dsimp only at hSw); go_simp; (try with_reducible rfl)
    simp only [List.setIfInBounds_toArray, List.set_cons_zero, List.set_cons_succ]
    refine takeH (i := 16) (v := ?vv36) 109 rfl rfl (by kernel_rfl) (by kernel_rfl) (by kernel_rfl) (fun _ _ _ h => h) (Or.inl ⟨by kernel_rfl, ?yy36⟩) (by assumption) ?_
    case yy36 => intro w hSw; (try dsimp only at hSw); go_simp; (try with_reducible rfl)
    simp only [List.setIfInBounds_toArray, List.set_cons_zero, List.set_cons_succ]
    refine takeH (i := 17) (v := ?vv37) 110 rfl rfl (by kernel_rfl) (by kernel_rfl) (by kernel_rfl) (fun _ _ _ h => h) (Or.inl ⟨by kernel_rfl, ?yy37⟩) (by assumption) ?_
    case yy37 => intro w hSw; (try dsimp only at hSw); go_simp; (try with_reducible rfl)
    simp only [List.setIfInBounds_toArray, List.set_cons_zero, List.set_cons_succ]
    refine wpAnyH_ready (rs := [14]) (by kernel_rfl) (by simp) ?_
    refine (AllReadyH.cons rfl (fun K hK => ?_) AllReadyH.nil)
    go_simp
    (refine (VEncode_any ⟨bk, bn, sb⟩ hbn0 hbn1 hbl6 _).mono ?_; rw [HEB.out]; rintro er u2 ⟨rfl, hd2⟩)
    (try go_wp2_with fail)
    refine hK.out _ _ ?_ (fun hHeld => ?_)
    · exact hHeld.call hd2
    clear hK K
    (try simp only [Act.put, List.setIfInBounds_toArray, List.set_cons_zero, List.set_cons_succ])
    have hc2 := btrans hc1 hc1.size hd2
    refine takeH (i := 18) (v := ?vv38) 111 rfl rfl (by kernel_rfl) (by kernel_rfl) (by kernel_rfl) (fun _ _ _ h => h) (Or.inl ⟨by kernel_rfl, ?yy38⟩) (by assumption) ?_
    case yy38 => intro w hSw; (try dsimp only at hSw); go_simp; (try with_reducible rfl)
    simp only [List.setIfInBounds_toArray, List.set_cons_zero, List.set_cons_succ]
    refine takeH (i := 19) (v := ?vv39) 112 rfl rfl (by kernel_rfl) (by kernel_rfl) (by kernel_rfl) (fun _ _ _ h => h) (Or.inl ⟨by kernel_rfl, ?yy39⟩) (by assumption) ?_
    case yy39 => intro w hSw; (try dsimp only at hSw); go_simp; (try with_reducible rfl)
    simp only [List.setIfInBounds_toArray, List.set_cons_zero, List.set_cons_succ]
    refine takeH (i := 20) (v := ?vv40) 113 rfl rfl (by kernel_rfl) (by kernel_rfl) (by kernel_rfl) (fun _ _ _ h => h) (Or.inl ⟨by kernel_rfl, ?yy40⟩) (by assumption) ?_
    case yy40 => intro w hSw; (try dsimp only at hSw); go_simp; (try with_reducible rfl)
    simp only [List.setIfInBounds_toArray, List.set_cons_zero, List.set_cons_succ]
    refine wpAnyH_ready (rs := [21]) (by kernel_rfl) (by simp) ?_
    refine (AllReadyH.cons rfl (fun K hK => ?_) AllReadyH.nil)
    go_simp
    (refine (works_any _ (HL4.out.below hc2)).mono ?_; rintro er u3 ⟨rfl, hd3⟩)
    (try go_wp2_with fail)
    refine hK.out _ _ ?_ (fun hHeld => ?_)
    · exact hHeld.call hd3
    clear hK K
    (try simp only [Act.put, List.setIfInBounds_toArray, List.set_cons_zero, List.set_cons_succ])
    have hc3 := btrans hc2 hc2.size hd3
    refine takeH (i := 22) (v := ?vv41) 115 rfl rfl (by kernel_rfl) (by kernel_rfl) (by kernel_rfl) (fun _ _ _ h => h) (Or.inl ⟨by kernel_rfl, ?yy41⟩) (by assumption) ?_
    case yy41 => intro w hSw; (try dsimp only at hSw); go_simp; (try with_reducible rfl)
    simp only [List.setIfInBounds_toArray, List.set_cons_zero, List.set_cons_succ]
    refine takeH (i := 23) (v := ?vv42) 4 rfl rfl (by kernel_rfl) (by kernel_rfl) (by kernel_rfl) (fun _ _ _ h => h) (Or.inl ⟨by kernel_rfl, ?yy42⟩) (by assumption) ?_
    case yy42 => intro w hSw; (try dsimp only at hSw); go_simp; (try with_reducible rfl)
    simp only [List.setIfInBounds_toArray, List.set_cons_zero, List.set_cons_succ]
    refine wpAnyH_done (by kernel_rfl) ?_ _
    go_wp2_with fail
    go_ret
    exact ⟨rfl, btrans HB.out HB.out.size hc3⟩
  | true =>
    have hl6 := vaB_len hv
    have hlv : v.s.length ≤ 1000000 := by omega
    obtain ⟨F, hF⟩ : ∃ F, fmtV v = F := ⟨_, rfl⟩
    have hFl : F.length ≤ 100000 := by rw [← hF]; have := fmt_len hn0 hn1 hv; omega
    have hPF : parV F = (v, 0) := by rw [← hF]; exact parV_fmtV v hn0 hn1 hv
    obtain ⟨t, ht⟩ : ∃ t, encV v = t := ⟨_, rfl⟩
    have htl : t.length ≤ 1000 := by rw [← ht]; exact enc_len hv
    have hDT : decV (t ++ s) 0 = (v, (t.length : Int), 0) := by rw [← ht]; exact decV_encV v hn0 hn1 hv s
    have htsl : (t ++ s).length ≤ 1000000 := by rw [List.length_append]; omega
    have hsz : ¬ 9223372036854775807 < t.length + s.length := by omega
    have q1 : (v.k == v.k) = true := by simp
    have q2 : (v.n == v.n) = true := by simp
    have q3 : (v.s == v.s) = true := by simp
    have q4 : ((t.length : Int) != (t.length : Int)) = false := by simp
    have HV := Lib.hid hv; have HF := Lib.hid hF; have HPF := Lib.hid hPF; have HT := Lib.hid ht; have HDT := Lib.hid hDT; clear hv hF hPF ht hDT
    have hb0 := ((Below.refl w.heap.size w).alloc (Nat.le_refl _) (.cells #[.int .i64 v.k, .int .i64 v.n, .string (bs v.s)] 23))
    have h_HX := (Bx.new w #[.int .i64 v.k, .int .i64 v.n, .string (bs v.s)] 23)
    have HB := Lib.hid hb0; have HX := Lib.hid h_HX
    clear hb0 h_HX
    go_enter Tryd.func10, Tryd.ntmps10
    go_upto_region 1 with (fail)
    generalize hW0 : w.alloc (.cells #[.int .i64 v.k, .int .i64 v.n, .string (bs v.s)] 23) = v0 at HB HX ⊢
    clear hW0
    have x0 : v0.cell? ⟨w.heap.size, 0, none⟩ = some (.int .i64 v.k) := HX.out.cell 0
    have x1 : v0.cell? ⟨w.heap.size, 1, none⟩ = some (.int .i64 v.n) := HX.out.cell 1
    have x2 : v0.cell? ⟨w.heap.size, 2, none⟩ = some (.string (bs v.s)) := HX.out.cell 2
    go_wp2_with fail
    refine (RVValid_any v hl7 _).mono ?_
    rw [HV.out]
    rintro er w1 ⟨rfl, hb1⟩
    have HX := Lib.hid (HX.out.call hb1)
    have HB := Lib.hid (btrans HB.out HB.out.size hb1); clear hb1
    clear x0 x1 x2
    have x0 : w1.cell? ⟨w.heap.size, 0, none⟩ = some (.int .i64 v.k) := HX.out.cell 0
    have x1 : w1.cell? ⟨w.heap.size, 1, none⟩ = some (.int .i64 v.n) := HX.out.cell 1
    have x2 : w1.cell? ⟨w.heap.size, 2, none⟩ = some (.string (bs v.s)) := HX.out.cell 2
    go_wp2_with fail
    refine (VFormat_any v hn0 hn1 hlv _ (hL.below HB.out)).mono ?_
    rw [HF.out]
    rintro er w2 ⟨rfl, hb1⟩
    have HX := Lib.hid (HX.out.call hb1)
    have HB := Lib.hid (btrans HB.out HB.out.size hb1); clear hb1
    clear x0 x1 x2
    go_wp2_with fail
    refine (VParse_any F hFl _ (hL.below HB.out)).mono ?_
    rw [HPF.out]
    simp only [vV]
    rintro er w3 ⟨rfl, hb1⟩
    have hal := (Below.refl w3.heap.size w3).alloc (Nat.le_refl _) (.cells #[.int .i64 v.k, .int .i64 v.n, .string (bs v.s)] 23)
    have HX := Lib.hid ((HX.out.call hb1).call hal)
    have HP := Lib.hid (Bx.new w3 #[.int .i64 v.k, .int .i64 v.n, .string (bs v.s)] 23)
    have HB := Lib.hid (btrans (btrans HB.out HB.out.size hb1) (btrans HB.out HB.out.size hb1).size hal); clear hb1 hal
    go_upto_region 5 with (fail)
    generalize hW : w3.alloc (.cells #[.int .i64 v.k, .int .i64 v.n, .string (bs v.s)] 23) = v3 at HB HX HP ⊢
    clear hW
    have x0 : v3.cell? ⟨w.heap.size, 0, none⟩ = some (.int .i64 v.k) := HX.out.cell 0
    have x1 : v3.cell? ⟨w.heap.size, 1, none⟩ = some (.int .i64 v.n) := HX.out.cell 1
    have x2 : v3.cell? ⟨w.heap.size, 2, none⟩ = some (.string (bs v.s)) := HX.out.cell 2
    go_wp2_with fail
    refine (VEncode_any v hn0 hn1 hlv _).mono ?_
    rw [HT.out]
    rintro er w4 ⟨rfl, hb1⟩
    have HX := Lib.hid (HX.out.call hb1)
    have HP := Lib.hid (HP.out.call hb1)
    have HB := Lib.hid (btrans HB.out HB.out.size hb1); clear hb1
    clear x0 x1 x2
    go_wp2_with fail
    refine (VDecode_any (t ++ s) 0 htsl _).mono ?_
    rw [HDT.out]
    simp only [vV]
    rintro er w5 ⟨rfl, hb1⟩
    have hal := (Below.refl w5.heap.size w5).alloc (Nat.le_refl _) (.cells #[.int .i64 v.k, .int .i64 v.n, .string (bs v.s)] 23)
    have HX := Lib.hid ((HX.out.call hb1).call hal)
    have HP := Lib.hid ((HP.out.call hb1).call hal)
    have HQ := Lib.hid (Bx.new w5 #[.int .i64 v.k, .int .i64 v.n, .string (bs v.s)] 23)
    have HB := Lib.hid (btrans (btrans HB.out HB.out.size hb1) (btrans HB.out HB.out.size hb1).size hal); clear hb1 hal
    go_upto_region 7 with (fail)
    generalize hW : w5.alloc (.cells #[.int .i64 v.k, .int .i64 v.n, .string (bs v.s)] 23) = v5 at HB HX HP HQ ⊢
    clear hW
    have x0 : v5.cell? ⟨w.heap.size, 0, none⟩ = some (.int .i64 v.k) := HX.out.cell 0
    have x1 : v5.cell? ⟨w.heap.size, 1, none⟩ = some (.int .i64 v.n) := HX.out.cell 1
    have x2 : v5.cell? ⟨w.heap.size, 2, none⟩ = some (.string (bs v.s)) := HX.out.cell 2
    have p0 : v5.cell? ⟨w3.heap.size, 0, none⟩ = some (.int .i64 v.k) := HP.out.cell 0
    have p1 : v5.cell? ⟨w3.heap.size, 1, none⟩ = some (.int .i64 v.n) := HP.out.cell 1
    have p2 : v5.cell? ⟨w3.heap.size, 2, none⟩ = some (.string (bs v.s)) := HP.out.cell 2
    have r0 : v5.cell? ⟨w5.heap.size, 0, none⟩ = some (.int .i64 v.k) := HQ.out.cell 0
    have r1 : v5.cell? ⟨w5.heap.size, 1, none⟩ = some (.int .i64 v.n) := HQ.out.cell 1
    have r2 : v5.cell? ⟨w5.heap.size, 2, none⟩ = some (.string (bs v.s)) := HQ.out.cell 2
    go_upto_region 9 with (fail)
    clear x0 x1 x2
    clear p0 p1 p2
    clear r0 r1 r2
    go_wp2_with fail
    refine (VParse_any s hs6 _ (hL.below HB.out)).mono ?_
    rw [HPAR.out]
    simp only [vV]
    rintro er w8 ⟨rfl, hb1⟩
    have hal := (Below.refl w8.heap.size w8).alloc (Nat.le_refl _) (.cells #[.int .i64 ak, .int .i64 an, .string (bs sa)] 23)
    have HA := Lib.hid (Bx.new w8 #[.int .i64 ak, .int .i64 an, .string (bs sa)] 23)
    have HB := Lib.hid (btrans (btrans HB.out HB.out.size hb1) (btrans HB.out HB.out.size hb1).size hal); clear hb1 hal
    go_upto_region 10 with (fail)
    generalize hW : w8.alloc (.cells #[.int .i64 ak, .int .i64 an, .string (bs sa)] 23) = v8 at HB HA ⊢
    clear hW
    have a0 : v8.cell? ⟨w8.heap.size, 0, none⟩ = some (.int .i64 ak) := HA.out.cell 0
    have a1 : v8.cell? ⟨w8.heap.size, 1, none⟩ = some (.int .i64 an) := HA.out.cell 1
    have a2 : v8.cell? ⟨w8.heap.size, 2, none⟩ = some (.string (bs sa)) := HA.out.cell 2
    by_cases hpe : pe = 0
    rotate_left
    · have tp : (pe == 0) = false := by rw [beq_eq_false_iff_ne]; exact hpe
      have HPE := Lib.hid hpe; clear hpe
      go_wp2_with fail
      refine (VDecode_any s 0 hs7 _).mono ?_
      rw [HDEC.out]
      simp only [vV]
      rintro er w9 ⟨rfl, hb1⟩
      have hal := (Below.refl w9.heap.size w9).alloc (Nat.le_refl _) (.cells #[.int .i64 bk, .int .i64 bn, .string (bs sb)] 23)
      have HY := Lib.hid (Bx.new w9 #[.int .i64 bk, .int .i64 bn, .string (bs sb)] 23)
      have HB := Lib.hid (btrans (btrans HB.out HB.out.size hb1) (btrans HB.out HB.out.size hb1).size hal); clear hb1 hal
      go_upto_region 13 with (fail)
      generalize hW : w9.alloc (.cells #[.int .i64 bk, .int .i64 bn, .string (bs sb)] 23) = v9 at HB HY ⊢
      clear hW
      have y0 : v9.cell? ⟨w9.heap.size, 0, none⟩ = some (.int .i64 bk) := HY.out.cell 0
      have y1 : v9.cell? ⟨w9.heap.size, 1, none⟩ = some (.int .i64 bn) := HY.out.cell 1
      have y2 : v9.cell? ⟨w9.heap.size, 2, none⟩ = some (.string (bs sb)) := HY.out.cell 2
      by_cases hde : de = 0
      rotate_left
      · have td : (de != 0) = true := by rw [bne_iff_ne]; exact hde
        go_wp2_with fail
        refine (works_any _ (hL.below HB.out)).mono ?_
        rintro er wz ⟨rfl, hbz⟩
        go_wp2
        go_ret
        exact ⟨rfl, btrans HB.out HB.out.size hbz⟩
      have td : (de != 0) = false := by rw [hde]; rfl
      subst hde
      obtain ⟨hvb, hbn0, hbn1, hnx, rest, hsr⟩ := encV_decV s _ nx HDEC.out
      simp only at hbn0 hbn1
      have hbl := vaB_len hvb
      simp only at hbl
      have hbl6 : sb.length ≤ 1000000 := by omega
      have hbl7 : sb.length ≤ 9223372036854775807 := by omega
      obtain ⟨E, hE⟩ : ∃ E, encV ⟨bk, bn, sb⟩ = E := ⟨_, rfl⟩
      have hE1 := encV_pos ⟨bk, bn, sb⟩
      rw [hE] at hnx hsr hE1
      obtain ⟨m, hm⟩ : ∃ m, E.length = m := ⟨_, rfl⟩
      rw [hm] at hnx hE1
      subst hnx
      have hst : s.take m = E := by rw [hsr, List.take_left' hm]
      have hml : m ≤ s.length := by rw [hsr, List.length_append]; omega
      have g1 : (1 : Int) ≤ (m : Int) := by omega
      have g2 : (m : Int) ≤ (s.length : Int) := by omega
      have g3 : (E == s.take m) = true := by rw [hst]; simp
      have HVB := Lib.hid hvb; have HEB := Lib.hid hE; clear hvb hE hsr hst hm hE1 HDEC
      go_upto_region 15 with (fail)
      clear y0 y1 y2
      have hs0 : Bx w9.heap.size #[.int .i64 bk, .int .i64 bn, .string (bs sb)] 23 v9.drew := HY.out
      have HS0 := Lib.hid hs0; clear hs0
      have hL4 := hL.below HB.out
      have HL4 := Lib.hid hL4; clear hL4
      go_wp2_with fail
      refine wp_region_held_drew (S := (fun w' => Bx w9.heap.size #[.int .i64 bk, .int .i64 bn, .string (bs sb)] 23 w')) (by kernel_rfl) ?_ (fun hHeld => ?_)
      · exact HS0.out
      have hc0 : Below v9.heap.size v9 v9.drew := (Below.refl v9.heap.size v9).drew
      refine takeH (i := 0) (v := ?vv43) 93 rfl rfl (by kernel_rfl) (by kernel_rfl) (by kernel_rfl) (fun _ _ _ h => h) (Or.inl ⟨by kernel_rfl, ?yy43⟩) (by assumption) ?_
      case yy43 =>
        intro wq hSw
        have c0_0 : wq.cell? ⟨w9.heap.size, 0, none⟩ = some (.int .i64 bk) := (hSw).cell 0
        have c0_1 : wq.cell? ⟨w9.heap.size, 1, none⟩ = some (.int .i64 bn) := (hSw).cell 1
        have c0_2 : wq.cell? ⟨w9.heap.size, 2, none⟩ = some (.string (bs sb)) := (hSw).cell 2
        clear hSw
        go_simp
        (try with_reducible rfl)
      simp only [List.setIfInBounds_toArray, List.set_cons_zero, List.set_cons_succ]
      refine wpAnyH_ready (rs := [1]) (by kernel_rfl) (by simp) ?_
      refine (AllReadyH.cons rfl (fun K hK => ?_) AllReadyH.nil)
      go_simp
      (refine (RVValid_any ⟨bk, bn, sb⟩ hbl7 _).mono ?_; rw [HVB.out]; rintro er u1 ⟨rfl, hd1⟩)
      (try go_wp2_with fail)
      refine hK.out _ _ ?_ (fun hHeld => ?_)
      · exact hHeld.call hd1
      clear hK K
      (try simp only [Act.put, List.setIfInBounds_toArray, List.set_cons_zero, List.set_cons_succ])
      have hc1 := btrans hc0 hc0.size hd1
      refine takeH (i := 2) (v := ?vv44) 95 rfl rfl (by kernel_rfl) (by kernel_rfl) (by kernel_rfl) (fun _ _ _ h => h) (Or.inl ⟨by kernel_rfl, ?yy44⟩) (by assumption) ?_
      case yy44 => intro w hSw; (try dsimp only at hSw); go_simp; (try with_reducible rfl)
      simp only [List.setIfInBounds_toArray, List.set_cons_zero, List.set_cons_succ]
      refine takeH (i := 3) (v := ?vv45) 96 rfl rfl (by kernel_rfl) (by kernel_rfl) (by kernel_rfl) (fun _ _ _ h => h) (Or.inl ⟨by kernel_rfl, ?yy45⟩) (by assumption) ?_
      case yy45 => intro w hSw; (try dsimp only at hSw); go_simp; (try with_reducible rfl)
      simp only [List.setIfInBounds_toArray, List.set_cons_zero, List.set_cons_succ]
      refine takeH (i := 4) (v := ?vv46) 97 rfl rfl (by kernel_rfl) (by kernel_rfl) (by kernel_rfl) (fun _ _ _ h => h) (Or.inl ⟨by kernel_rfl, ?yy46⟩) (by assumption) ?_
      case yy46 => intro w hSw; (try dsimp only at hSw); go_simp; (try with_reducible rfl)
      simp only [List.setIfInBounds_toArray, List.set_cons_zero, List.set_cons_succ]
      refine takeH (i := 5) (v := ?vv47) 98 rfl rfl (by kernel_rfl) (by kernel_rfl) (by kernel_rfl) (fun _ _ _ h => h) (Or.inl ⟨by kernel_rfl, ?yy47⟩) (by assumption) ?_
      case yy47 => intro w hSw; (try dsimp only at hSw); go_simp; (try with_reducible rfl)
      simp only [List.setIfInBounds_toArray, List.set_cons_zero, List.set_cons_succ]
      refine takeH (i := 6) (v := ?vv48) 99 rfl rfl (by kernel_rfl) (by kernel_rfl) (by kernel_rfl) (fun _ _ _ h => h) (Or.inl ⟨by kernel_rfl, ?yy48⟩) (by assumption) ?_
      case yy48 => intro w hSw; (try dsimp only at hSw); go_simp; (try with_reducible rfl)
      simp only [List.setIfInBounds_toArray, List.set_cons_zero, List.set_cons_succ]
      refine takeH (i := 7) (v := ?vv49) 100 rfl rfl (by kernel_rfl) (by kernel_rfl) (by kernel_rfl) (fun _ _ _ h => h) (Or.inl ⟨by kernel_rfl, ?yy49⟩) (by assumption) ?_
      case yy49 => intro w hSw; (try dsimp only at hSw); go_simp; (try with_reducible rfl)
      simp only [List.setIfInBounds_toArray, List.set_cons_zero, List.set_cons_succ]
      refine takeH (i := 8) (v := ?vv50) 101 rfl rfl (by kernel_rfl) (by kernel_rfl) (by kernel_rfl) (fun _ _ _ h => h) (Or.inl ⟨by kernel_rfl, ?yy50⟩) (by assumption) ?_
      case yy50 => intro w hSw; (try dsimp only at hSw); go_simp; (try with_reducible rfl)
      simp only [List.setIfInBounds_toArray, List.set_cons_zero, List.set_cons_succ]
      refine takeH (i := 9) (v := ?vv51) 102 rfl rfl (by kernel_rfl) (by kernel_rfl) (by kernel_rfl) (fun _ _ _ h => h) (Or.inl ⟨by kernel_rfl, ?yy51⟩) (by assumption) ?_
      case yy51 => intro w hSw; (try dsimp only at hSw); go_simp; (try with_reducible rfl)
      simp only [List.setIfInBounds_toArray, List.set_cons_zero, List.set_cons_succ]
      refine takeH (i := 10) (v := ?vv52) 103 rfl rfl (by kernel_rfl) (by kernel_rfl) (by kernel_rfl) (fun _ _ _ h => h) (Or.inl ⟨by kernel_rfl, ?yy52⟩) (by assumption) ?_
      case yy52 => intro w hSw; (try dsimp only at hSw); go_simp; (try with_reducible rfl)
      simp only [List.setIfInBounds_toArray, List.set_cons_zero, List.set_cons_succ]
      refine takeH (i := 11) (v := ?vv53) 104 rfl rfl (by kernel_rfl) (by kernel_rfl) (by kernel_rfl) (fun _ _ _ h => h) (Or.inl ⟨by kernel_rfl, ?yy53⟩) (by assumption) ?_
      case yy53 => intro w hSw; (try dsimp only at hSw); go_simp; (try with_reducible rfl)
      simp only [List.setIfInBounds_toArray, List.set_cons_zero, List.set_cons_succ]
      refine takeH (i := 12) (v := ?vv54) 105 rfl rfl (by kernel_rfl) (by kernel_rfl) (by kernel_rfl) (fun _ _ _ h => h) (Or.inl ⟨by kernel_rfl, ?yy54⟩) (by assumption) ?_
      case yy54 => intro w hSw; (try dsimp only at hSw); go_simp; (try with_reducible rfl)
      simp only [List.setIfInBounds_toArray, List.set_cons_zero, List.set_cons_succ]
      refine takeH (i := 13) (v := ?vv55) 106 rfl rfl (by kernel_rfl) (by kernel_rfl) (by kernel_rfl) (fun _ _ _ h => h) (Or.inl ⟨by kernel_rfl, ?yy55⟩) (by assumption) ?_
      case yy55 =>
        intro wq hSw
        have c0_0 : wq.cell? ⟨w9.heap.size, 0, none⟩ = some (.int .i64 bk) := (hSw).cell 0
        have c0_1 : wq.cell? ⟨w9.heap.size, 1, none⟩ = some (.int .i64 bn) := (hSw).cell 1
        have c0_2 : wq.cell? ⟨w9.heap.size, 2, none⟩ = some (.string (bs sb)) := (hSw).cell 2
        clear hSw
        go_simp
        (try with_reducible rfl)
      simp only [List.setIfInBounds_toArray, List.set_cons_zero, List.set_cons_succ]
      refine takeH (i := 15) (v := ?vv56) 108 rfl rfl (by kernel_rfl) (by kernel_rfl) (by kernel_rfl) (fun _ _ _ h => h) (Or.inl ⟨by kernel_rfl, ?yy56⟩) (by assumption) ?_
      case yy56 => intro w hSw; (try dsimp only at hSw); go_simp; (try with_reducible rfl)
      simp only [List.setIfInBounds_toArray, List.set_cons_zero, List.set_cons_succ]
      refine takeH (i := 16) (v := ?vv57) 109 rfl rfl (by kernel_rfl) (by kernel_rfl) (by kernel_rfl) (fun _ _ _ h => h) (Or.inl ⟨by kernel_rfl, ?yy57⟩) (by assumption) ?_
      case yy57 => intro w hSw; (try dsimp only at hSw); go_simp; (try with_reducible rfl)
      simp only [List.setIfInBounds_toArray, List.set_cons_zero, List.set_cons_succ]
      refine takeH (i := 17) (v := ?vv58) 110 rfl rfl (by kernel_rfl) (by kernel_rfl) (by kernel_rfl) (fun _ _ _ h => h) (Or.inl ⟨by kernel_rfl, ?yy58⟩) (by assumption) ?_
      case yy58 => intro w hSw; (try dsimp only at hSw); go_simp; (try with_reducible rfl)
      simp only [List.setIfInBounds_toArray, List.set_cons_zero, List.set_cons_succ]
      refine wpAnyH_ready (rs := [14]) (by kernel_rfl) (by simp) ?_
      refine (AllReadyH.cons rfl (fun K hK => ?_) AllReadyH.nil)
      go_simp
      (refine (VEncode_any ⟨bk, bn, sb⟩ hbn0 hbn1 hbl6 _).mono ?_; rw [HEB.out]; rintro er u2 ⟨rfl, hd2⟩)
      (try go_wp2_with fail)
      refine hK.out _ _ ?_ (fun hHeld => ?_)
      · exact hHeld.call hd2
      clear hK K
      (try simp only [Act.put, List.setIfInBounds_toArray, List.set_cons_zero, List.set_cons_succ])
      have hc2 := btrans hc1 hc1.size hd2
      refine takeH (i := 18) (v := ?vv59) 111 rfl rfl (by kernel_rfl) (by kernel_rfl) (by kernel_rfl) (fun _ _ _ h => h) (Or.inl ⟨by kernel_rfl, ?yy59⟩) (by assumption) ?_
      case yy59 => intro w hSw; (try dsimp only at hSw); go_simp; (try with_reducible rfl)
      simp only [List.setIfInBounds_toArray, List.set_cons_zero, List.set_cons_succ]
      refine takeH (i := 19) (v := ?vv60) 112 rfl rfl (by kernel_rfl) (by kernel_rfl) (by kernel_rfl) (fun _ _ _ h => h) (Or.inl ⟨by kernel_rfl, ?yy60⟩) (by assumption) ?_
      case yy60 => intro w hSw; (try dsimp only at hSw); go_simp; (try with_reducible rfl)
      simp only [List.setIfInBounds_toArray, List.set_cons_zero, List.set_cons_succ]
      refine takeH (i := 20) (v := ?vv61) 113 rfl rfl (by kernel_rfl) (by kernel_rfl) (by kernel_rfl) (fun _ _ _ h => h) (Or.inl ⟨by kernel_rfl, ?yy61⟩) (by assumption) ?_
      case yy61 => intro w hSw; (try dsimp only at hSw); go_simp; (try with_reducible rfl)
      simp only [List.setIfInBounds_toArray, List.set_cons_zero, List.set_cons_succ]
      refine wpAnyH_ready (rs := [21]) (by kernel_rfl) (by simp) ?_
      refine (AllReadyH.cons rfl (fun K hK => ?_) AllReadyH.nil)
      go_simp
      (refine (works_any _ (HL4.out.below hc2)).mono ?_; rintro er u3 ⟨rfl, hd3⟩)
      (try go_wp2_with fail)
      refine hK.out _ _ ?_ (fun hHeld => ?_)
      · exact hHeld.call hd3
      clear hK K
      (try simp only [Act.put, List.setIfInBounds_toArray, List.set_cons_zero, List.set_cons_succ])
      have hc3 := btrans hc2 hc2.size hd3
      refine takeH (i := 22) (v := ?vv62) 115 rfl rfl (by kernel_rfl) (by kernel_rfl) (by kernel_rfl) (fun _ _ _ h => h) (Or.inl ⟨by kernel_rfl, ?yy62⟩) (by assumption) ?_
      case yy62 => intro w hSw; (try dsimp only at hSw); go_simp; (try with_reducible rfl)
      simp only [List.setIfInBounds_toArray, List.set_cons_zero, List.set_cons_succ]
      refine takeH (i := 23) (v := ?vv63) 4 rfl rfl (by kernel_rfl) (by kernel_rfl) (by kernel_rfl) (fun _ _ _ h => h) (Or.inl ⟨by kernel_rfl, ?yy63⟩) (by assumption) ?_
      case yy63 => intro w hSw; (try dsimp only at hSw); go_simp; (try with_reducible rfl)
      simp only [List.setIfInBounds_toArray, List.set_cons_zero, List.set_cons_succ]
      refine wpAnyH_done (by kernel_rfl) ?_ _
      go_wp2_with fail
      go_ret
      exact ⟨rfl, btrans HB.out HB.out.size hc3⟩
    have tp : (pe == 0) = true := by rw [hpe]; rfl
    subst hpe
    obtain ⟨hva, hfa⟩ := fmtV_parV s _ HPAR.out
    obtain ⟨han0, han1⟩ := par_range HPAR.out
    simp only at han0 han1
    have hal6 := vaB_len hva
    simp only at hal6
    have hal7 : sa.length ≤ 1000000 := by omega
    have hal8 : sa.length ≤ 9223372036854775807 := by omega
    have qs : (s != s) = false := by simp
    have HVA := Lib.hid hva; have HFA := Lib.hid hfa; clear hva hfa
    go_wp2_with fail
    refine (RVValid_any ⟨ak, an, sa⟩ hal8 _).mono ?_
    rw [HVA.out]
    rintro er w10 ⟨rfl, hb1⟩
    have HA := Lib.hid (HA.out.call hb1)
    have HB := Lib.hid (btrans HB.out HB.out.size hb1); clear hb1
    clear a0 a1 a2
    have a0 : w10.cell? ⟨w8.heap.size, 0, none⟩ = some (.int .i64 ak) := HA.out.cell 0
    have a1 : w10.cell? ⟨w8.heap.size, 1, none⟩ = some (.int .i64 an) := HA.out.cell 1
    have a2 : w10.cell? ⟨w8.heap.size, 2, none⟩ = some (.string (bs sa)) := HA.out.cell 2
    go_wp2_with fail
    refine (VFormat_any ⟨ak, an, sa⟩ han0 han1 hal7 _ (hL.below HB.out)).mono ?_
    rw [HFA.out]
    rintro er w11 ⟨rfl, hb1⟩
    have HB := Lib.hid (btrans HB.out HB.out.size hb1); clear hb1
    clear a0 a1 a2
    go_wp2_with fail
    refine (VDecode_any s 0 hs7 _).mono ?_
    rw [HDEC.out]
    simp only [vV]
    rintro er w9 ⟨rfl, hb1⟩
    have hal := (Below.refl w9.heap.size w9).alloc (Nat.le_refl _) (.cells #[.int .i64 bk, .int .i64 bn, .string (bs sb)] 23)
    have HY := Lib.hid (Bx.new w9 #[.int .i64 bk, .int .i64 bn, .string (bs sb)] 23)
    have HB := Lib.hid (btrans (btrans HB.out HB.out.size hb1) (btrans HB.out HB.out.size hb1).size hal); clear hb1 hal
    go_upto_region 13 with (fail)
    generalize hW : w9.alloc (.cells #[.int .i64 bk, .int .i64 bn, .string (bs sb)] 23) = v9 at HB HY ⊢
    clear hW
    have y0 : v9.cell? ⟨w9.heap.size, 0, none⟩ = some (.int .i64 bk) := HY.out.cell 0
    have y1 : v9.cell? ⟨w9.heap.size, 1, none⟩ = some (.int .i64 bn) := HY.out.cell 1
    have y2 : v9.cell? ⟨w9.heap.size, 2, none⟩ = some (.string (bs sb)) := HY.out.cell 2
    by_cases hde : de = 0
    rotate_left
    · have td : (de != 0) = true := by rw [bne_iff_ne]; exact hde
      go_wp2_with fail
      refine (works_any _ (hL.below HB.out)).mono ?_
      rintro er wz ⟨rfl, hbz⟩
      go_wp2
      go_ret
      exact ⟨rfl, btrans HB.out HB.out.size hbz⟩
    have td : (de != 0) = false := by rw [hde]; rfl
    subst hde
    obtain ⟨hvb, hbn0, hbn1, hnx, rest, hsr⟩ := encV_decV s _ nx HDEC.out
    simp only at hbn0 hbn1
    have hbl := vaB_len hvb
    simp only at hbl
    have hbl6 : sb.length ≤ 1000000 := by omega
    have hbl7 : sb.length ≤ 9223372036854775807 := by omega
    obtain ⟨E, hE⟩ : ∃ E, encV ⟨bk, bn, sb⟩ = E := ⟨_, rfl⟩
    have hE1 := encV_pos ⟨bk, bn, sb⟩
    rw [hE] at hnx hsr hE1
    obtain ⟨m, hm⟩ : ∃ m, E.length = m := ⟨_, rfl⟩
    rw [hm] at hnx hE1
    subst hnx
    have hst : s.take m = E := by rw [hsr, List.take_left' hm]
    have hml : m ≤ s.length := by rw [hsr, List.length_append]; omega
    have g1 : (1 : Int) ≤ (m : Int) := by omega
    have g2 : (m : Int) ≤ (s.length : Int) := by omega
    have g3 : (E == s.take m) = true := by rw [hst]; simp
    have HVB := Lib.hid hvb; have HEB := Lib.hid hE; clear hvb hE hsr hst hm hE1 HDEC
    go_upto_region 15 with (fail)
    clear y0 y1 y2
    have hs0 : Bx w9.heap.size #[.int .i64 bk, .int .i64 bn, .string (bs sb)] 23 v9.drew := HY.out
    have HS0 := Lib.hid hs0; clear hs0
    have hL4 := hL.below HB.out
    have HL4 := Lib.hid hL4; clear hL4
    go_wp2_with fail
    refine wp_region_held_drew (S := (fun w' => Bx w9.heap.size #[.int .i64 bk, .int .i64 bn, .string (bs sb)] 23 w')) (by kernel_rfl) ?_ (fun hHeld => ?_)
    · exact HS0.out
    have hc0 : Below v9.heap.size v9 v9.drew := (Below.refl v9.heap.size v9).drew
    refine takeH (i := 0) (v := ?vv64) 93 rfl rfl (by kernel_rfl) (by kernel_rfl) (by kernel_rfl) (fun _ _ _ h => h) (Or.inl ⟨by kernel_rfl, ?yy64⟩) (by assumption) ?_
    case yy64 =>
      intro wq hSw
      have c0_0 : wq.cell? ⟨w9.heap.size, 0, none⟩ = some (.int .i64 bk) := (hSw).cell 0
      have c0_1 : wq.cell? ⟨w9.heap.size, 1, none⟩ = some (.int .i64 bn) := (hSw).cell 1
      have c0_2 : wq.cell? ⟨w9.heap.size, 2, none⟩ = some (.string (bs sb)) := (hSw).cell 2
      clear hSw
      go_simp
      (try with_reducible rfl)
    simp only [List.setIfInBounds_toArray, List.set_cons_zero, List.set_cons_succ]
    refine wpAnyH_ready (rs := [1]) (by kernel_rfl) (by simp) ?_
    refine (AllReadyH.cons rfl (fun K hK => ?_) AllReadyH.nil)
    go_simp
    (refine (RVValid_any ⟨bk, bn, sb⟩ hbl7 _).mono ?_; rw [HVB.out]; rintro er u1 ⟨rfl, hd1⟩)
    (try go_wp2_with fail)
    refine hK.out _ _ ?_ (fun hHeld => ?_)
    · exact hHeld.call hd1
    clear hK K
    (try simp only [Act.put, List.setIfInBounds_toArray, List.set_cons_zero, List.set_cons_succ])
    have hc1 := btrans hc0 hc0.size hd1
    refine takeH (i := 2) (v := ?vv65) 95 rfl rfl (by kernel_rfl) (by kernel_rfl) (by kernel_rfl) (fun _ _ _ h => h) (Or.inl ⟨by kernel_rfl, ?yy65⟩) (by assumption) ?_
    case yy65 => intro w hSw; (try dsimp only at hSw); go_simp; (try with_reducible rfl)
    simp only [List.setIfInBounds_toArray, List.set_cons_zero, List.set_cons_succ]
    refine takeH (i := 3) (v := ?vv66) 96 rfl rfl (by kernel_rfl) (by kernel_rfl) (by kernel_rfl) (fun _ _ _ h => h) (Or.inl ⟨by kernel_rfl, ?yy66⟩) (by assumption) ?_
    case yy66 => intro w hSw; (try dsimp only at hSw); go_simp; (try with_reducible rfl)
    simp only [List.setIfInBounds_toArray, List.set_cons_zero, List.set_cons_succ]
    refine takeH (i := 4) (v := ?vv67) 97 rfl rfl (by kernel_rfl) (by kernel_rfl) (by kernel_rfl) (fun _ _ _ h => h) (Or.inl ⟨by kernel_rfl, ?yy67⟩) (by assumption) ?_
    case yy67 => intro w hSw; (try dsimp only at hSw); go_simp; (try with_reducible rfl)
    simp only [List.setIfInBounds_toArray, List.set_cons_zero, List.set_cons_succ]
    refine takeH (i := 5) (v := ?vv68) 98 rfl rfl (by kernel_rfl) (by kernel_rfl) (by kernel_rfl) (fun _ _ _ h => h) (Or.inl ⟨by kernel_rfl, ?yy68⟩) (by assumption) ?_
    case yy68 => intro w hSw; (try dsimp only at hSw); go_simp; (try with_reducible rfl)
    simp only [List.setIfInBounds_toArray, List.set_cons_zero, List.set_cons_succ]
    refine takeH (i := 6) (v := ?vv69) 99 rfl rfl (by kernel_rfl) (by kernel_rfl) (by kernel_rfl) (fun _ _ _ h => h) (Or.inl ⟨by kernel_rfl, ?yy69⟩) (by assumption) ?_
    case yy69 => intro w hSw; (try dsimp only at hSw); go_simp; (try with_reducible rfl)
    simp only [List.setIfInBounds_toArray, List.set_cons_zero, List.set_cons_succ]
    refine takeH (i := 7) (v := ?vv70) 100 rfl rfl (by kernel_rfl) (by kernel_rfl) (by kernel_rfl) (fun _ _ _ h => h) (Or.inl ⟨by kernel_rfl, ?yy70⟩) (by assumption) ?_
    case yy70 => intro w hSw; (try dsimp only at hSw); go_simp; (try with_reducible rfl)
    simp only [List.setIfInBounds_toArray, List.set_cons_zero, List.set_cons_succ]
    refine takeH (i := 8) (v := ?vv71) 101 rfl rfl (by kernel_rfl) (by kernel_rfl) (by kernel_rfl) (fun _ _ _ h => h) (Or.inl ⟨by kernel_rfl, ?yy71⟩) (by assumption) ?_
    case yy71 => intro w hSw; (try dsimp only at hSw); go_simp; (try with_reducible rfl)
    simp only [List.setIfInBounds_toArray, List.set_cons_zero, List.set_cons_succ]
    refine takeH (i := 9) (v := ?vv72) 102 rfl rfl (by kernel_rfl) (by kernel_rfl) (by kernel_rfl) (fun _ _ _ h => h) (Or.inl ⟨by kernel_rfl, ?yy72⟩) (by assumption) ?_
    case yy72 => intro w hSw; (try dsimp only at hSw); go_simp; (try with_reducible rfl)
    simp only [List.setIfInBounds_toArray, List.set_cons_zero, List.set_cons_succ]
    refine takeH (i := 10) (v := ?vv73) 103 rfl rfl (by kernel_rfl) (by kernel_rfl) (by kernel_rfl) (fun _ _ _ h => h) (Or.inl ⟨by kernel_rfl, ?yy73⟩) (by assumption) ?_
    case yy73 => intro w hSw; (try dsimp only at hSw); go_simp; (try with_reducible rfl)
    simp only [List.setIfInBounds_toArray, List.set_cons_zero, List.set_cons_succ]
    refine takeH (i := 11) (v := ?vv74) 104 rfl rfl (by kernel_rfl) (by kernel_rfl) (by kernel_rfl) (fun _ _ _ h => h) (Or.inl ⟨by kernel_rfl, ?yy74⟩) (by assumption) ?_
    case yy74 => intro w hSw; (try dsimp only at hSw); go_simp; (try with_reducible rfl)
    simp only [List.setIfInBounds_toArray, List.set_cons_zero, List.set_cons_succ]
    refine takeH (i := 12) (v := ?vv75) 105 rfl rfl (by kernel_rfl) (by kernel_rfl) (by kernel_rfl) (fun _ _ _ h => h) (Or.inl ⟨by kernel_rfl, ?yy75⟩) (by assumption) ?_
    case yy75 => intro w hSw; (try dsimp only at hSw); go_simp; (try with_reducible rfl)
    simp only [List.setIfInBounds_toArray, List.set_cons_zero, List.set_cons_succ]
    refine takeH (i := 13) (v := ?vv76) 106 rfl rfl (by kernel_rfl) (by kernel_rfl) (by kernel_rfl) (fun _ _ _ h => h) (Or.inl ⟨by kernel_rfl, ?yy76⟩) (by assumption) ?_
    case yy76 =>
      intro wq hSw
      have c0_0 : wq.cell? ⟨w9.heap.size, 0, none⟩ = some (.int .i64 bk) := (hSw).cell 0
      have c0_1 : wq.cell? ⟨w9.heap.size, 1, none⟩ = some (.int .i64 bn) := (hSw).cell 1
      have c0_2 : wq.cell? ⟨w9.heap.size, 2, none⟩ = some (.string (bs sb)) := (hSw).cell 2
      clear hSw
      go_simp
      (try with_reducible rfl)
    simp only [List.setIfInBounds_toArray, List.set_cons_zero, List.set_cons_succ]
    refine takeH (i := 15) (v := ?vv77) 108 rfl rfl (by kernel_rfl) (by kernel_rfl) (by kernel_rfl) (fun _ _ _ h => h) (Or.inl ⟨by kernel_rfl, ?yy77⟩) (by assumption) ?_
    case yy77 => intro w hSw; (try dsimp only at hSw); go_simp; (try with_reducible rfl)
    simp only [List.setIfInBounds_toArray, List.set_cons_zero, List.set_cons_succ]
    refine takeH (i := 16) (v := ?vv78) 109 rfl rfl (by kernel_rfl) (by kernel_rfl) (by kernel_rfl) (fun _ _ _ h => h) (Or.inl ⟨by kernel_rfl, ?yy78⟩) (by assumption) ?_
    case yy78 => intro w hSw; (try dsimp only at hSw); go_simp; (try with_reducible rfl)
    simp only [List.setIfInBounds_toArray, List.set_cons_zero, List.set_cons_succ]
    refine takeH (i := 17) (v := ?vv79) 110 rfl rfl (by kernel_rfl) (by kernel_rfl) (by kernel_rfl) (fun _ _ _ h => h) (Or.inl ⟨by kernel_rfl, ?yy79⟩) (by assumption) ?_
    case yy79 => intro w hSw; (try dsimp only at hSw); go_simp; (try with_reducible rfl)
    simp only [List.setIfInBounds_toArray, List.set_cons_zero, List.set_cons_succ]
    refine wpAnyH_ready (rs := [14]) (by kernel_rfl) (by simp) ?_
    refine (AllReadyH.cons rfl (fun K hK => ?_) AllReadyH.nil)
    go_simp
    (refine (VEncode_any ⟨bk, bn, sb⟩ hbn0 hbn1 hbl6 _).mono ?_; rw [HEB.out]; rintro er u2 ⟨rfl, hd2⟩)
    (try go_wp2_with fail)
    refine hK.out _ _ ?_ (fun hHeld => ?_)
    · exact hHeld.call hd2
    clear hK K
    (try simp only [Act.put, List.setIfInBounds_toArray, List.set_cons_zero, List.set_cons_succ])
    have hc2 := btrans hc1 hc1.size hd2
    refine takeH (i := 18) (v := ?vv80) 111 rfl rfl (by kernel_rfl) (by kernel_rfl) (by kernel_rfl) (fun _ _ _ h => h) (Or.inl ⟨by kernel_rfl, ?yy80⟩) (by assumption) ?_
    case yy80 => intro w hSw; (try dsimp only at hSw); go_simp; (try with_reducible rfl)
    simp only [List.setIfInBounds_toArray, List.set_cons_zero, List.set_cons_succ]
    refine takeH (i := 19) (v := ?vv81) 112 rfl rfl (by kernel_rfl) (by kernel_rfl) (by kernel_rfl) (fun _ _ _ h => h) (Or.inl ⟨by kernel_rfl, ?yy81⟩) (by assumption) ?_
    case yy81 => intro w hSw; (try dsimp only at hSw); go_simp; (try with_reducible rfl)
    simp only [List.setIfInBounds_toArray, List.set_cons_zero, List.set_cons_succ]
    refine takeH (i := 20) (v := ?vv82) 113 rfl rfl (by kernel_rfl) (by kernel_rfl) (by kernel_rfl) (fun _ _ _ h => h) (Or.inl ⟨by kernel_rfl, ?yy82⟩) (by assumption) ?_
    case yy82 => intro w hSw; (try dsimp only at hSw); go_simp; (try with_reducible rfl)
    simp only [List.setIfInBounds_toArray, List.set_cons_zero, List.set_cons_succ]
    refine wpAnyH_ready (rs := [21]) (by kernel_rfl) (by simp) ?_
    refine (AllReadyH.cons rfl (fun K hK => ?_) AllReadyH.nil)
    go_simp
    (refine (works_any _ (HL4.out.below hc2)).mono ?_; rintro er u3 ⟨rfl, hd3⟩)
    (try go_wp2_with fail)
    refine hK.out _ _ ?_ (fun hHeld => ?_)
    · exact hHeld.call hd3
    clear hK K
    (try simp only [Act.put, List.setIfInBounds_toArray, List.set_cons_zero, List.set_cons_succ])
    have hc3 := btrans hc2 hc2.size hd3
    refine takeH (i := 22) (v := ?vv83) 115 rfl rfl (by kernel_rfl) (by kernel_rfl) (by kernel_rfl) (fun _ _ _ h => h) (Or.inl ⟨by kernel_rfl, ?yy83⟩) (by assumption) ?_
    case yy83 => intro w hSw; (try dsimp only at hSw); go_simp; (try with_reducible rfl)
    simp only [List.setIfInBounds_toArray, List.set_cons_zero, List.set_cons_succ]
    refine takeH (i := 23) (v := ?vv84) 4 rfl rfl (by kernel_rfl) (by kernel_rfl) (by kernel_rfl) (fun _ _ _ h => h) (Or.inl ⟨by kernel_rfl, ?yy84⟩) (by assumption) ?_
    case yy84 => intro w hSw; (try dsimp only at hSw); go_simp; (try with_reducible rfl)
    simp only [List.setIfInBounds_toArray, List.set_cons_zero, List.set_cons_succ]
    refine wpAnyH_done (by kernel_rfl) ?_ _
    go_wp2_with fail
    go_ret
    exact ⟨rfl, btrans HB.out HB.out.size hc3⟩
end Go.Proofs.YtmffdoblpkjmjaaDoor
