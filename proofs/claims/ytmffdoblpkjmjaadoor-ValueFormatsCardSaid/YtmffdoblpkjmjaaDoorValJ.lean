/- The walk of ValueFormats. No conditions. -/
import Derived.Test.YtmffdoblpkjmjaaDoorValI
namespace Go.Proofs.YtmffdoblpkjmjaaDoor
open Go.RowKit

theorem itoa_ne (n : Int) : Lib.itoa n ≠ [] := by
  unfold Lib.itoa; split
  · simp
  · exact decDigits_ne _
theorem fmt_ne (v : Vl) : (fmtV v != []) = vaB v := by
  unfold fmtV
  cases h : vaB v with
  | false => rw [if_neg (by simp)]; rfl
  | true =>
    rw [if_pos rfl, bne_iff_ne]
    split
    · decide
    · split
      · exact itoa_ne _
      · unfold quoS; simp
theorem fmt_em (v : Vl) : (fmtV v).isEmpty = !vaB v := by
  rw [← fmt_ne v]; cases fmtV v <;> rfl

set_option maxRecDepth 100000 in
set_option maxHeartbeats 16000000 in
theorem formatsWalk (v : Vl) (hn0 : -9223372036854775808 ≤ v.n) (hn1 : v.n ≤ 9223372036854775807) (hl : v.s.length ≤ 140737488351232) (w : World) (hL : Laid w) :
    Calls Tryd.prog 5 #[.agg (vV v)] w fun e w' => e = .returned (.bool true) ∧ Below w.heap.size w w' := by
  simp only [vV]
  by_cases h3 : (300 : Int) < (v.s.length : Int)
  · skip
    have hb0 := ((Below.refl w.heap.size w).alloc (Nat.le_refl _) (.cells #[.int .i64 v.k, .int .i64 v.n, .string (bs v.s)] 23))
    have h_HX := (Bx.new w #[.int .i64 v.k, .int .i64 v.n, .string (bs v.s)] 23)
    have HB := Lib.hid hb0; have HX := Lib.hid h_HX
    clear hb0 h_HX
    go_enter Tryd.func5, Tryd.ntmps5
    go_upto_region 1 with (fail)
    generalize hW0 : w.alloc (.cells #[.int .i64 v.k, .int .i64 v.n, .string (bs v.s)] 23) = v0 at HB HX ⊢
    clear hW0
    have x0 : v0.cell? ⟨w.heap.size, 0, none⟩ = some (.int .i64 v.k) := HX.out.cell 0
    have x1 : v0.cell? ⟨w.heap.size, 1, none⟩ = some (.int .i64 v.n) := HX.out.cell 1
    have x2 : v0.cell? ⟨w.heap.size, 2, none⟩ = some (.string (bs v.s)) := HX.out.cell 2
    go_wp2_with fail
    refine (works_any _ (hL.below HB.out)).mono ?_
    rintro er w1 ⟨rfl, hb1⟩
    go_wp2
    go_ret
    exact ⟨rfl, btrans HB.out HB.out.size hb1⟩
  have hl6 : v.s.length ≤ 1000000 := by omega
  have hl7 : v.s.length ≤ 9223372036854775807 := by omega
  obtain ⟨t, ht⟩ : ∃ t, fmtV v = t := ⟨_, rfl⟩
  have q1 : (t == t) = true := by simp
  cases hb : vaB v with
  | false =>
    have q2 : t.isEmpty = true := by rw [← ht, fmt_em, hb]; rfl
    have HT := Lib.hid ht; have HV := Lib.hid hb; clear ht hb
    have hb0 := ((Below.refl w.heap.size w).alloc (Nat.le_refl _) (.cells #[.int .i64 v.k, .int .i64 v.n, .string (bs v.s)] 23))
    have h_HX := (Bx.new w #[.int .i64 v.k, .int .i64 v.n, .string (bs v.s)] 23)
    have HB := Lib.hid hb0; have HX := Lib.hid h_HX
    clear hb0 h_HX
    go_enter Tryd.func5, Tryd.ntmps5
    go_upto_region 1 with (fail)
    generalize hW0 : w.alloc (.cells #[.int .i64 v.k, .int .i64 v.n, .string (bs v.s)] 23) = v0 at HB HX ⊢
    clear hW0
    have x0 : v0.cell? ⟨w.heap.size, 0, none⟩ = some (.int .i64 v.k) := HX.out.cell 0
    have x1 : v0.cell? ⟨w.heap.size, 1, none⟩ = some (.int .i64 v.n) := HX.out.cell 1
    have x2 : v0.cell? ⟨w.heap.size, 2, none⟩ = some (.string (bs v.s)) := HX.out.cell 2
    go_upto_region 3 with (fail)
    clear x0 x1 x2
    have hs0 : Bx w.heap.size #[.int .i64 v.k, .int .i64 v.n, .string (bs v.s)] 23 v0.drew := HX.out
    have HS0 := Lib.hid hs0; clear hs0
    have hL4 := hL.below HB.out
    have HL4 := Lib.hid hL4; clear hL4
    go_wp2_with fail
    refine wp_region_held_drew (S := (fun w' => Bx w.heap.size #[.int .i64 v.k, .int .i64 v.n, .string (bs v.s)] 23 w')) (by kernel_rfl) ?_ (fun hHeld => ?_)
    · exact HS0.out
    have hc0 : Below v0.heap.size v0 v0.drew := (Below.refl v0.heap.size v0).drew
    refine takeH (i := 0) (v := ?vv1) 8 rfl rfl (by kernel_rfl) (by kernel_rfl) (by kernel_rfl) (fun _ _ _ h => h) (Or.inl ⟨by kernel_rfl, ?yy1⟩) (by assumption) ?_
    case yy1 =>
      intro wq hSw
      have c0_0 : wq.cell? ⟨w.heap.size, 0, none⟩ = some (.int .i64 v.k) := (hSw).cell 0
      have c0_1 : wq.cell? ⟨w.heap.size, 1, none⟩ = some (.int .i64 v.n) := (hSw).cell 1
      have c0_2 : wq.cell? ⟨w.heap.size, 2, none⟩ = some (.string (bs v.s)) := (hSw).cell 2
      clear hSw
      go_simp
      (try with_reducible rfl)
    simp only [List.setIfInBounds_toArray, List.set_cons_zero, List.set_cons_succ]
    refine takeH (i := 2) (v := ?vv2) 10 rfl rfl (by kernel_rfl) (by kernel_rfl) (by kernel_rfl) (fun _ _ _ h => h) (Or.inl ⟨by kernel_rfl, ?yy2⟩) (by assumption) ?_
    case yy2 =>
      intro wq hSw
      have c0_0 : wq.cell? ⟨w.heap.size, 0, none⟩ = some (.int .i64 v.k) := (hSw).cell 0
      have c0_1 : wq.cell? ⟨w.heap.size, 1, none⟩ = some (.int .i64 v.n) := (hSw).cell 1
      have c0_2 : wq.cell? ⟨w.heap.size, 2, none⟩ = some (.string (bs v.s)) := (hSw).cell 2
      clear hSw
      go_simp
      (try with_reducible rfl)
    simp only [List.setIfInBounds_toArray, List.set_cons_zero, List.set_cons_succ]
    refine wpAnyH_ready (rs := [1]) (by kernel_rfl) (by simp) ?_
    refine (AllReadyH.cons rfl (fun K hK => ?_) AllReadyH.nil)
    go_simp
    (refine (VFormat_any v hn0 hn1 hl6 _ (HL4.out.below hc0)).mono ?_; rw [HT.out]; rintro er u1 ⟨rfl, hb1⟩)
    (try go_wp2_with fail)
    refine hK.out _ _ ?_ (fun hHeld => ?_)
    · exact hHeld.call hb1
    clear hK K
    (try simp only [Act.put, List.setIfInBounds_toArray, List.set_cons_zero, List.set_cons_succ])
    have hc1 := btrans hc0 hc0.size hb1
    refine wpAnyH_ready (rs := [3]) (by kernel_rfl) (by simp) ?_
    refine (AllReadyH.cons rfl (fun K hK => ?_) AllReadyH.nil)
    go_simp
    (refine (RVFormat_any v hn0 hn1 hl6 _).mono ?_; rw [HT.out]; rintro er u2 ⟨rfl, hb2⟩)
    (try go_wp2_with fail)
    refine hK.out _ _ ?_ (fun hHeld => ?_)
    · exact hHeld.call hb2
    clear hK K
    (try simp only [Act.put, List.setIfInBounds_toArray, List.set_cons_zero, List.set_cons_succ])
    have hc2 := btrans hc1 hc1.size hb2
    refine takeH (i := 4) (v := ?vv3) 12 rfl rfl (by kernel_rfl) (by kernel_rfl) (by kernel_rfl) (fun _ _ _ h => h) (Or.inl ⟨by kernel_rfl, ?yy3⟩) (by assumption) ?_
    case yy3 => intro w hSw; (try dsimp only at hSw); go_simp; (try with_reducible rfl)
    simp only [List.setIfInBounds_toArray, List.set_cons_zero, List.set_cons_succ]
    refine takeH (i := 5) (v := ?vv4) 13 rfl rfl (by kernel_rfl) (by kernel_rfl) (by kernel_rfl) (fun _ _ _ h => h) (Or.inl ⟨by kernel_rfl, ?yy4⟩) (by assumption) ?_
    case yy4 => intro w hSw; (try dsimp only at hSw); go_simp; (try with_reducible rfl)
    simp only [List.setIfInBounds_toArray, List.set_cons_zero, List.set_cons_succ]
    refine takeH (i := 6) (v := ?vv5) 14 rfl rfl (by kernel_rfl) (by kernel_rfl) (by kernel_rfl) (fun _ _ _ h => h) (Or.inl ⟨by kernel_rfl, ?yy5⟩) (by assumption) ?_
    case yy5 =>
      intro wq hSw
      have c0_0 : wq.cell? ⟨w.heap.size, 0, none⟩ = some (.int .i64 v.k) := (hSw).cell 0
      have c0_1 : wq.cell? ⟨w.heap.size, 1, none⟩ = some (.int .i64 v.n) := (hSw).cell 1
      have c0_2 : wq.cell? ⟨w.heap.size, 2, none⟩ = some (.string (bs v.s)) := (hSw).cell 2
      clear hSw
      go_simp
      (try with_reducible rfl)
    simp only [List.setIfInBounds_toArray, List.set_cons_zero, List.set_cons_succ]
    refine takeH (i := 9) (v := ?vv6) 17 rfl rfl (by kernel_rfl) (by kernel_rfl) (by kernel_rfl) (fun _ _ _ h => h) (Or.inl ⟨by kernel_rfl, ?yy6⟩) (by assumption) ?_
    case yy6 =>
      intro wq hSw
      have c0_0 : wq.cell? ⟨w.heap.size, 0, none⟩ = some (.int .i64 v.k) := (hSw).cell 0
      have c0_1 : wq.cell? ⟨w.heap.size, 1, none⟩ = some (.int .i64 v.n) := (hSw).cell 1
      have c0_2 : wq.cell? ⟨w.heap.size, 2, none⟩ = some (.string (bs v.s)) := (hSw).cell 2
      clear hSw
      go_simp
      (try with_reducible rfl)
    simp only [List.setIfInBounds_toArray, List.set_cons_zero, List.set_cons_succ]
    refine wpAnyH_ready (rs := [7]) (by kernel_rfl) (by simp) ?_
    refine (AllReadyH.cons rfl (fun K hK => ?_) AllReadyH.nil)
    go_simp
    (refine (VFormat_any v hn0 hn1 hl6 _ (HL4.out.below hc2)).mono ?_; rw [HT.out]; rintro er u3 ⟨rfl, hb3⟩)
    (try go_wp2_with fail)
    refine hK.out _ _ ?_ (fun hHeld => ?_)
    · exact hHeld.call hb3
    clear hK K
    (try simp only [Act.put, List.setIfInBounds_toArray, List.set_cons_zero, List.set_cons_succ])
    have hc3 := btrans hc2 hc2.size hb3
    refine takeH (i := 8) (v := ?vv7) 16 rfl rfl (by kernel_rfl) (by kernel_rfl) (by kernel_rfl) (fun _ _ _ h => h) (Or.inl ⟨by kernel_rfl, ?yy7⟩) (by assumption) ?_
    case yy7 => intro w hSw; (try dsimp only at hSw); go_simp; (try with_reducible rfl)
    simp only [List.setIfInBounds_toArray, List.set_cons_zero, List.set_cons_succ]
    refine wpAnyH_ready (rs := [10]) (by kernel_rfl) (by simp) ?_
    refine (AllReadyH.cons rfl (fun K hK => ?_) AllReadyH.nil)
    go_simp
    (refine (RVValid_any v hl7 _).mono ?_; rw [HV.out]; rintro er u4 ⟨rfl, hb4⟩)
    (try go_wp2_with fail)
    refine hK.out _ _ ?_ (fun hHeld => ?_)
    · exact hHeld.call hb4
    clear hK K
    (try simp only [Act.put, List.setIfInBounds_toArray, List.set_cons_zero, List.set_cons_succ])
    have hc4 := btrans hc3 hc3.size hb4
    refine takeH (i := 11) (v := ?vv8) 19 rfl rfl (by kernel_rfl) (by kernel_rfl) (by kernel_rfl) (fun _ _ _ h => h) (Or.inl ⟨by kernel_rfl, ?yy8⟩) (by assumption) ?_
    case yy8 => intro w hSw; (try dsimp only at hSw); go_simp; (try with_reducible rfl)
    simp only [List.setIfInBounds_toArray, List.set_cons_zero, List.set_cons_succ]
    refine takeH (i := 12) (v := ?vv9) 20 rfl rfl (by kernel_rfl) (by kernel_rfl) (by kernel_rfl) (fun _ _ _ h => h) (Or.inl ⟨by kernel_rfl, ?yy9⟩) (by assumption) ?_
    case yy9 => intro w hSw; (try dsimp only at hSw); go_simp; (try with_reducible rfl)
    simp only [List.setIfInBounds_toArray, List.set_cons_zero, List.set_cons_succ]
    refine takeH (i := 13) (v := ?vv10) 21 rfl rfl (by kernel_rfl) (by kernel_rfl) (by kernel_rfl) (fun _ _ _ h => h) (Or.inl ⟨by kernel_rfl, ?yy10⟩) (by assumption) ?_
    case yy10 => intro w hSw; (try dsimp only at hSw); go_simp; (try with_reducible rfl)
    simp only [List.setIfInBounds_toArray, List.set_cons_zero, List.set_cons_succ]
    refine wpAnyH_ready (rs := [14]) (by kernel_rfl) (by simp) ?_
    refine (AllReadyH.cons rfl (fun K hK => ?_) AllReadyH.nil)
    go_simp
    (refine (works_any _ (HL4.out.below hc4)).mono ?_; rintro er u5 ⟨rfl, hb5⟩)
    (try go_wp2_with fail)
    refine hK.out _ _ ?_ (fun hHeld => ?_)
    · exact hHeld.call hb5
    clear hK K
    (try simp only [Act.put, List.setIfInBounds_toArray, List.set_cons_zero, List.set_cons_succ])
    have hc5 := btrans hc4 hc4.size hb5
    refine takeH (i := 15) (v := ?vv11) 23 rfl rfl (by kernel_rfl) (by kernel_rfl) (by kernel_rfl) (fun _ _ _ h => h) (Or.inl ⟨by kernel_rfl, ?yy11⟩) (by assumption) ?_
    case yy11 => intro w hSw; (try dsimp only at hSw); go_simp; (try with_reducible rfl)
    simp only [List.setIfInBounds_toArray, List.set_cons_zero, List.set_cons_succ]
    refine takeH (i := 16) (v := ?vv12) 2 rfl rfl (by kernel_rfl) (by kernel_rfl) (by kernel_rfl) (fun _ _ _ h => h) (Or.inl ⟨by kernel_rfl, ?yy12⟩) (by assumption) ?_
    case yy12 => intro w hSw; (try dsimp only at hSw); go_simp; (try with_reducible rfl)
    simp only [List.setIfInBounds_toArray, List.set_cons_zero, List.set_cons_succ]
    refine wpAnyH_done (by kernel_rfl) ?_ _
    go_wp2_with fail
    go_ret
    exact ⟨rfl, btrans HB.out HB.out.size hc5⟩
  | true =>
    have q2 : t.isEmpty = false := by rw [← ht, fmt_em, hb]; rfl
    have HT := Lib.hid ht; have HV := Lib.hid hb; clear ht hb
    have hb0 := ((Below.refl w.heap.size w).alloc (Nat.le_refl _) (.cells #[.int .i64 v.k, .int .i64 v.n, .string (bs v.s)] 23))
    have h_HX := (Bx.new w #[.int .i64 v.k, .int .i64 v.n, .string (bs v.s)] 23)
    have HB := Lib.hid hb0; have HX := Lib.hid h_HX
    clear hb0 h_HX
    go_enter Tryd.func5, Tryd.ntmps5
    go_upto_region 1 with (fail)
    generalize hW0 : w.alloc (.cells #[.int .i64 v.k, .int .i64 v.n, .string (bs v.s)] 23) = v0 at HB HX ⊢
    clear hW0
    have x0 : v0.cell? ⟨w.heap.size, 0, none⟩ = some (.int .i64 v.k) := HX.out.cell 0
    have x1 : v0.cell? ⟨w.heap.size, 1, none⟩ = some (.int .i64 v.n) := HX.out.cell 1
    have x2 : v0.cell? ⟨w.heap.size, 2, none⟩ = some (.string (bs v.s)) := HX.out.cell 2
    go_upto_region 3 with (fail)
    clear x0 x1 x2
    have hs0 : Bx w.heap.size #[.int .i64 v.k, .int .i64 v.n, .string (bs v.s)] 23 v0.drew := HX.out
    have HS0 := Lib.hid hs0; clear hs0
    have hL4 := hL.below HB.out
    have HL4 := Lib.hid hL4; clear hL4
    go_wp2_with fail
    refine wp_region_held_drew (S := (fun w' => Bx w.heap.size #[.int .i64 v.k, .int .i64 v.n, .string (bs v.s)] 23 w')) (by kernel_rfl) ?_ (fun hHeld => ?_)
    · exact HS0.out
    have hc0 : Below v0.heap.size v0 v0.drew := (Below.refl v0.heap.size v0).drew
    refine takeH (i := 0) (v := ?vv13) 8 rfl rfl (by kernel_rfl) (by kernel_rfl) (by kernel_rfl) (fun _ _ _ h => h) (Or.inl ⟨by kernel_rfl, ?yy13⟩) (by assumption) ?_
    case yy13 =>
      intro wq hSw
      have c0_0 : wq.cell? ⟨w.heap.size, 0, none⟩ = some (.int .i64 v.k) := (hSw).cell 0
      have c0_1 : wq.cell? ⟨w.heap.size, 1, none⟩ = some (.int .i64 v.n) := (hSw).cell 1
      have c0_2 : wq.cell? ⟨w.heap.size, 2, none⟩ = some (.string (bs v.s)) := (hSw).cell 2
      clear hSw
      go_simp
      (try with_reducible rfl)
    simp only [List.setIfInBounds_toArray, List.set_cons_zero, List.set_cons_succ]
    refine takeH (i := 2) (v := ?vv14) 10 rfl rfl (by kernel_rfl) (by kernel_rfl) (by kernel_rfl) (fun _ _ _ h => h) (Or.inl ⟨by kernel_rfl, ?yy14⟩) (by assumption) ?_
    case yy14 =>
      intro wq hSw
      have c0_0 : wq.cell? ⟨w.heap.size, 0, none⟩ = some (.int .i64 v.k) := (hSw).cell 0
      have c0_1 : wq.cell? ⟨w.heap.size, 1, none⟩ = some (.int .i64 v.n) := (hSw).cell 1
      have c0_2 : wq.cell? ⟨w.heap.size, 2, none⟩ = some (.string (bs v.s)) := (hSw).cell 2
      clear hSw
      go_simp
      (try with_reducible rfl)
    simp only [List.setIfInBounds_toArray, List.set_cons_zero, List.set_cons_succ]
    refine wpAnyH_ready (rs := [1]) (by kernel_rfl) (by simp) ?_
    refine (AllReadyH.cons rfl (fun K hK => ?_) AllReadyH.nil)
    go_simp
    (refine (VFormat_any v hn0 hn1 hl6 _ (HL4.out.below hc0)).mono ?_; rw [HT.out]; rintro er u1 ⟨rfl, hb1⟩)
    (try go_wp2_with fail)
    refine hK.out _ _ ?_ (fun hHeld => ?_)
    · exact hHeld.call hb1
    clear hK K
    (try simp only [Act.put, List.setIfInBounds_toArray, List.set_cons_zero, List.set_cons_succ])
    have hc1 := btrans hc0 hc0.size hb1
    refine wpAnyH_ready (rs := [3]) (by kernel_rfl) (by simp) ?_
    refine (AllReadyH.cons rfl (fun K hK => ?_) AllReadyH.nil)
    go_simp
    (refine (RVFormat_any v hn0 hn1 hl6 _).mono ?_; rw [HT.out]; rintro er u2 ⟨rfl, hb2⟩)
    (try go_wp2_with fail)
    refine hK.out _ _ ?_ (fun hHeld => ?_)
    · exact hHeld.call hb2
    clear hK K
    (try simp only [Act.put, List.setIfInBounds_toArray, List.set_cons_zero, List.set_cons_succ])
    have hc2 := btrans hc1 hc1.size hb2
    refine takeH (i := 4) (v := ?vv15) 12 rfl rfl (by kernel_rfl) (by kernel_rfl) (by kernel_rfl) (fun _ _ _ h => h) (Or.inl ⟨by kernel_rfl, ?yy15⟩) (by assumption) ?_
    case yy15 => intro w hSw; (try dsimp only at hSw); go_simp; (try with_reducible rfl)
    simp only [List.setIfInBounds_toArray, List.set_cons_zero, List.set_cons_succ]
    refine takeH (i := 5) (v := ?vv16) 13 rfl rfl (by kernel_rfl) (by kernel_rfl) (by kernel_rfl) (fun _ _ _ h => h) (Or.inl ⟨by kernel_rfl, ?yy16⟩) (by assumption) ?_
    case yy16 => intro w hSw; (try dsimp only at hSw); go_simp; (try with_reducible rfl)
    simp only [List.setIfInBounds_toArray, List.set_cons_zero, List.set_cons_succ]
    refine takeH (i := 6) (v := ?vv17) 14 rfl rfl (by kernel_rfl) (by kernel_rfl) (by kernel_rfl) (fun _ _ _ h => h) (Or.inl ⟨by kernel_rfl, ?yy17⟩) (by assumption) ?_
    case yy17 =>
      intro wq hSw
      have c0_0 : wq.cell? ⟨w.heap.size, 0, none⟩ = some (.int .i64 v.k) := (hSw).cell 0
      have c0_1 : wq.cell? ⟨w.heap.size, 1, none⟩ = some (.int .i64 v.n) := (hSw).cell 1
      have c0_2 : wq.cell? ⟨w.heap.size, 2, none⟩ = some (.string (bs v.s)) := (hSw).cell 2
      clear hSw
      go_simp
      (try with_reducible rfl)
    simp only [List.setIfInBounds_toArray, List.set_cons_zero, List.set_cons_succ]
    refine takeH (i := 9) (v := ?vv18) 17 rfl rfl (by kernel_rfl) (by kernel_rfl) (by kernel_rfl) (fun _ _ _ h => h) (Or.inl ⟨by kernel_rfl, ?yy18⟩) (by assumption) ?_
    case yy18 =>
      intro wq hSw
      have c0_0 : wq.cell? ⟨w.heap.size, 0, none⟩ = some (.int .i64 v.k) := (hSw).cell 0
      have c0_1 : wq.cell? ⟨w.heap.size, 1, none⟩ = some (.int .i64 v.n) := (hSw).cell 1
      have c0_2 : wq.cell? ⟨w.heap.size, 2, none⟩ = some (.string (bs v.s)) := (hSw).cell 2
      clear hSw
      go_simp
      (try with_reducible rfl)
    simp only [List.setIfInBounds_toArray, List.set_cons_zero, List.set_cons_succ]
    refine wpAnyH_ready (rs := [7]) (by kernel_rfl) (by simp) ?_
    refine (AllReadyH.cons rfl (fun K hK => ?_) AllReadyH.nil)
    go_simp
    (refine (VFormat_any v hn0 hn1 hl6 _ (HL4.out.below hc2)).mono ?_; rw [HT.out]; rintro er u3 ⟨rfl, hb3⟩)
    (try go_wp2_with fail)
    refine hK.out _ _ ?_ (fun hHeld => ?_)
    · exact hHeld.call hb3
    clear hK K
    (try simp only [Act.put, List.setIfInBounds_toArray, List.set_cons_zero, List.set_cons_succ])
    have hc3 := btrans hc2 hc2.size hb3
    refine takeH (i := 8) (v := ?vv19) 16 rfl rfl (by kernel_rfl) (by kernel_rfl) (by kernel_rfl) (fun _ _ _ h => h) (Or.inl ⟨by kernel_rfl, ?yy19⟩) (by assumption) ?_
    case yy19 => intro w hSw; (try dsimp only at hSw); go_simp; (try with_reducible rfl)
    simp only [List.setIfInBounds_toArray, List.set_cons_zero, List.set_cons_succ]
    refine wpAnyH_ready (rs := [10]) (by kernel_rfl) (by simp) ?_
    refine (AllReadyH.cons rfl (fun K hK => ?_) AllReadyH.nil)
    go_simp
    (refine (RVValid_any v hl7 _).mono ?_; rw [HV.out]; rintro er u4 ⟨rfl, hb4⟩)
    (try go_wp2_with fail)
    refine hK.out _ _ ?_ (fun hHeld => ?_)
    · exact hHeld.call hb4
    clear hK K
    (try simp only [Act.put, List.setIfInBounds_toArray, List.set_cons_zero, List.set_cons_succ])
    have hc4 := btrans hc3 hc3.size hb4
    refine takeH (i := 11) (v := ?vv20) 19 rfl rfl (by kernel_rfl) (by kernel_rfl) (by kernel_rfl) (fun _ _ _ h => h) (Or.inl ⟨by kernel_rfl, ?yy20⟩) (by assumption) ?_
    case yy20 => intro w hSw; (try dsimp only at hSw); go_simp; (try with_reducible rfl)
    simp only [List.setIfInBounds_toArray, List.set_cons_zero, List.set_cons_succ]
    refine takeH (i := 12) (v := ?vv21) 20 rfl rfl (by kernel_rfl) (by kernel_rfl) (by kernel_rfl) (fun _ _ _ h => h) (Or.inl ⟨by kernel_rfl, ?yy21⟩) (by assumption) ?_
    case yy21 => intro w hSw; (try dsimp only at hSw); go_simp; (try with_reducible rfl)
    simp only [List.setIfInBounds_toArray, List.set_cons_zero, List.set_cons_succ]
    refine takeH (i := 13) (v := ?vv22) 21 rfl rfl (by kernel_rfl) (by kernel_rfl) (by kernel_rfl) (fun _ _ _ h => h) (Or.inl ⟨by kernel_rfl, ?yy22⟩) (by assumption) ?_
    case yy22 => intro w hSw; (try dsimp only at hSw); go_simp; (try with_reducible rfl)
    simp only [List.setIfInBounds_toArray, List.set_cons_zero, List.set_cons_succ]
    refine wpAnyH_ready (rs := [14]) (by kernel_rfl) (by simp) ?_
    refine (AllReadyH.cons rfl (fun K hK => ?_) AllReadyH.nil)
    go_simp
    (refine (works_any _ (HL4.out.below hc4)).mono ?_; rintro er u5 ⟨rfl, hb5⟩)
    (try go_wp2_with fail)
    refine hK.out _ _ ?_ (fun hHeld => ?_)
    · exact hHeld.call hb5
    clear hK K
    (try simp only [Act.put, List.setIfInBounds_toArray, List.set_cons_zero, List.set_cons_succ])
    have hc5 := btrans hc4 hc4.size hb5
    refine takeH (i := 15) (v := ?vv23) 23 rfl rfl (by kernel_rfl) (by kernel_rfl) (by kernel_rfl) (fun _ _ _ h => h) (Or.inl ⟨by kernel_rfl, ?yy23⟩) (by assumption) ?_
    case yy23 => intro w hSw; (try dsimp only at hSw); go_simp; (try with_reducible rfl)
    simp only [List.setIfInBounds_toArray, List.set_cons_zero, List.set_cons_succ]
    refine takeH (i := 16) (v := ?vv24) 2 rfl rfl (by kernel_rfl) (by kernel_rfl) (by kernel_rfl) (fun _ _ _ h => h) (Or.inl ⟨by kernel_rfl, ?yy24⟩) (by assumption) ?_
    case yy24 => intro w hSw; (try dsimp only at hSw); go_simp; (try with_reducible rfl)
    simp only [List.setIfInBounds_toArray, List.set_cons_zero, List.set_cons_succ]
    refine wpAnyH_done (by kernel_rfl) ?_ _
    go_wp2_with fail
    go_ret
    exact ⟨rfl, btrans HB.out HB.out.size hc5⟩
end Go.Proofs.YtmffdoblpkjmjaaDoor
