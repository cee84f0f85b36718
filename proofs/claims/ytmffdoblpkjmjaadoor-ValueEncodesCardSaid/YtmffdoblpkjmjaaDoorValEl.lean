/- The walk of ValueEncodes. No conditions. -/
import Derived.Test.YtmffdoblpkjmjaaDoorValN
import Derived.Test.YtmffdoblpkjmjaaDoorValI
namespace Go.Proofs.YtmffdoblpkjmjaaDoor
open Go.RowKit

set_option maxRecDepth 100000 in
set_option maxHeartbeats 16000000 in
theorem encodesWalk5 (v : Vl) (hn0 : -9223372036854775808 ≤ v.n) (hn1 : v.n ≤ 9223372036854775807) (hl : v.s.length ≤ 140737488351232) (w : World) (hL : Laid w) :
    Calls Tryd.prog 7 #[.agg (vV v)] w fun e w' => e = .returned (.bool true) ∧ Below w.heap.size w w' := by
  simp only [vV]
  by_cases h3 : (300 : Int) < (v.s.length : Int)
  · skip
    have hb0 := ((Below.refl w.heap.size w).alloc (Nat.le_refl _) (.cells #[.int .i64 v.k, .int .i64 v.n, .string (bs v.s)] 23))
    have h_HX := (Bx.new w #[.int .i64 v.k, .int .i64 v.n, .string (bs v.s)] 23)
    have HB := Lib.hid hb0; have HX := Lib.hid h_HX
    clear hb0 h_HX
    go_enter Tryd.func7, Tryd.ntmps7
    go_upto_region 1 with (fail)
    generalize hW0 : w.alloc (.cells #[.int .i64 v.k, .int .i64 v.n, .string (bs v.s)] 23) = v0 at HB HX ⊢
    clear hW0
    have x0 : v0.cell? ⟨w.heap.size, 0, none⟩ = some (.int .i64 v.k) := HX.out.cell 0
    have x1 : v0.cell? ⟨w.heap.size, 1, none⟩ = some (.int .i64 v.n) := HX.out.cell 1
    have x2 : v0.cell? ⟨w.heap.size, 2, none⟩ = some (.string (bs v.s)) := HX.out.cell 2
    go_wp2_with fail
    refine (works_any _ (hL.below HB.out)).mono ?_
    rintro er w1 ⟨rfl, hb1⟩
    go_wp2
    go_ret
    exact ⟨rfl, btrans HB.out HB.out.size hb1⟩
  have hl6 : v.s.length ≤ 1000000 := by omega
  obtain ⟨t, ht⟩ : ∃ t, encV v = t := ⟨_, rfl⟩
  have q1 : (t == t) = true := by simp
  have HT := Lib.hid ht; clear ht
  have hb0 := ((Below.refl w.heap.size w).alloc (Nat.le_refl _) (.cells #[.int .i64 v.k, .int .i64 v.n, .string (bs v.s)] 23))
  have h_HX := (Bx.new w #[.int .i64 v.k, .int .i64 v.n, .string (bs v.s)] 23)
  have HB := Lib.hid hb0; have HX := Lib.hid h_HX
  clear hb0 h_HX
  go_enter Tryd.func7, Tryd.ntmps7
  go_upto_region 1 with (fail)
  generalize hW0 : w.alloc (.cells #[.int .i64 v.k, .int .i64 v.n, .string (bs v.s)] 23) = v0 at HB HX ⊢
  clear hW0
  have x0 : v0.cell? ⟨w.heap.size, 0, none⟩ = some (.int .i64 v.k) := HX.out.cell 0
  have x1 : v0.cell? ⟨w.heap.size, 1, none⟩ = some (.int .i64 v.n) := HX.out.cell 1
  have x2 : v0.cell? ⟨w.heap.size, 2, none⟩ = some (.string (bs v.s)) := HX.out.cell 2
  go_upto_region 3 with (fail)
  clear x0 x1 x2
  have hs0 : Bx w.heap.size #[.int .i64 v.k, .int .i64 v.n, .string (bs v.s)] 23 v0.drew := HX.out
  have HS0 := Lib.hid hs0; clear hs0
  have hL4 := hL.below HB.out
  have HL4 := Lib.hid hL4; clear hL4
  go_wp2_with fail
  refine wp_region_held_drew (S := (fun w' => Bx w.heap.size #[.int .i64 v.k, .int .i64 v.n, .string (bs v.s)] 23 w')) (by kernel_rfl) ?_ (fun hHeld => ?_)
  · exact HS0.out
  have hc0 : Below v0.heap.size v0 v0.drew := (Below.refl v0.heap.size v0).drew
  refine takeH (i := 0) (v := ?vv1) 8 rfl rfl (by kernel_rfl) (by kernel_rfl) (by kernel_rfl) (fun _ _ _ h => h) (Or.inl ⟨by kernel_rfl, ?yy1⟩) (by assumption) ?_
  case yy1 =>
    intro wq hSw
    have c0_0 : wq.cell? ⟨w.heap.size, 0, none⟩ = some (.int .i64 v.k) := (hSw).cell 0
    have c0_1 : wq.cell? ⟨w.heap.size, 1, none⟩ = some (.int .i64 v.n) := (hSw).cell 1
    have c0_2 : wq.cell? ⟨w.heap.size, 2, none⟩ = some (.string (bs v.s)) := (hSw).cell 2
    clear hSw
    go_simp
    (try with_reducible rfl)
  simp only [List.setIfInBounds_toArray, List.set_cons_zero, List.set_cons_succ]
  refine takeH (i := 2) (v := ?vv2) 10 rfl rfl (by kernel_rfl) (by kernel_rfl) (by kernel_rfl) (fun _ _ _ h => h) (Or.inl ⟨by kernel_rfl, ?yy2⟩) (by assumption) ?_
  case yy2 =>
    intro wq hSw
    have c0_0 : wq.cell? ⟨w.heap.size, 0, none⟩ = some (.int .i64 v.k) := (hSw).cell 0
    have c0_1 : wq.cell? ⟨w.heap.size, 1, none⟩ = some (.int .i64 v.n) := (hSw).cell 1
    have c0_2 : wq.cell? ⟨w.heap.size, 2, none⟩ = some (.string (bs v.s)) := (hSw).cell 2
    clear hSw
    go_simp
    (try with_reducible rfl)
  simp only [List.setIfInBounds_toArray, List.set_cons_zero, List.set_cons_succ]
  refine wpAnyH_ready (rs := [1]) (by kernel_rfl) (by simp) ?_
  refine (AllReadyH.cons rfl (fun K hK => ?_) AllReadyH.nil)
  go_simp
  (refine (VEncode_any v hn0 hn1 hl6 _).mono ?_; rw [HT.out]; rintro er u1 ⟨rfl, hb1⟩)
  (try go_wp2_with fail)
  refine hK.out _ _ ?_ (fun hHeld => ?_)
  · exact hHeld.call hb1
  clear hK K
  (try simp only [Act.put, List.setIfInBounds_toArray, List.set_cons_zero, List.set_cons_succ])
  have hc1 := btrans hc0 hc0.size hb1
  refine wpAnyH_ready (rs := [3]) (by kernel_rfl) (by simp) ?_
  refine (AllReadyH.cons rfl (fun K hK => ?_) AllReadyH.nil)
  go_simp
  (refine (RVEncode_any v hn0 hn1 hl6 _).mono ?_; rw [HT.out]; rintro er u2 ⟨rfl, hb2⟩)
  (try go_wp2_with fail)
  refine hK.out _ _ ?_ (fun hHeld => ?_)
  · exact hHeld.call hb2
  clear hK K
  (try simp only [Act.put, List.setIfInBounds_toArray, List.set_cons_zero, List.set_cons_succ])
  have hc2 := btrans hc1 hc1.size hb2
  refine takeH (i := 4) (v := ?vv3) 12 rfl rfl (by kernel_rfl) (by kernel_rfl) (by kernel_rfl) (fun _ _ _ h => h) (Or.inl ⟨by kernel_rfl, ?yy3⟩) (by assumption) ?_
  case yy3 => intro w hSw; (try dsimp only at hSw); go_simp; (try with_reducible rfl)
  simp only [List.setIfInBounds_toArray, List.set_cons_zero, List.set_cons_succ]
  refine takeH (i := 5) (v := ?vv4) 13 rfl rfl (by kernel_rfl) (by kernel_rfl) (by kernel_rfl) (fun _ _ _ h => h) (Or.inl ⟨by kernel_rfl, ?yy4⟩) (by assumption) ?_
  case yy4 => intro w hSw; (try dsimp only at hSw); go_simp; (try with_reducible rfl)
  simp only [List.setIfInBounds_toArray, List.set_cons_zero, List.set_cons_succ]
  refine wpAnyH_ready (rs := [6]) (by kernel_rfl) (by simp) ?_
  refine (AllReadyH.cons rfl (fun K hK => ?_) AllReadyH.nil)
  go_simp
  (refine (works_any _ (HL4.out.below hc2)).mono ?_; rintro er u3 ⟨rfl, hb3⟩)
  (try go_wp2_with fail)
  refine hK.out _ _ ?_ (fun hHeld => ?_)
  · exact hHeld.call hb3
  clear hK K
  (try simp only [Act.put, List.setIfInBounds_toArray, List.set_cons_zero, List.set_cons_succ])
  have hc3 := btrans hc2 hc2.size hb3
  refine takeH (i := 7) (v := ?vv5) 15 rfl rfl (by kernel_rfl) (by kernel_rfl) (by kernel_rfl) (fun _ _ _ h => h) (Or.inl ⟨by kernel_rfl, ?yy5⟩) (by assumption) ?_
  case yy5 => intro w hSw; (try dsimp only at hSw); go_simp; (try with_reducible rfl)
  simp only [List.setIfInBounds_toArray, List.set_cons_zero, List.set_cons_succ]
  refine takeH (i := 8) (v := ?vv6) 2 rfl rfl (by kernel_rfl) (by kernel_rfl) (by kernel_rfl) (fun _ _ _ h => h) (Or.inl ⟨by kernel_rfl, ?yy6⟩) (by assumption) ?_
  case yy6 => intro w hSw; (try dsimp only at hSw); go_simp; (try with_reducible rfl)
  simp only [List.setIfInBounds_toArray, List.set_cons_zero, List.set_cons_succ]
  refine wpAnyH_done (by kernel_rfl) ?_ _
  go_wp2_with fail
  go_ret
  exact ⟨rfl, btrans HB.out HB.out.size hc3⟩
end Go.Proofs.YtmffdoblpkjmjaaDoor
