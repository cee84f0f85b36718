/- The walk of ValueCompares. No conditions. -/
import Derived.Test.YtmffdoblpkjmjaaDoorValL
import Derived.Test.YtmffdoblpkjmjaaDoorValI
namespace Go.Proofs.YtmffdoblpkjmjaaDoor
open Go.RowKit

theorem neg_small (x : Int) (h0 : -1 ≤ x) (h1 : x ≤ 1) : IntKind.i64.wrap (-x) = -x := by rw [IntKind.wrap_i64]; omega
theorem vl_ext (a b : Vl) : a = b ↔ a.k = b.k ∧ a.n = b.n ∧ a.s = b.s := by cases a; cases b; simp

set_option maxRecDepth 100000 in
set_option maxHeartbeats 32000000 in
theorem comparesWalk5 (a : Vl) (_ : -9223372036854775808 ≤ a.n) (_ : a.n ≤ 9223372036854775807) (_ : a.s.length ≤ 140737488351232) (b : Vl) (_ : -9223372036854775808 ≤ b.n) (_ : b.n ≤ 9223372036854775807) (_ : b.s.length ≤ 140737488351232) (c : Vl) (_ : -9223372036854775808 ≤ c.n) (_ : c.n ≤ 9223372036854775807) (_ : c.s.length ≤ 140737488351232) (w : World) (hL : Laid w) :
    Calls Tryd.prog 4 #[.agg (vV a), .agg (vV b), .agg (vV c)] w fun e w' => e = .returned (.bool true) ∧ Below w.heap.size w w' := by
  simp only [vV]
  by_cases h3a : (300 : Int) < (a.s.length : Int)
  · skip
    have hb0 := ((((Below.refl w.heap.size w).alloc (Nat.le_refl _) (.cells #[.int .i64 a.k, .int .i64 a.n, .string (bs a.s)] 23)).alloc (by simp) (.cells #[.int .i64 b.k, .int .i64 b.n, .string (bs b.s)] 23)).alloc (by simp; try omega) (.cells #[.int .i64 c.k, .int .i64 c.n, .string (bs c.s)] 23))
    have h_HX := (((Bx.new w #[.int .i64 a.k, .int .i64 a.n, .string (bs a.s)] 23).alloc (.cells #[.int .i64 b.k, .int .i64 b.n, .string (bs b.s)] 23)).alloc (.cells #[.int .i64 c.k, .int .i64 c.n, .string (bs c.s)] 23))
    have h_HY := ((Bx.new (w.alloc (.cells #[.int .i64 a.k, .int .i64 a.n, .string (bs a.s)] 23)) #[.int .i64 b.k, .int .i64 b.n, .string (bs b.s)] 23).alloc (.cells #[.int .i64 c.k, .int .i64 c.n, .string (bs c.s)] 23))
    rw [show (w.alloc (.cells #[.int .i64 a.k, .int .i64 a.n, .string (bs a.s)] 23)).heap.size = w.heap.size + 1 by simp] at h_HY
    have h_HZ := (Bx.new ((w.alloc (.cells #[.int .i64 a.k, .int .i64 a.n, .string (bs a.s)] 23)).alloc (.cells #[.int .i64 b.k, .int .i64 b.n, .string (bs b.s)] 23)) #[.int .i64 c.k, .int .i64 c.n, .string (bs c.s)] 23)
    rw [show ((w.alloc (.cells #[.int .i64 a.k, .int .i64 a.n, .string (bs a.s)] 23)).alloc (.cells #[.int .i64 b.k, .int .i64 b.n, .string (bs b.s)] 23)).heap.size = w.heap.size + 2 by simp] at h_HZ
    have HB := Lib.hid hb0; have HX := Lib.hid h_HX; have HY := Lib.hid h_HY; have HZ := Lib.hid h_HZ
    clear hb0 h_HX h_HY h_HZ
    go_enter Tryd.func4, Tryd.ntmps4
    go_upto_region 1 with (fail)
    generalize hW0 : ((w.alloc (.cells #[.int .i64 a.k, .int .i64 a.n, .string (bs a.s)] 23)).alloc (.cells #[.int .i64 b.k, .int .i64 b.n, .string (bs b.s)] 23)).alloc (.cells #[.int .i64 c.k, .int .i64 c.n, .string (bs c.s)] 23) = v0 at HB HX HY HZ ⊢
    clear hW0
    have x0 : v0.cell? ⟨w.heap.size, 0, none⟩ = some (.int .i64 a.k) := HX.out.cell 0
    have x1 : v0.cell? ⟨w.heap.size, 1, none⟩ = some (.int .i64 a.n) := HX.out.cell 1
    have x2 : v0.cell? ⟨w.heap.size, 2, none⟩ = some (.string (bs a.s)) := HX.out.cell 2
    have y0 : v0.cell? ⟨(w.heap.size + 1), 0, none⟩ = some (.int .i64 b.k) := HY.out.cell 0
    have y1 : v0.cell? ⟨(w.heap.size + 1), 1, none⟩ = some (.int .i64 b.n) := HY.out.cell 1
    have y2 : v0.cell? ⟨(w.heap.size + 1), 2, none⟩ = some (.string (bs b.s)) := HY.out.cell 2
    have z0 : v0.cell? ⟨(w.heap.size + 2), 0, none⟩ = some (.int .i64 c.k) := HZ.out.cell 0
    have z1 : v0.cell? ⟨(w.heap.size + 2), 1, none⟩ = some (.int .i64 c.n) := HZ.out.cell 1
    have z2 : v0.cell? ⟨(w.heap.size + 2), 2, none⟩ = some (.string (bs c.s)) := HZ.out.cell 2
    go_wp2_with fail
    refine (works_any _ (hL.below HB.out)).mono ?_
    rintro er w1 ⟨rfl, hb1⟩
    go_wp2
    go_ret
    exact ⟨rfl, btrans HB.out HB.out.size hb1⟩
  by_cases h3b : (300 : Int) < (b.s.length : Int)
  · skip
    have hb0 := ((((Below.refl w.heap.size w).alloc (Nat.le_refl _) (.cells #[.int .i64 a.k, .int .i64 a.n, .string (bs a.s)] 23)).alloc (by simp) (.cells #[.int .i64 b.k, .int .i64 b.n, .string (bs b.s)] 23)).alloc (by simp; try omega) (.cells #[.int .i64 c.k, .int .i64 c.n, .string (bs c.s)] 23))
    have h_HX := (((Bx.new w #[.int .i64 a.k, .int .i64 a.n, .string (bs a.s)] 23).alloc (.cells #[.int .i64 b.k, .int .i64 b.n, .string (bs b.s)] 23)).alloc (.cells #[.int .i64 c.k, .int .i64 c.n, .string (bs c.s)] 23))
    have h_HY := ((Bx.new (w.alloc (.cells #[.int .i64 a.k, .int .i64 a.n, .string (bs a.s)] 23)) #[.int .i64 b.k, .int .i64 b.n, .string (bs b.s)] 23).alloc (.cells #[.int .i64 c.k, .int .i64 c.n, .string (bs c.s)] 23))
    rw [show (w.alloc (.cells #[.int .i64 a.k, .int .i64 a.n, .string (bs a.s)] 23)).heap.size = w.heap.size + 1 by simp] at h_HY
    have h_HZ := (Bx.new ((w.alloc (.cells #[.int .i64 a.k, .int .i64 a.n, .string (bs a.s)] 23)).alloc (.cells #[.int .i64 b.k, .int .i64 b.n, .string (bs b.s)] 23)) #[.int .i64 c.k, .int .i64 c.n, .string (bs c.s)] 23)
    rw [show ((w.alloc (.cells #[.int .i64 a.k, .int .i64 a.n, .string (bs a.s)] 23)).alloc (.cells #[.int .i64 b.k, .int .i64 b.n, .string (bs b.s)] 23)).heap.size = w.heap.size + 2 by simp] at h_HZ
    have HB := Lib.hid hb0; have HX := Lib.hid h_HX; have HY := Lib.hid h_HY; have HZ := Lib.hid h_HZ
    clear hb0 h_HX h_HY h_HZ
    go_enter Tryd.func4, Tryd.ntmps4
    go_upto_region 1 with (fail)
    generalize hW0 : ((w.alloc (.cells #[.int .i64 a.k, .int .i64 a.n, .string (bs a.s)] 23)).alloc (.cells #[.int .i64 b.k, .int .i64 b.n, .string (bs b.s)] 23)).alloc (.cells #[.int .i64 c.k, .int .i64 c.n, .string (bs c.s)] 23) = v0 at HB HX HY HZ ⊢
    clear hW0
    have x0 : v0.cell? ⟨w.heap.size, 0, none⟩ = some (.int .i64 a.k) := HX.out.cell 0
    have x1 : v0.cell? ⟨w.heap.size, 1, none⟩ = some (.int .i64 a.n) := HX.out.cell 1
    have x2 : v0.cell? ⟨w.heap.size, 2, none⟩ = some (.string (bs a.s)) := HX.out.cell 2
    have y0 : v0.cell? ⟨(w.heap.size + 1), 0, none⟩ = some (.int .i64 b.k) := HY.out.cell 0
    have y1 : v0.cell? ⟨(w.heap.size + 1), 1, none⟩ = some (.int .i64 b.n) := HY.out.cell 1
    have y2 : v0.cell? ⟨(w.heap.size + 1), 2, none⟩ = some (.string (bs b.s)) := HY.out.cell 2
    have z0 : v0.cell? ⟨(w.heap.size + 2), 0, none⟩ = some (.int .i64 c.k) := HZ.out.cell 0
    have z1 : v0.cell? ⟨(w.heap.size + 2), 1, none⟩ = some (.int .i64 c.n) := HZ.out.cell 1
    have z2 : v0.cell? ⟨(w.heap.size + 2), 2, none⟩ = some (.string (bs c.s)) := HZ.out.cell 2
    go_wp2_with fail
    refine (works_any _ (hL.below HB.out)).mono ?_
    rintro er w1 ⟨rfl, hb1⟩
    go_wp2
    go_ret
    exact ⟨rfl, btrans HB.out HB.out.size hb1⟩
  by_cases h3c : (300 : Int) < (c.s.length : Int)
  · skip
    have hb0 := ((((Below.refl w.heap.size w).alloc (Nat.le_refl _) (.cells #[.int .i64 a.k, .int .i64 a.n, .string (bs a.s)] 23)).alloc (by simp) (.cells #[.int .i64 b.k, .int .i64 b.n, .string (bs b.s)] 23)).alloc (by simp; try omega) (.cells #[.int .i64 c.k, .int .i64 c.n, .string (bs c.s)] 23))
    have h_HX := (((Bx.new w #[.int .i64 a.k, .int .i64 a.n, .string (bs a.s)] 23).alloc (.cells #[.int .i64 b.k, .int .i64 b.n, .string (bs b.s)] 23)).alloc (.cells #[.int .i64 c.k, .int .i64 c.n, .string (bs c.s)] 23))
    have h_HY := ((Bx.new (w.alloc (.cells #[.int .i64 a.k, .int .i64 a.n, .string (bs a.s)] 23)) #[.int .i64 b.k, .int .i64 b.n, .string (bs b.s)] 23).alloc (.cells #[.int .i64 c.k, .int .i64 c.n, .string (bs c.s)] 23))
    rw [show (w.alloc (.cells #[.int .i64 a.k, .int .i64 a.n, .string (bs a.s)] 23)).heap.size = w.heap.size + 1 by simp] at h_HY
    have h_HZ := (Bx.new ((w.alloc (.cells #[.int .i64 a.k, .int .i64 a.n, .string (bs a.s)] 23)).alloc (.cells #[.int .i64 b.k, .int .i64 b.n, .string (bs b.s)] 23)) #[.int .i64 c.k, .int .i64 c.n, .string (bs c.s)] 23)
    rw [show ((w.alloc (.cells #[.int .i64 a.k, .int .i64 a.n, .string (bs a.s)] 23)).alloc (.cells #[.int .i64 b.k, .int .i64 b.n, .string (bs b.s)] 23)).heap.size = w.heap.size + 2 by simp] at h_HZ
    have HB := Lib.hid hb0; have HX := Lib.hid h_HX; have HY := Lib.hid h_HY; have HZ := Lib.hid h_HZ
    clear hb0 h_HX h_HY h_HZ
    go_enter Tryd.func4, Tryd.ntmps4
    go_upto_region 1 with (fail)
    generalize hW0 : ((w.alloc (.cells #[.int .i64 a.k, .int .i64 a.n, .string (bs a.s)] 23)).alloc (.cells #[.int .i64 b.k, .int .i64 b.n, .string (bs b.s)] 23)).alloc (.cells #[.int .i64 c.k, .int .i64 c.n, .string (bs c.s)] 23) = v0 at HB HX HY HZ ⊢
    clear hW0
    have x0 : v0.cell? ⟨w.heap.size, 0, none⟩ = some (.int .i64 a.k) := HX.out.cell 0
    have x1 : v0.cell? ⟨w.heap.size, 1, none⟩ = some (.int .i64 a.n) := HX.out.cell 1
    have x2 : v0.cell? ⟨w.heap.size, 2, none⟩ = some (.string (bs a.s)) := HX.out.cell 2
    have y0 : v0.cell? ⟨(w.heap.size + 1), 0, none⟩ = some (.int .i64 b.k) := HY.out.cell 0
    have y1 : v0.cell? ⟨(w.heap.size + 1), 1, none⟩ = some (.int .i64 b.n) := HY.out.cell 1
    have y2 : v0.cell? ⟨(w.heap.size + 1), 2, none⟩ = some (.string (bs b.s)) := HY.out.cell 2
    have z0 : v0.cell? ⟨(w.heap.size + 2), 0, none⟩ = some (.int .i64 c.k) := HZ.out.cell 0
    have z1 : v0.cell? ⟨(w.heap.size + 2), 1, none⟩ = some (.int .i64 c.n) := HZ.out.cell 1
    have z2 : v0.cell? ⟨(w.heap.size + 2), 2, none⟩ = some (.string (bs c.s)) := HZ.out.cell 2
    go_wp2_with fail
    refine (works_any _ (hL.below HB.out)).mono ?_
    rintro er w1 ⟨rfl, hb1⟩
    go_wp2
    go_ret
    exact ⟨rfl, btrans HB.out HB.out.size hb1⟩
  obtain ⟨x, hx⟩ : ∃ x, cmpV a b = x := ⟨_, rfl⟩
  obtain ⟨y, hy⟩ : ∃ y, cmpV b c = y := ⟨_, rfl⟩
  obtain ⟨z, hz⟩ : ∃ z, cmpV a c = z := ⟨_, rfl⟩
  have hxr : -1 ≤ x ∧ x ≤ 1 := by rw [← hx]; exact cmp_range a b
  have hng : IntKind.i64.wrap (-x) = -x := neg_small x hxr.1 hxr.2
  have hxn : cmpV b a = -x := by rw [cmp_anti, hx]
  have hx0 : x = 0 ↔ a = b := by rw [← hx]; exact cmp_zero a b
  have ht : ¬ 0 < x → ¬ 0 < y → z ≤ 0 := by intro h1 h2; rw [← hz]; exact cmp_trans a b c (by omega) (by omega)
  have q1 : (x != x) = false := by simp
  have q2 : (-x != -x) = false := by simp
  have HXX := Lib.hid hx; have HYY := Lib.hid hy; have HZZ := Lib.hid hz; have HXN := Lib.hid hxn; have HX0 := Lib.hid hx0; have HT := Lib.hid ht; clear hx hy hz hxn hx0 ht hxr
  have hb0 := ((((Below.refl w.heap.size w).alloc (Nat.le_refl _) (.cells #[.int .i64 a.k, .int .i64 a.n, .string (bs a.s)] 23)).alloc (by simp) (.cells #[.int .i64 b.k, .int .i64 b.n, .string (bs b.s)] 23)).alloc (by simp; try omega) (.cells #[.int .i64 c.k, .int .i64 c.n, .string (bs c.s)] 23))
  have h_HX := (((Bx.new w #[.int .i64 a.k, .int .i64 a.n, .string (bs a.s)] 23).alloc (.cells #[.int .i64 b.k, .int .i64 b.n, .string (bs b.s)] 23)).alloc (.cells #[.int .i64 c.k, .int .i64 c.n, .string (bs c.s)] 23))
  have h_HY := ((Bx.new (w.alloc (.cells #[.int .i64 a.k, .int .i64 a.n, .string (bs a.s)] 23)) #[.int .i64 b.k, .int .i64 b.n, .string (bs b.s)] 23).alloc (.cells #[.int .i64 c.k, .int .i64 c.n, .string (bs c.s)] 23))
  rw [show (w.alloc (.cells #[.int .i64 a.k, .int .i64 a.n, .string (bs a.s)] 23)).heap.size = w.heap.size + 1 by simp] at h_HY
  have h_HZ := (Bx.new ((w.alloc (.cells #[.int .i64 a.k, .int .i64 a.n, .string (bs a.s)] 23)).alloc (.cells #[.int .i64 b.k, .int .i64 b.n, .string (bs b.s)] 23)) #[.int .i64 c.k, .int .i64 c.n, .string (bs c.s)] 23)
  rw [show ((w.alloc (.cells #[.int .i64 a.k, .int .i64 a.n, .string (bs a.s)] 23)).alloc (.cells #[.int .i64 b.k, .int .i64 b.n, .string (bs b.s)] 23)).heap.size = w.heap.size + 2 by simp] at h_HZ
  have HB := Lib.hid hb0; have HX := Lib.hid h_HX; have HY := Lib.hid h_HY; have HZ := Lib.hid h_HZ
  clear hb0 h_HX h_HY h_HZ
  go_enter Tryd.func4, Tryd.ntmps4
  go_upto_region 1 with (fail)
  generalize hW0 : ((w.alloc (.cells #[.int .i64 a.k, .int .i64 a.n, .string (bs a.s)] 23)).alloc (.cells #[.int .i64 b.k, .int .i64 b.n, .string (bs b.s)] 23)).alloc (.cells #[.int .i64 c.k, .int .i64 c.n, .string (bs c.s)] 23) = v0 at HB HX HY HZ ⊢
  clear hW0
  have x0 : v0.cell? ⟨w.heap.size, 0, none⟩ = some (.int .i64 a.k) := HX.out.cell 0
  have x1 : v0.cell? ⟨w.heap.size, 1, none⟩ = some (.int .i64 a.n) := HX.out.cell 1
  have x2 : v0.cell? ⟨w.heap.size, 2, none⟩ = some (.string (bs a.s)) := HX.out.cell 2
  have y0 : v0.cell? ⟨(w.heap.size + 1), 0, none⟩ = some (.int .i64 b.k) := HY.out.cell 0
  have y1 : v0.cell? ⟨(w.heap.size + 1), 1, none⟩ = some (.int .i64 b.n) := HY.out.cell 1
  have y2 : v0.cell? ⟨(w.heap.size + 1), 2, none⟩ = some (.string (bs b.s)) := HY.out.cell 2
  have z0 : v0.cell? ⟨(w.heap.size + 2), 0, none⟩ = some (.int .i64 c.k) := HZ.out.cell 0
  have z1 : v0.cell? ⟨(w.heap.size + 2), 1, none⟩ = some (.int .i64 c.n) := HZ.out.cell 1
  have z2 : v0.cell? ⟨(w.heap.size + 2), 2, none⟩ = some (.string (bs c.s)) := HZ.out.cell 2
  go_upto_region 3 with (fail)
  clear x0 x1 x2
  clear y0 y1 y2
  clear z0 z1 z2
  have hs0 : Bx w.heap.size #[.int .i64 a.k, .int .i64 a.n, .string (bs a.s)] 23 v0.drew ∧ Bx (w.heap.size + 1) #[.int .i64 b.k, .int .i64 b.n, .string (bs b.s)] 23 v0.drew ∧ Bx (w.heap.size + 2) #[.int .i64 c.k, .int .i64 c.n, .string (bs c.s)] 23 v0.drew := ⟨HX.out, HY.out, HZ.out⟩
  have HS0 := Lib.hid hs0; clear hs0
  go_wp2_with fail
  refine wp_region_held_drew (S := (fun w' => Bx w.heap.size #[.int .i64 a.k, .int .i64 a.n, .string (bs a.s)] 23 w' ∧ Bx (w.heap.size + 1) #[.int .i64 b.k, .int .i64 b.n, .string (bs b.s)] 23 w' ∧ Bx (w.heap.size + 2) #[.int .i64 c.k, .int .i64 c.n, .string (bs c.s)] 23 w')) (by kernel_rfl) ?_ (fun hHeld => ?_)
  · exact HS0.out
  have hc0 : Below v0.heap.size v0 v0.drew := (Below.refl v0.heap.size v0).drew
  refine takeH (i := 0) (v := ?vv1) 27 rfl rfl (by kernel_rfl) (by kernel_rfl) (by kernel_rfl) (fun _ _ _ h => h) (Or.inl ⟨by kernel_rfl, ?yy1⟩) (by assumption) ?_
  case yy1 =>
    intro wq hSw
    have c0_0 : wq.cell? ⟨w.heap.size, 0, none⟩ = some (.int .i64 a.k) := (hSw.1).cell 0
    have c0_1 : wq.cell? ⟨w.heap.size, 1, none⟩ = some (.int .i64 a.n) := (hSw.1).cell 1
    have c0_2 : wq.cell? ⟨w.heap.size, 2, none⟩ = some (.string (bs a.s)) := (hSw.1).cell 2
    clear hSw
    go_simp
    (try with_reducible rfl)
  simp only [List.setIfInBounds_toArray, List.set_cons_zero, List.set_cons_succ]
  refine takeH (i := 1) (v := ?vv2) 28 rfl rfl (by kernel_rfl) (by kernel_rfl) (by kernel_rfl) (fun _ _ _ h => h) (Or.inl ⟨by kernel_rfl, ?yy2⟩) (by assumption) ?_
  case yy2 =>
    intro wq hSw
    have c1_0 : wq.cell? ⟨(w.heap.size + 1), 0, none⟩ = some (.int .i64 b.k) := (hSw.2.1).cell 0
    have c1_1 : wq.cell? ⟨(w.heap.size + 1), 1, none⟩ = some (.int .i64 b.n) := (hSw.2.1).cell 1
    have c1_2 : wq.cell? ⟨(w.heap.size + 1), 2, none⟩ = some (.string (bs b.s)) := (hSw.2.1).cell 2
    clear hSw
    go_simp
    (try with_reducible rfl)
  simp only [List.setIfInBounds_toArray, List.set_cons_zero, List.set_cons_succ]
  refine takeH (i := 3) (v := ?vv3) 30 rfl rfl (by kernel_rfl) (by kernel_rfl) (by kernel_rfl) (fun _ _ _ h => h) (Or.inl ⟨by kernel_rfl, ?yy3⟩) (by assumption) ?_
  case yy3 =>
    intro wq hSw
    have c1_0 : wq.cell? ⟨(w.heap.size + 1), 0, none⟩ = some (.int .i64 b.k) := (hSw.2.1).cell 0
    have c1_1 : wq.cell? ⟨(w.heap.size + 1), 1, none⟩ = some (.int .i64 b.n) := (hSw.2.1).cell 1
    have c1_2 : wq.cell? ⟨(w.heap.size + 1), 2, none⟩ = some (.string (bs b.s)) := (hSw.2.1).cell 2
    clear hSw
    go_simp
    (try with_reducible rfl)
  simp only [List.setIfInBounds_toArray, List.set_cons_zero, List.set_cons_succ]
  refine takeH (i := 4) (v := ?vv4) 31 rfl rfl (by kernel_rfl) (by kernel_rfl) (by kernel_rfl) (fun _ _ _ h => h) (Or.inl ⟨by kernel_rfl, ?yy4⟩) (by assumption) ?_
  case yy4 =>
    intro wq hSw
    have c2_0 : wq.cell? ⟨(w.heap.size + 2), 0, none⟩ = some (.int .i64 c.k) := (hSw.2.2).cell 0
    have c2_1 : wq.cell? ⟨(w.heap.size + 2), 1, none⟩ = some (.int .i64 c.n) := (hSw.2.2).cell 1
    have c2_2 : wq.cell? ⟨(w.heap.size + 2), 2, none⟩ = some (.string (bs c.s)) := (hSw.2.2).cell 2
    clear hSw
    go_simp
    (try with_reducible rfl)
  simp only [List.setIfInBounds_toArray, List.set_cons_zero, List.set_cons_succ]
  refine takeH (i := 6) (v := ?vv5) 33 rfl rfl (by kernel_rfl) (by kernel_rfl) (by kernel_rfl) (fun _ _ _ h => h) (Or.inl ⟨by kernel_rfl, ?yy5⟩) (by assumption) ?_
  case yy5 =>
    intro wq hSw
    have c0_0 : wq.cell? ⟨w.heap.size, 0, none⟩ = some (.int .i64 a.k) := (hSw.1).cell 0
    have c0_1 : wq.cell? ⟨w.heap.size, 1, none⟩ = some (.int .i64 a.n) := (hSw.1).cell 1
    have c0_2 : wq.cell? ⟨w.heap.size, 2, none⟩ = some (.string (bs a.s)) := (hSw.1).cell 2
    clear hSw
    go_simp
    (try with_reducible rfl)
  simp only [List.setIfInBounds_toArray, List.set_cons_zero, List.set_cons_succ]
  refine takeH (i := 7) (v := ?vv6) 34 rfl rfl (by kernel_rfl) (by kernel_rfl) (by kernel_rfl) (fun _ _ _ h => h) (Or.inl ⟨by kernel_rfl, ?yy6⟩) (by assumption) ?_
  case yy6 =>
    intro wq hSw
    have c2_0 : wq.cell? ⟨(w.heap.size + 2), 0, none⟩ = some (.int .i64 c.k) := (hSw.2.2).cell 0
    have c2_1 : wq.cell? ⟨(w.heap.size + 2), 1, none⟩ = some (.int .i64 c.n) := (hSw.2.2).cell 1
    have c2_2 : wq.cell? ⟨(w.heap.size + 2), 2, none⟩ = some (.string (bs c.s)) := (hSw.2.2).cell 2
    clear hSw
    go_simp
    (try with_reducible rfl)
  simp only [List.setIfInBounds_toArray, List.set_cons_zero, List.set_cons_succ]
  refine wpAnyH_ready (rs := [2]) (by kernel_rfl) (by simp) ?_
  refine (AllReadyH.cons rfl (fun K hK => ?_) AllReadyH.nil)
  go_simp
  (refine (VCompare_any a b _).mono ?_; rw [HXX.out]; rintro er u1 ⟨rfl, hb1⟩)
  (try go_wp2_with fail)
  refine hK.out _ _ ?_ (fun hHeld => ?_)
  · exact ⟨hHeld.1.call hb1, hHeld.2.1.call hb1, hHeld.2.2.call hb1⟩
  clear hK K
  (try simp only [Act.put, List.setIfInBounds_toArray, List.set_cons_zero, List.set_cons_succ])
  have hc1 := btrans hc0 hc0.size hb1
  refine wpAnyH_ready (rs := [5]) (by kernel_rfl) (by simp) ?_
  refine (AllReadyH.cons rfl (fun K hK => ?_) AllReadyH.nil)
  go_simp
  (refine (VCompare_any b c _).mono ?_; rw [HYY.out]; rintro er u2 ⟨rfl, hb2⟩)
  (try go_wp2_with fail)
  refine hK.out _ _ ?_ (fun hHeld => ?_)
  · exact ⟨hHeld.1.call hb2, hHeld.2.1.call hb2, hHeld.2.2.call hb2⟩
  clear hK K
  (try simp only [Act.put, List.setIfInBounds_toArray, List.set_cons_zero, List.set_cons_succ])
  have hc2 := btrans hc1 hc1.size hb2
  refine wpAnyH_ready (rs := [8]) (by kernel_rfl) (by simp) ?_
  refine (AllReadyH.cons rfl (fun K hK => ?_) AllReadyH.nil)
  go_simp
  (refine (VCompare_any a c _).mono ?_; rw [HZZ.out]; rintro er u3 ⟨rfl, hb3⟩)
  (try go_wp2_with fail)
  refine hK.out _ _ ?_ (fun hHeld => ?_)
  · exact ⟨hHeld.1.call hb3, hHeld.2.1.call hb3, hHeld.2.2.call hb3⟩
  clear hK K
  (try simp only [Act.put, List.setIfInBounds_toArray, List.set_cons_zero, List.set_cons_succ])
  have hc3 := btrans hc2 hc2.size hb3
  refine takeH (i := 9) (v := ?vv7) 7 rfl rfl (by kernel_rfl) (by kernel_rfl) (by kernel_rfl) (fun _ _ _ h => h) (Or.inl ⟨by kernel_rfl, ?yy7⟩) (by assumption) ?_
  case yy7 => intro w hSw; (try dsimp only at hSw); go_simp; (try with_reducible rfl)
  simp only [List.setIfInBounds_toArray, List.set_cons_zero, List.set_cons_succ]
  refine takeH (i := 10) (v := ?vv8) 8 rfl rfl (by kernel_rfl) (by kernel_rfl) (by kernel_rfl) (fun _ _ _ h => h) (Or.inl ⟨by kernel_rfl, ?yy8⟩) (by assumption) ?_
  case yy8 => intro w hSw; (try dsimp only at hSw); go_simp; (try with_reducible rfl)
  simp only [List.setIfInBounds_toArray, List.set_cons_zero, List.set_cons_succ]
  refine takeH (i := 11) (v := ?vv9) 9 rfl rfl (by kernel_rfl) (by kernel_rfl) (by kernel_rfl) (fun _ _ _ h => h) (Or.inl ⟨by kernel_rfl, ?yy9⟩) (by assumption) ?_
  case yy9 => intro w hSw; (try dsimp only at hSw); go_simp; (try with_reducible rfl)
  simp only [List.setIfInBounds_toArray, List.set_cons_zero, List.set_cons_succ]
  refine wpAnyH_done (by kernel_rfl) ?_ _
  have HX := Lib.hid hHeld.1; have HY := Lib.hid hHeld.2.1; have HB := Lib.hid (btrans HB.out HB.out.size hc3); clear hHeld hc0 hc1 hc2 hc3 hb1 hb2 hb3 HZ
  have x0 : u3.cell? ⟨w.heap.size, 0, none⟩ = some (.int .i64 a.k) := HX.out.cell 0
  have x1 : u3.cell? ⟨w.heap.size, 1, none⟩ = some (.int .i64 a.n) := HX.out.cell 1
  have x2 : u3.cell? ⟨w.heap.size, 2, none⟩ = some (.string (bs a.s)) := HX.out.cell 2
  have y0 : u3.cell? ⟨(w.heap.size + 1), 0, none⟩ = some (.int .i64 b.k) := HY.out.cell 0
  have y1 : u3.cell? ⟨(w.heap.size + 1), 1, none⟩ = some (.int .i64 b.n) := HY.out.cell 1
  have y2 : u3.cell? ⟨(w.heap.size + 1), 2, none⟩ = some (.string (bs b.s)) := HY.out.cell 2
  go_wp2_with fail
  refine (RVCompare_any a b _).mono ?_
  rw [HXX.out]
  rintro er u4 ⟨rfl, hb1⟩
  clear x0 x1 x2
  clear y0 y1 y2
  have HX := Lib.hid (HX.out.call hb1); have HY := Lib.hid (HY.out.call hb1); have HB := Lib.hid (btrans HB.out HB.out.size hb1); clear hb1
  have x0 : u4.cell? ⟨w.heap.size, 0, none⟩ = some (.int .i64 a.k) := HX.out.cell 0
  have x1 : u4.cell? ⟨w.heap.size, 1, none⟩ = some (.int .i64 a.n) := HX.out.cell 1
  have x2 : u4.cell? ⟨w.heap.size, 2, none⟩ = some (.string (bs a.s)) := HX.out.cell 2
  have y0 : u4.cell? ⟨(w.heap.size + 1), 0, none⟩ = some (.int .i64 b.k) := HY.out.cell 0
  have y1 : u4.cell? ⟨(w.heap.size + 1), 1, none⟩ = some (.int .i64 b.n) := HY.out.cell 1
  have y2 : u4.cell? ⟨(w.heap.size + 1), 2, none⟩ = some (.string (bs b.s)) := HY.out.cell 2
  go_wp2_with fail
  refine (VCompare_any b a _).mono ?_
  rw [HXN.out]
  rintro er u5 ⟨rfl, hb1⟩
  clear x0 x1 x2
  clear y0 y1 y2
  have HX := Lib.hid (HX.out.call hb1); have HY := Lib.hid (HY.out.call hb1); have HB := Lib.hid (btrans HB.out HB.out.size hb1); clear hb1
  have x0 : u5.cell? ⟨w.heap.size, 0, none⟩ = some (.int .i64 a.k) := HX.out.cell 0
  have x1 : u5.cell? ⟨w.heap.size, 1, none⟩ = some (.int .i64 a.n) := HX.out.cell 1
  have x2 : u5.cell? ⟨w.heap.size, 2, none⟩ = some (.string (bs a.s)) := HX.out.cell 2
  have y0 : u5.cell? ⟨(w.heap.size + 1), 0, none⟩ = some (.int .i64 b.k) := HY.out.cell 0
  have y1 : u5.cell? ⟨(w.heap.size + 1), 1, none⟩ = some (.int .i64 b.n) := HY.out.cell 1
  have y2 : u5.cell? ⟨(w.heap.size + 1), 2, none⟩ = some (.string (bs b.s)) := HY.out.cell 2
  by_cases e1 : a.k = b.k
  rotate_left
  · have t1 : (a.k == b.k) = false := by rw [beq_eq_false_iff_ne]; exact e1
    have t0 : (x == 0) = false := by rw [beq_eq_false_iff_ne]; intro h; exact e1 (by rw [HX0.out.1 h])
    clear e1
    by_cases p1 : 0 < x
    · skip
      go_wp2_with fail
      refine (works_any _ (hL.below HB.out)).mono ?_
      rintro er w1 ⟨rfl, hb1⟩
      go_wp2
      go_ret
      exact ⟨rfl, btrans HB.out HB.out.size hb1⟩
    by_cases p2 : 0 < y
    · skip
      go_wp2_with fail
      refine (works_any _ (hL.below HB.out)).mono ?_
      rintro er w1 ⟨rfl, hb1⟩
      go_wp2
      go_ret
      exact ⟨rfl, btrans HB.out HB.out.size hb1⟩
    have p3 := HT.out (by omega) (by omega)
    go_wp2_with fail
    refine (works_any _ (hL.below HB.out)).mono ?_
    rintro er w1 ⟨rfl, hb1⟩
    go_wp2
    go_ret
    exact ⟨rfl, btrans HB.out HB.out.size hb1⟩
  have t1 : (a.k == b.k) = true := by rw [e1]; simp
  by_cases e2 : a.n = b.n
  rotate_left
  · have t2 : (a.n == b.n) = false := by rw [beq_eq_false_iff_ne]; exact e2
    have t0 : (x == 0) = false := by rw [beq_eq_false_iff_ne]; intro h; exact e2 (by rw [HX0.out.1 h])
    clear e1 e2
    by_cases p1 : 0 < x
    · skip
      go_wp2_with fail
      refine (works_any _ (hL.below HB.out)).mono ?_
      rintro er w1 ⟨rfl, hb1⟩
      go_wp2
      go_ret
      exact ⟨rfl, btrans HB.out HB.out.size hb1⟩
    by_cases p2 : 0 < y
    · skip
      go_wp2_with fail
      refine (works_any _ (hL.below HB.out)).mono ?_
      rintro er w1 ⟨rfl, hb1⟩
      go_wp2
      go_ret
      exact ⟨rfl, btrans HB.out HB.out.size hb1⟩
    have p3 := HT.out (by omega) (by omega)
    go_wp2_with fail
    refine (works_any _ (hL.below HB.out)).mono ?_
    rintro er w1 ⟨rfl, hb1⟩
    go_wp2
    go_ret
    exact ⟨rfl, btrans HB.out HB.out.size hb1⟩
  have t2 : (a.n == b.n) = true := by rw [e2]; simp
  by_cases e3 : a.s = b.s
  rotate_left
  · have t3 : (a.s == b.s) = false := by rw [beq_eq_false_iff_ne]; exact e3
    have t0 : (x == 0) = false := by rw [beq_eq_false_iff_ne]; intro h; exact e3 (by rw [HX0.out.1 h])
    clear e1 e2 e3
    by_cases p1 : 0 < x
    · skip
      go_wp2_with fail
      refine (works_any _ (hL.below HB.out)).mono ?_
      rintro er w1 ⟨rfl, hb1⟩
      go_wp2
      go_ret
      exact ⟨rfl, btrans HB.out HB.out.size hb1⟩
    by_cases p2 : 0 < y
    · skip
      go_wp2_with fail
      refine (works_any _ (hL.below HB.out)).mono ?_
      rintro er w1 ⟨rfl, hb1⟩
      go_wp2
      go_ret
      exact ⟨rfl, btrans HB.out HB.out.size hb1⟩
    have p3 := HT.out (by omega) (by omega)
    go_wp2_with fail
    refine (works_any _ (hL.below HB.out)).mono ?_
    rintro er w1 ⟨rfl, hb1⟩
    go_wp2
    go_ret
    exact ⟨rfl, btrans HB.out HB.out.size hb1⟩
  have t3 : (a.s == b.s) = true := by rw [e3]; simp
  have t0 : (x == 0) = true := by rw [beq_iff_eq]; exact HX0.out.2 ((vl_ext a b).2 ⟨e1, e2, e3⟩)
  clear e1 e2 e3
  by_cases p1 : 0 < x
  · skip
    go_wp2_with fail
    refine (works_any _ (hL.below HB.out)).mono ?_
    rintro er w1 ⟨rfl, hb1⟩
    go_wp2
    go_ret
    exact ⟨rfl, btrans HB.out HB.out.size hb1⟩
  by_cases p2 : 0 < y
  · skip
    go_wp2_with fail
    refine (works_any _ (hL.below HB.out)).mono ?_
    rintro er w1 ⟨rfl, hb1⟩
    go_wp2
    go_ret
    exact ⟨rfl, btrans HB.out HB.out.size hb1⟩
  have p3 := HT.out (by omega) (by omega)
  go_wp2_with fail
  refine (works_any _ (hL.below HB.out)).mono ?_
  rintro er w1 ⟨rfl, hb1⟩
  go_wp2
  go_ret
  exact ⟨rfl, btrans HB.out HB.out.size hb1⟩
end Go.Proofs.YtmffdoblpkjmjaaDoor
