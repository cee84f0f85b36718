/- The walks of layer 5's Compare and of the reference's. No conditions. -/
import Derived.Test.YtmffdoblpkjmjaaDoorValB
import Derived.Test.YtmffdoblpkjmjaaDoorShelf
namespace Go.Proofs.YtmffdoblpkjmjaaDoor
open Go.RowKit

set_option maxRecDepth 100000 in
set_option maxHeartbeats 4000000 in
theorem nan64_any (x : Int) (w : World) :
    Calls Tryd.prog 70 #[.int .i64 x] w fun e w' => e = .returned (.bool false) ∧ w' = w := by
  go_enter Tryd.func70, Tryd.ntmps70
  go_wp2
  go_ret
  exact ⟨by simp, rfl⟩
set_option maxRecDepth 100000 in
set_option maxHeartbeats 4000000 in
theorem cmp64_any (x y : Int) (w : World) :
    Calls Tryd.prog 57 #[.int .i64 x, .int .i64 y] w fun e w' => e = .returned (.int .i64 (Lib.compareInt x y)) ∧ w' = w := by
  have hc : Lib.compareInt x y = if x < y then -1 else if y < x then 1 else 0 := rfl
  rw [hc]; clear hc
  by_cases h1 : x < y
  · rw [if_pos h1]
    go_enter Tryd.func57, Tryd.ntmps57
    go_wp2_with fail
    refine (nan64_any x _).mono ?_
    rintro er w1 ⟨rfl, rfl⟩
    go_wp2_with fail
    refine (nan64_any y _).mono ?_
    rintro er w2 ⟨rfl, rfl⟩
    go_wp2
    go_ret
    exact ⟨rfl, rfl⟩
  rw [if_neg h1]
  by_cases h2 : y < x
  · rw [if_pos h2]
    go_enter Tryd.func57, Tryd.ntmps57
    go_wp2_with fail
    refine (nan64_any x _).mono ?_
    rintro er w1 ⟨rfl, rfl⟩
    go_wp2_with fail
    refine (nan64_any y _).mono ?_
    rintro er w2 ⟨rfl, rfl⟩
    go_wp2
    go_ret
    exact ⟨rfl, rfl⟩
  rw [if_neg h2]
  go_enter Tryd.func57, Tryd.ntmps57
  go_wp2_with fail
  refine (nan64_any x _).mono ?_
  rintro er w1 ⟨rfl, rfl⟩
  go_wp2_with fail
  refine (nan64_any y _).mono ?_
  rintro er w2 ⟨rfl, rfl⟩
  go_wp2
  go_ret
  exact ⟨rfl, rfl⟩
set_option maxRecDepth 100000 in
set_option maxHeartbeats 4000000 in
theorem numbers_any (a b : Vl) (w : World) :
    Calls Tryd.prog 31 #[.agg #[.int .i64 a.k, .int .i64 a.n, .string (bs a.s), .int .i64 b.k, .int .i64 b.n, .string (bs b.s)]] w fun e w' => e = .returned (.int .i64 (Lib.compareInt a.n b.n)) ∧ Below w.heap.size w w' := by
  have hb0 := ((Below.refl w.heap.size w).alloc (Nat.le_refl _) (.cells #[.int .i64 a.k, .int .i64 a.n, .string (bs a.s), .int .i64 b.k, .int .i64 b.n, .string (bs b.s)] 42))
  have h_HX := (Bx.new w #[.int .i64 a.k, .int .i64 a.n, .string (bs a.s), .int .i64 b.k, .int .i64 b.n, .string (bs b.s)] 42)
  have HB := Lib.hid hb0; have HX := Lib.hid h_HX
  clear hb0 h_HX
  go_enter Tryd.func31, Tryd.ntmps31
  go_upto_region 1 with (fail)
  generalize hW0 : w.alloc (.cells #[.int .i64 a.k, .int .i64 a.n, .string (bs a.s), .int .i64 b.k, .int .i64 b.n, .string (bs b.s)] 42) = v0 at HB HX ⊢
  clear hW0
  have x1 : v0.cell? ⟨w.heap.size, 1, none⟩ = some (.int .i64 a.n) := HX.out.cell 1
  have x4 : v0.cell? ⟨w.heap.size, 4, none⟩ = some (.int .i64 b.n) := HX.out.cell 4
  go_wp2_with fail
  refine (cmp64_any a.n b.n _).mono ?_
  rintro er w1 ⟨rfl, rfl⟩
  go_wp2
  go_ret
  exact ⟨rfl, HB.out⟩
set_option maxRecDepth 100000 in
set_option maxHeartbeats 4000000 in
theorem strings_any (a b : Vl) (w : World) :
    Calls Tryd.prog 32 #[.agg #[.int .i64 a.k, .int .i64 a.n, .string (bs a.s), .int .i64 b.k, .int .i64 b.n, .string (bs b.s)]] w fun e w' => e = .returned (.int .i64 (Lib.compareBytes a.s b.s)) ∧ Below w.heap.size w w' := by
  have hb0 := ((Below.refl w.heap.size w).alloc (Nat.le_refl _) (.cells #[.int .i64 a.k, .int .i64 a.n, .string (bs a.s), .int .i64 b.k, .int .i64 b.n, .string (bs b.s)] 42))
  have h_HX := (Bx.new w #[.int .i64 a.k, .int .i64 a.n, .string (bs a.s), .int .i64 b.k, .int .i64 b.n, .string (bs b.s)] 42)
  have HB := Lib.hid hb0; have HX := Lib.hid h_HX
  clear hb0 h_HX
  go_enter Tryd.func32, Tryd.ntmps32
  go_upto_region 1 with (fail)
  generalize hW0 : w.alloc (.cells #[.int .i64 a.k, .int .i64 a.n, .string (bs a.s), .int .i64 b.k, .int .i64 b.n, .string (bs b.s)] 42) = v0 at HB HX ⊢
  clear hW0
  have x2 : v0.cell? ⟨w.heap.size, 2, none⟩ = some (.string (bs a.s)) := HX.out.cell 2
  have x5 : v0.cell? ⟨w.heap.size, 5, none⟩ = some (.string (bs b.s)) := HX.out.cell 5
  go_wp2_with fail
  refine (Tryd.strings_Compare (bs a.s) (bs b.s) _).mono ?_
  rw [toList_bs, toList_bs]
  rintro er w1 ⟨rfl, rfl⟩
  go_wp2
  go_ret
  exact ⟨rfl, HB.out⟩
set_option maxRecDepth 100000 in
set_option maxHeartbeats 8000000 in
theorem VCompare_any (a b : Vl) (w : World) :
    Calls Tryd.prog 18 #[.agg (vV a), .agg (vV b)] w fun e w' => e = .returned (.int .i64 (cmpV a b)) ∧ Below w.heap.size w w' := by
  simp only [vV]
  by_cases hk : a.k = b.k
  rotate_left
  · have hr : cmpV a b = Lib.compareInt a.k b.k := by unfold cmpV; rw [if_neg hk]
    rw [hr]; clear hr
    have t1 : (a.k != b.k) = true := by rw [bne_iff_ne]; exact hk
    have HK := Lib.hid hk; clear hk
    have hb0 := (((Below.refl w.heap.size w).alloc (Nat.le_refl _) (.cells #[.int .i64 a.k, .int .i64 a.n, .string (bs a.s)] 23)).alloc (by simp) (.cells #[.int .i64 b.k, .int .i64 b.n, .string (bs b.s)] 23))
    have h_HX := ((Bx.new w #[.int .i64 a.k, .int .i64 a.n, .string (bs a.s)] 23).alloc (.cells #[.int .i64 b.k, .int .i64 b.n, .string (bs b.s)] 23))
    have h_HY := (Bx.new (w.alloc (.cells #[.int .i64 a.k, .int .i64 a.n, .string (bs a.s)] 23)) #[.int .i64 b.k, .int .i64 b.n, .string (bs b.s)] 23)
    rw [show (w.alloc (.cells #[.int .i64 a.k, .int .i64 a.n, .string (bs a.s)] 23)).heap.size = w.heap.size + 1 by simp] at h_HY
    have HB := Lib.hid hb0; have HX := Lib.hid h_HX; have HY := Lib.hid h_HY
    clear hb0 h_HX h_HY
    go_enter Tryd.func18, Tryd.ntmps18
    go_upto_region 1 with (fail)
    generalize hW0 : (w.alloc (.cells #[.int .i64 a.k, .int .i64 a.n, .string (bs a.s)] 23)).alloc (.cells #[.int .i64 b.k, .int .i64 b.n, .string (bs b.s)] 23) = v0 at HB HX HY ⊢
    clear hW0
    have x0 : v0.cell? ⟨w.heap.size, 0, none⟩ = some (.int .i64 a.k) := HX.out.cell 0
    have x1 : v0.cell? ⟨w.heap.size, 1, none⟩ = some (.int .i64 a.n) := HX.out.cell 1
    have x2 : v0.cell? ⟨w.heap.size, 2, none⟩ = some (.string (bs a.s)) := HX.out.cell 2
    have y0 : v0.cell? ⟨(w.heap.size + 1), 0, none⟩ = some (.int .i64 b.k) := HY.out.cell 0
    have y1 : v0.cell? ⟨(w.heap.size + 1), 1, none⟩ = some (.int .i64 b.n) := HY.out.cell 1
    have y2 : v0.cell? ⟨(w.heap.size + 1), 2, none⟩ = some (.string (bs b.s)) := HY.out.cell 2
    go_wp2_with fail
    refine (Tryd.cmp_Compare_int a.k b.k _).mono ?_
    rintro er w1 ⟨rfl, rfl⟩
    go_wp2
    go_ret
    exact ⟨rfl, HB.out⟩
  have t1 : (a.k != b.k) = false := by rw [hk]; simp
  have HK := Lib.hid hk; clear hk
  have hmf : ∀ (fn : Fn) (first cap : Array Value) (w : World), (Instr.makeFunc fn first cap).run Tryd.prog w = .ok (.func fn first cap) w := fun _ _ _ _ => rfl
  by_cases hn : a.n = b.n
  · have hr : cmpV a b = Lib.compareBytes a.s b.s := by unfold cmpV; rw [if_pos HK.out, if_pos hn]
    rw [hr]; clear hr
    have t2 : (a.n == b.n) = true := by rw [hn]; simp
    have HN := Lib.hid hn; clear hn
    have hb0 := (((Below.refl w.heap.size w).alloc (Nat.le_refl _) (.cells #[.int .i64 a.k, .int .i64 a.n, .string (bs a.s)] 23)).alloc (by simp) (.cells #[.int .i64 b.k, .int .i64 b.n, .string (bs b.s)] 23))
    have h_HX := ((Bx.new w #[.int .i64 a.k, .int .i64 a.n, .string (bs a.s)] 23).alloc (.cells #[.int .i64 b.k, .int .i64 b.n, .string (bs b.s)] 23))
    have h_HY := (Bx.new (w.alloc (.cells #[.int .i64 a.k, .int .i64 a.n, .string (bs a.s)] 23)) #[.int .i64 b.k, .int .i64 b.n, .string (bs b.s)] 23)
    rw [show (w.alloc (.cells #[.int .i64 a.k, .int .i64 a.n, .string (bs a.s)] 23)).heap.size = w.heap.size + 1 by simp] at h_HY
    have HB := Lib.hid hb0; have HX := Lib.hid h_HX; have HY := Lib.hid h_HY
    clear hb0 h_HX h_HY
    go_enter Tryd.func18, Tryd.ntmps18
    go_upto_region 1 with (fail)
    generalize hW0 : (w.alloc (.cells #[.int .i64 a.k, .int .i64 a.n, .string (bs a.s)] 23)).alloc (.cells #[.int .i64 b.k, .int .i64 b.n, .string (bs b.s)] 23) = v0 at HB HX HY ⊢
    clear hW0
    have x0 : v0.cell? ⟨w.heap.size, 0, none⟩ = some (.int .i64 a.k) := HX.out.cell 0
    have x1 : v0.cell? ⟨w.heap.size, 1, none⟩ = some (.int .i64 a.n) := HX.out.cell 1
    have x2 : v0.cell? ⟨w.heap.size, 2, none⟩ = some (.string (bs a.s)) := HX.out.cell 2
    have y0 : v0.cell? ⟨(w.heap.size + 1), 0, none⟩ = some (.int .i64 b.k) := HY.out.cell 0
    have y1 : v0.cell? ⟨(w.heap.size + 1), 1, none⟩ = some (.int .i64 b.n) := HY.out.cell 1
    have y2 : v0.cell? ⟨(w.heap.size + 1), 2, none⟩ = some (.string (bs b.s)) := HY.out.cell 2
    have hal := (Below.refl v0.heap.size v0).alloc (Nat.le_refl _) (.cells #[.int .i64 a.k, .int .i64 a.n, .string (bs a.s), .int .i64 b.k, .int .i64 b.n, .string (bs b.s)] 42)
    have HP := Lib.hid (Bx.new v0 #[.int .i64 a.k, .int .i64 a.n, .string (bs a.s), .int .i64 b.k, .int .i64 b.n, .string (bs b.s)] 42); have HX := Lib.hid (HX.out.call hal); have HY := Lib.hid (HY.out.call hal); have HB := Lib.hid (btrans HB.out HB.out.size hal); clear hal
    go_upto_region 4 with (fail)
    clear x0 x1 x2
    clear y0 y1 y2
    generalize hW : v0.alloc (.cells #[.int .i64 a.k, .int .i64 a.n, .string (bs a.s), .int .i64 b.k, .int .i64 b.n, .string (bs b.s)] 42) = v1 at HX HY HP HB ⊢
    clear hW
    have p0 : v1.cell? ⟨v0.heap.size, 0, none⟩ = some (.int .i64 a.k) := HP.out.cell 0
    have p1 : v1.cell? ⟨v0.heap.size, 1, none⟩ = some (.int .i64 a.n) := HP.out.cell 1
    have p2 : v1.cell? ⟨v0.heap.size, 2, none⟩ = some (.string (bs a.s)) := HP.out.cell 2
    have p3 : v1.cell? ⟨v0.heap.size, 3, none⟩ = some (.int .i64 b.k) := HP.out.cell 3
    have p4 : v1.cell? ⟨v0.heap.size, 4, none⟩ = some (.int .i64 b.n) := HP.out.cell 4
    have p5 : v1.cell? ⟨v0.heap.size, 5, none⟩ = some (.string (bs b.s)) := HP.out.cell 5
    have x1 : v1.cell? ⟨w.heap.size, 1, none⟩ = some (.int .i64 a.n) := HX.out.cell 1
    have y1 : v1.cell? ⟨w.heap.size + 1, 1, none⟩ = some (.int .i64 b.n) := HY.out.cell 1
    go_wp2_with fail
    refine (strings_any a b _).mono ?_
    rintro er w1 ⟨rfl, hb1⟩
    go_wp2
    go_ret
    exact ⟨rfl, btrans HB.out HB.out.size hb1⟩
  have hr : cmpV a b = Lib.compareInt a.n b.n := by unfold cmpV; rw [if_pos HK.out, if_neg hn]
  rw [hr]; clear hr
  have t2 : (a.n == b.n) = false := by rw [beq_eq_false_iff_ne]; exact hn
  have HN := Lib.hid hn; clear hn
  have hb0 := (((Below.refl w.heap.size w).alloc (Nat.le_refl _) (.cells #[.int .i64 a.k, .int .i64 a.n, .string (bs a.s)] 23)).alloc (by simp) (.cells #[.int .i64 b.k, .int .i64 b.n, .string (bs b.s)] 23))
  have h_HX := ((Bx.new w #[.int .i64 a.k, .int .i64 a.n, .string (bs a.s)] 23).alloc (.cells #[.int .i64 b.k, .int .i64 b.n, .string (bs b.s)] 23))
  have h_HY := (Bx.new (w.alloc (.cells #[.int .i64 a.k, .int .i64 a.n, .string (bs a.s)] 23)) #[.int .i64 b.k, .int .i64 b.n, .string (bs b.s)] 23)
  rw [show (w.alloc (.cells #[.int .i64 a.k, .int .i64 a.n, .string (bs a.s)] 23)).heap.size = w.heap.size + 1 by simp] at h_HY
  have HB := Lib.hid hb0; have HX := Lib.hid h_HX; have HY := Lib.hid h_HY
  clear hb0 h_HX h_HY
  go_enter Tryd.func18, Tryd.ntmps18
  go_upto_region 1 with (fail)
  generalize hW0 : (w.alloc (.cells #[.int .i64 a.k, .int .i64 a.n, .string (bs a.s)] 23)).alloc (.cells #[.int .i64 b.k, .int .i64 b.n, .string (bs b.s)] 23) = v0 at HB HX HY ⊢
  clear hW0
  have x0 : v0.cell? ⟨w.heap.size, 0, none⟩ = some (.int .i64 a.k) := HX.out.cell 0
  have x1 : v0.cell? ⟨w.heap.size, 1, none⟩ = some (.int .i64 a.n) := HX.out.cell 1
  have x2 : v0.cell? ⟨w.heap.size, 2, none⟩ = some (.string (bs a.s)) := HX.out.cell 2
  have y0 : v0.cell? ⟨(w.heap.size + 1), 0, none⟩ = some (.int .i64 b.k) := HY.out.cell 0
  have y1 : v0.cell? ⟨(w.heap.size + 1), 1, none⟩ = some (.int .i64 b.n) := HY.out.cell 1
  have y2 : v0.cell? ⟨(w.heap.size + 1), 2, none⟩ = some (.string (bs b.s)) := HY.out.cell 2
  have hal := (Below.refl v0.heap.size v0).alloc (Nat.le_refl _) (.cells #[.int .i64 a.k, .int .i64 a.n, .string (bs a.s), .int .i64 b.k, .int .i64 b.n, .string (bs b.s)] 42)
  have HP := Lib.hid (Bx.new v0 #[.int .i64 a.k, .int .i64 a.n, .string (bs a.s), .int .i64 b.k, .int .i64 b.n, .string (bs b.s)] 42); have HX := Lib.hid (HX.out.call hal); have HY := Lib.hid (HY.out.call hal); have HB := Lib.hid (btrans HB.out HB.out.size hal); clear hal
  go_upto_region 4 with (fail)
  clear x0 x1 x2
  clear y0 y1 y2
  generalize hW : v0.alloc (.cells #[.int .i64 a.k, .int .i64 a.n, .string (bs a.s), .int .i64 b.k, .int .i64 b.n, .string (bs b.s)] 42) = v1 at HX HY HP HB ⊢
  clear hW
  have p0 : v1.cell? ⟨v0.heap.size, 0, none⟩ = some (.int .i64 a.k) := HP.out.cell 0
  have p1 : v1.cell? ⟨v0.heap.size, 1, none⟩ = some (.int .i64 a.n) := HP.out.cell 1
  have p2 : v1.cell? ⟨v0.heap.size, 2, none⟩ = some (.string (bs a.s)) := HP.out.cell 2
  have p3 : v1.cell? ⟨v0.heap.size, 3, none⟩ = some (.int .i64 b.k) := HP.out.cell 3
  have p4 : v1.cell? ⟨v0.heap.size, 4, none⟩ = some (.int .i64 b.n) := HP.out.cell 4
  have p5 : v1.cell? ⟨v0.heap.size, 5, none⟩ = some (.string (bs b.s)) := HP.out.cell 5
  have x1 : v1.cell? ⟨w.heap.size, 1, none⟩ = some (.int .i64 a.n) := HX.out.cell 1
  have y1 : v1.cell? ⟨w.heap.size + 1, 1, none⟩ = some (.int .i64 b.n) := HY.out.cell 1
  go_wp2_with fail
  refine (numbers_any a b _).mono ?_
  rintro er w1 ⟨rfl, hb1⟩
  go_wp2
  go_ret
  exact ⟨rfl, btrans HB.out HB.out.size hb1⟩
end Go.Proofs.YtmffdoblpkjmjaaDoor
