/- The walks of layer 16's small functions. No conditions. -/
import Derived.Test.YtkmmdkklpbafdaaGreatDoorBytP
import Derived.Test.YtkmmdkklpbafdaaGreatDoorLexG
import Derived.Test.YtkmmdkklpbafdaaGreatDoorRegion
namespace Go.Proofs.YtkmmdkklpbafdaaGreatDoor
open Go.RowKit

set_option maxRecDepth 100000 in
set_option maxHeartbeats 4000000 in
theorem Arity_any (op : Int) (w : World) :
    Calls Tryz.prog 63 #[.int .i64 op] w fun e w' => e = .returned (.int .i64 (arS op)) ∧ w' = w := by
  by_cases h1 : op < 1
  · skip
    have hr : arS op = -1 := by unfold arS; rw [if_pos (.inl h1)]
    rw [hr]; clear hr
    go_enter Tryz.func63, Tryz.ntmps63
    go_wp2
    go_ret
    exact ⟨rfl, rfl⟩
  by_cases h2 : 27 < op
  · skip
    have hr : arS op = -1 := by unfold arS; rw [if_pos (.inr h2)]
    rw [hr]; clear hr
    go_enter Tryz.func63, Tryz.ntmps63
    go_wp2
    go_ret
    exact ⟨rfl, rfl⟩
  by_cases h3 : op ≤ 3
  · skip
    have hr : arS op = 0 := by unfold arS; rw [if_neg (by omega), if_pos (.inl h3)]
    rw [hr]; clear hr
    go_enter Tryz.func63, Tryz.ntmps63
    go_wp2
    go_ret
    exact ⟨rfl, rfl⟩
  by_cases h4 : 25 ≤ op
  · skip
    have hr : arS op = 0 := by unfold arS; rw [if_neg (by omega), if_pos (.inr h4)]
    rw [hr]; clear hr
    go_enter Tryz.func63, Tryz.ntmps63
    go_wp2
    go_ret
    exact ⟨rfl, rfl⟩
  by_cases h5 : op = 9
  · subst h5
    have hr : arS 9 = 1 := by rfl
    rw [hr]; clear hr
    go_enter Tryz.func63, Tryz.ntmps63
    go_wp2
    go_ret
    exact ⟨rfl, rfl⟩
  by_cases h6 : op = 18
  · subst h6
    have hr : arS 18 = 1 := by rfl
    rw [hr]; clear hr
    go_enter Tryz.func63, Tryz.ntmps63
    go_wp2
    go_ret
    exact ⟨rfl, rfl⟩
  have t5 : (op == 9) = false := by rw [beq_eq_false_iff_ne]; exact h5
  have t6 : (op == 18) = false := by rw [beq_eq_false_iff_ne]; exact h6
  by_cases h7 : 20 ≤ op
  · skip
    have hr : arS op = 1 := by unfold arS; rw [if_neg (by omega), if_neg (by omega), if_pos (.inr (.inr h7))]
    rw [hr]; clear hr
    go_enter Tryz.func63, Tryz.ntmps63
    go_wp2
    go_ret
    exact ⟨rfl, rfl⟩
  have hr : arS op = 2 := by unfold arS; rw [if_neg (by omega), if_neg (by omega), if_neg (by omega)]
  rw [hr]; clear hr
  go_enter Tryz.func63, Tryz.ntmps63
  go_wp2
  go_ret
  exact ⟨rfl, rfl⟩
set_option maxRecDepth 100000 in
set_option maxHeartbeats 4000000 in
theorem RArity_any (op : Int) (w : World) :
    Calls Tryz.prog 81 #[.int .i64 op] w fun e w' => e = .returned (.int .i64 (arS op)) ∧ w' = w := by
  by_cases e1 : op = 1
  · subst e1
    have hr : arS 1 = 0 := by rfl
    rw [hr]; clear hr
    go_enter Tryz.func81, Tryz.ntmps81
    go_wp2
    go_ret
    exact ⟨rfl, rfl⟩
  have t1 : (op == 1) = false := by rw [beq_eq_false_iff_ne]; exact e1
  by_cases e2 : op = 2
  · subst e2
    have hr : arS 2 = 0 := by rfl
    rw [hr]; clear hr
    go_enter Tryz.func81, Tryz.ntmps81
    go_wp2
    go_ret
    exact ⟨rfl, rfl⟩
  have t2 : (op == 2) = false := by rw [beq_eq_false_iff_ne]; exact e2
  by_cases e3 : op = 3
  · subst e3
    have hr : arS 3 = 0 := by rfl
    rw [hr]; clear hr
    go_enter Tryz.func81, Tryz.ntmps81
    go_wp2
    go_ret
    exact ⟨rfl, rfl⟩
  have t3 : (op == 3) = false := by rw [beq_eq_false_iff_ne]; exact e3
  by_cases e25 : op = 25
  · subst e25
    have hr : arS 25 = 0 := by rfl
    rw [hr]; clear hr
    go_enter Tryz.func81, Tryz.ntmps81
    go_wp2
    go_ret
    exact ⟨rfl, rfl⟩
  have t25 : (op == 25) = false := by rw [beq_eq_false_iff_ne]; exact e25
  by_cases e26 : op = 26
  · subst e26
    have hr : arS 26 = 0 := by rfl
    rw [hr]; clear hr
    go_enter Tryz.func81, Tryz.ntmps81
    go_wp2
    go_ret
    exact ⟨rfl, rfl⟩
  have t26 : (op == 26) = false := by rw [beq_eq_false_iff_ne]; exact e26
  by_cases e27 : op = 27
  · subst e27
    have hr : arS 27 = 0 := by rfl
    rw [hr]; clear hr
    go_enter Tryz.func81, Tryz.ntmps81
    go_wp2
    go_ret
    exact ⟨rfl, rfl⟩
  have t27 : (op == 27) = false := by rw [beq_eq_false_iff_ne]; exact e27
  by_cases e9 : op = 9
  · subst e9
    have hr : arS 9 = 1 := by rfl
    rw [hr]; clear hr
    go_enter Tryz.func81, Tryz.ntmps81
    go_wp2
    go_ret
    exact ⟨rfl, rfl⟩
  have t9 : (op == 9) = false := by rw [beq_eq_false_iff_ne]; exact e9
  by_cases e18 : op = 18
  · subst e18
    have hr : arS 18 = 1 := by rfl
    rw [hr]; clear hr
    go_enter Tryz.func81, Tryz.ntmps81
    go_wp2
    go_ret
    exact ⟨rfl, rfl⟩
  have t18 : (op == 18) = false := by rw [beq_eq_false_iff_ne]; exact e18
  by_cases e20 : op = 20
  · subst e20
    have hr : arS 20 = 1 := by rfl
    rw [hr]; clear hr
    go_enter Tryz.func81, Tryz.ntmps81
    go_wp2
    go_ret
    exact ⟨rfl, rfl⟩
  have t20 : (op == 20) = false := by rw [beq_eq_false_iff_ne]; exact e20
  by_cases e21 : op = 21
  · subst e21
    have hr : arS 21 = 1 := by rfl
    rw [hr]; clear hr
    go_enter Tryz.func81, Tryz.ntmps81
    go_wp2
    go_ret
    exact ⟨rfl, rfl⟩
  have t21 : (op == 21) = false := by rw [beq_eq_false_iff_ne]; exact e21
  by_cases e22 : op = 22
  · subst e22
    have hr : arS 22 = 1 := by rfl
    rw [hr]; clear hr
    go_enter Tryz.func81, Tryz.ntmps81
    go_wp2
    go_ret
    exact ⟨rfl, rfl⟩
  have t22 : (op == 22) = false := by rw [beq_eq_false_iff_ne]; exact e22
  by_cases e23 : op = 23
  · subst e23
    have hr : arS 23 = 1 := by rfl
    rw [hr]; clear hr
    go_enter Tryz.func81, Tryz.ntmps81
    go_wp2
    go_ret
    exact ⟨rfl, rfl⟩
  have t23 : (op == 23) = false := by rw [beq_eq_false_iff_ne]; exact e23
  by_cases e24 : op = 24
  · subst e24
    have hr : arS 24 = 1 := by rfl
    rw [hr]; clear hr
    go_enter Tryz.func81, Tryz.ntmps81
    go_wp2
    go_ret
    exact ⟨rfl, rfl⟩
  have t24 : (op == 24) = false := by rw [beq_eq_false_iff_ne]; exact e24
  by_cases h1 : 4 ≤ op
  rotate_left
  · skip
    have hr : arS op = -1 := by unfold arS; rw [if_pos (.inl (by omega))]
    rw [hr]; clear hr
    go_enter Tryz.func81, Tryz.ntmps81
    go_wp2
    go_ret
    exact ⟨rfl, rfl⟩
  by_cases h2 : op ≤ 19
  rotate_left
  · skip
    have hr : arS op = -1 := by unfold arS; rw [if_pos (.inr (by omega))]
    rw [hr]; clear hr
    go_enter Tryz.func81, Tryz.ntmps81
    go_wp2
    go_ret
    exact ⟨rfl, rfl⟩
  have hr : arS op = 2 := by unfold arS; rw [if_neg (by omega), if_neg (by omega), if_neg (by omega)]
  rw [hr]; clear hr
  go_enter Tryz.func81, Tryz.ntmps81
  go_wp2
  go_ret
  exact ⟨rfl, rfl⟩
set_option maxRecDepth 100000 in
set_option maxHeartbeats 8000000 in
theorem takes_any (x : Ins) (w : World) :
    Calls Tryz.prog 64 #[.agg (insV x)] w fun e w' => e = .returned (.int .i64 (takeI x)) ∧ Below w.heap.size w w' := by
  obtain ⟨op, a, b, n, s⟩ := x
  simp only [insV]
  by_cases e4 : op = 4
  · subst e4
    have hr : takeI ⟨4, a, b, n, s⟩ = 1 := by rfl
    rw [hr]; clear hr
    have hb0 := ((Below.refl w.heap.size w).alloc (Nat.le_refl _) (.cells #[.int .i64 4, .int .i64 a, .int .i64 b, .int .i64 n, .string (bs s)] 39))
    have h_HX := (Bx.new w #[.int .i64 4, .int .i64 a, .int .i64 b, .int .i64 n, .string (bs s)] 39)
    have HB := Lib.hid hb0; have HX := Lib.hid h_HX
    clear hb0 h_HX
    go_enter Tryz.func64, Tryz.ntmps64
    go_upto_region 1 with (fail)
    generalize hW0 : w.alloc (.cells #[.int .i64 4, .int .i64 a, .int .i64 b, .int .i64 n, .string (bs s)] 39) = v0 at HB HX ⊢
    clear hW0
    have x0 : v0.cell? ⟨w.heap.size, 0, none⟩ = some (.int .i64 4) := HX.out.cell 0
    have x1 : v0.cell? ⟨w.heap.size, 1, none⟩ = some (.int .i64 a) := HX.out.cell 1
    have x2 : v0.cell? ⟨w.heap.size, 2, none⟩ = some (.int .i64 b) := HX.out.cell 2
    have x3 : v0.cell? ⟨w.heap.size, 3, none⟩ = some (.int .i64 n) := HX.out.cell 3
    have x4 : v0.cell? ⟨w.heap.size, 4, none⟩ = some (.string (bs s)) := HX.out.cell 4
    go_wp2
    go_ret
    exact ⟨rfl, HB.out⟩
  have t4 : (op == 4) = false := by rw [beq_eq_false_iff_ne]; exact e4
  by_cases e7 : op = 7
  · subst e7
    have hr : takeI ⟨7, a, b, n, s⟩ = 1 := by rfl
    rw [hr]; clear hr
    have hb0 := ((Below.refl w.heap.size w).alloc (Nat.le_refl _) (.cells #[.int .i64 7, .int .i64 a, .int .i64 b, .int .i64 n, .string (bs s)] 39))
    have h_HX := (Bx.new w #[.int .i64 7, .int .i64 a, .int .i64 b, .int .i64 n, .string (bs s)] 39)
    have HB := Lib.hid hb0; have HX := Lib.hid h_HX
    clear hb0 h_HX
    go_enter Tryz.func64, Tryz.ntmps64
    go_upto_region 1 with (fail)
    generalize hW0 : w.alloc (.cells #[.int .i64 7, .int .i64 a, .int .i64 b, .int .i64 n, .string (bs s)] 39) = v0 at HB HX ⊢
    clear hW0
    have x0 : v0.cell? ⟨w.heap.size, 0, none⟩ = some (.int .i64 7) := HX.out.cell 0
    have x1 : v0.cell? ⟨w.heap.size, 1, none⟩ = some (.int .i64 a) := HX.out.cell 1
    have x2 : v0.cell? ⟨w.heap.size, 2, none⟩ = some (.int .i64 b) := HX.out.cell 2
    have x3 : v0.cell? ⟨w.heap.size, 3, none⟩ = some (.int .i64 n) := HX.out.cell 3
    have x4 : v0.cell? ⟨w.heap.size, 4, none⟩ = some (.string (bs s)) := HX.out.cell 4
    go_wp2
    go_ret
    exact ⟨rfl, HB.out⟩
  have t7 : (op == 7) = false := by rw [beq_eq_false_iff_ne]; exact e7
  by_cases e9 : op = 9
  · subst e9
    have hr : takeI ⟨9, a, b, n, s⟩ = 1 := by rfl
    rw [hr]; clear hr
    have hb0 := ((Below.refl w.heap.size w).alloc (Nat.le_refl _) (.cells #[.int .i64 9, .int .i64 a, .int .i64 b, .int .i64 n, .string (bs s)] 39))
    have h_HX := (Bx.new w #[.int .i64 9, .int .i64 a, .int .i64 b, .int .i64 n, .string (bs s)] 39)
    have HB := Lib.hid hb0; have HX := Lib.hid h_HX
    clear hb0 h_HX
    go_enter Tryz.func64, Tryz.ntmps64
    go_upto_region 1 with (fail)
    generalize hW0 : w.alloc (.cells #[.int .i64 9, .int .i64 a, .int .i64 b, .int .i64 n, .string (bs s)] 39) = v0 at HB HX ⊢
    clear hW0
    have x0 : v0.cell? ⟨w.heap.size, 0, none⟩ = some (.int .i64 9) := HX.out.cell 0
    have x1 : v0.cell? ⟨w.heap.size, 1, none⟩ = some (.int .i64 a) := HX.out.cell 1
    have x2 : v0.cell? ⟨w.heap.size, 2, none⟩ = some (.int .i64 b) := HX.out.cell 2
    have x3 : v0.cell? ⟨w.heap.size, 3, none⟩ = some (.int .i64 n) := HX.out.cell 3
    have x4 : v0.cell? ⟨w.heap.size, 4, none⟩ = some (.string (bs s)) := HX.out.cell 4
    go_wp2
    go_ret
    exact ⟨rfl, HB.out⟩
  have t9 : (op == 9) = false := by rw [beq_eq_false_iff_ne]; exact e9
  by_cases e10 : op = 10
  · subst e10
    have hr : takeI ⟨10, a, b, n, s⟩ = 1 := by rfl
    rw [hr]; clear hr
    have hb0 := ((Below.refl w.heap.size w).alloc (Nat.le_refl _) (.cells #[.int .i64 10, .int .i64 a, .int .i64 b, .int .i64 n, .string (bs s)] 39))
    have h_HX := (Bx.new w #[.int .i64 10, .int .i64 a, .int .i64 b, .int .i64 n, .string (bs s)] 39)
    have HB := Lib.hid hb0; have HX := Lib.hid h_HX
    clear hb0 h_HX
    go_enter Tryz.func64, Tryz.ntmps64
    go_upto_region 1 with (fail)
    generalize hW0 : w.alloc (.cells #[.int .i64 10, .int .i64 a, .int .i64 b, .int .i64 n, .string (bs s)] 39) = v0 at HB HX ⊢
    clear hW0
    have x0 : v0.cell? ⟨w.heap.size, 0, none⟩ = some (.int .i64 10) := HX.out.cell 0
    have x1 : v0.cell? ⟨w.heap.size, 1, none⟩ = some (.int .i64 a) := HX.out.cell 1
    have x2 : v0.cell? ⟨w.heap.size, 2, none⟩ = some (.int .i64 b) := HX.out.cell 2
    have x3 : v0.cell? ⟨w.heap.size, 3, none⟩ = some (.int .i64 n) := HX.out.cell 3
    have x4 : v0.cell? ⟨w.heap.size, 4, none⟩ = some (.string (bs s)) := HX.out.cell 4
    go_wp2
    go_ret
    exact ⟨rfl, HB.out⟩
  have t10 : (op == 10) = false := by rw [beq_eq_false_iff_ne]; exact e10
  by_cases e8 : op = 8
  · subst e8
    have hr : takeI ⟨8, a, b, n, s⟩ = 2 := by rfl
    rw [hr]; clear hr
    have hb0 := ((Below.refl w.heap.size w).alloc (Nat.le_refl _) (.cells #[.int .i64 8, .int .i64 a, .int .i64 b, .int .i64 n, .string (bs s)] 39))
    have h_HX := (Bx.new w #[.int .i64 8, .int .i64 a, .int .i64 b, .int .i64 n, .string (bs s)] 39)
    have HB := Lib.hid hb0; have HX := Lib.hid h_HX
    clear hb0 h_HX
    go_enter Tryz.func64, Tryz.ntmps64
    go_upto_region 1 with (fail)
    generalize hW0 : w.alloc (.cells #[.int .i64 8, .int .i64 a, .int .i64 b, .int .i64 n, .string (bs s)] 39) = v0 at HB HX ⊢
    clear hW0
    have x0 : v0.cell? ⟨w.heap.size, 0, none⟩ = some (.int .i64 8) := HX.out.cell 0
    have x1 : v0.cell? ⟨w.heap.size, 1, none⟩ = some (.int .i64 a) := HX.out.cell 1
    have x2 : v0.cell? ⟨w.heap.size, 2, none⟩ = some (.int .i64 b) := HX.out.cell 2
    have x3 : v0.cell? ⟨w.heap.size, 3, none⟩ = some (.int .i64 n) := HX.out.cell 3
    have x4 : v0.cell? ⟨w.heap.size, 4, none⟩ = some (.string (bs s)) := HX.out.cell 4
    go_wp2
    go_ret
    exact ⟨rfl, HB.out⟩
  have t8 : (op == 8) = false := by rw [beq_eq_false_iff_ne]; exact e8
  by_cases e5 : op = 5
  · subst e5
    have hr : takeI ⟨5, a, b, n, s⟩ = arS a := by rfl
    rw [hr]; clear hr
    have hb0 := ((Below.refl w.heap.size w).alloc (Nat.le_refl _) (.cells #[.int .i64 5, .int .i64 a, .int .i64 b, .int .i64 n, .string (bs s)] 39))
    have h_HX := (Bx.new w #[.int .i64 5, .int .i64 a, .int .i64 b, .int .i64 n, .string (bs s)] 39)
    have HB := Lib.hid hb0; have HX := Lib.hid h_HX
    clear hb0 h_HX
    go_enter Tryz.func64, Tryz.ntmps64
    go_upto_region 1 with (fail)
    generalize hW0 : w.alloc (.cells #[.int .i64 5, .int .i64 a, .int .i64 b, .int .i64 n, .string (bs s)] 39) = v0 at HB HX ⊢
    clear hW0
    have x0 : v0.cell? ⟨w.heap.size, 0, none⟩ = some (.int .i64 5) := HX.out.cell 0
    have x1 : v0.cell? ⟨w.heap.size, 1, none⟩ = some (.int .i64 a) := HX.out.cell 1
    have x2 : v0.cell? ⟨w.heap.size, 2, none⟩ = some (.int .i64 b) := HX.out.cell 2
    have x3 : v0.cell? ⟨w.heap.size, 3, none⟩ = some (.int .i64 n) := HX.out.cell 3
    have x4 : v0.cell? ⟨w.heap.size, 4, none⟩ = some (.string (bs s)) := HX.out.cell 4
    go_wp2_with fail
    refine (Arity_any a _).mono ?_
    rintro er w1 ⟨rfl, rfl⟩
    go_wp2
    go_ret
    exact ⟨rfl, HB.out⟩
  have t5 : (op == 5) = false := by rw [beq_eq_false_iff_ne]; exact e5
  have hr : takeI ⟨op, a, b, n, s⟩ = 0 := by unfold takeI; simp [e4, e7, e9, e10, e8, e5]
  rw [hr]; clear hr
  have hb0 := ((Below.refl w.heap.size w).alloc (Nat.le_refl _) (.cells #[.int .i64 op, .int .i64 a, .int .i64 b, .int .i64 n, .string (bs s)] 39))
  have h_HX := (Bx.new w #[.int .i64 op, .int .i64 a, .int .i64 b, .int .i64 n, .string (bs s)] 39)
  have HB := Lib.hid hb0; have HX := Lib.hid h_HX
  clear hb0 h_HX
  go_enter Tryz.func64, Tryz.ntmps64
  go_upto_region 1 with (fail)
  generalize hW0 : w.alloc (.cells #[.int .i64 op, .int .i64 a, .int .i64 b, .int .i64 n, .string (bs s)] 39) = v0 at HB HX ⊢
  clear hW0
  have x0 : v0.cell? ⟨w.heap.size, 0, none⟩ = some (.int .i64 op) := HX.out.cell 0
  have x1 : v0.cell? ⟨w.heap.size, 1, none⟩ = some (.int .i64 a) := HX.out.cell 1
  have x2 : v0.cell? ⟨w.heap.size, 2, none⟩ = some (.int .i64 b) := HX.out.cell 2
  have x3 : v0.cell? ⟨w.heap.size, 3, none⟩ = some (.int .i64 n) := HX.out.cell 3
  have x4 : v0.cell? ⟨w.heap.size, 4, none⟩ = some (.string (bs s)) := HX.out.cell 4
  go_wp2
  go_ret
  exact ⟨rfl, HB.out⟩
set_option maxRecDepth 100000 in
set_option maxHeartbeats 8000000 in
theorem Rtakes_any (x : Ins) (w : World) :
    Calls Tryz.prog 45 #[.agg (insV x)] w fun e w' => e = .returned (.int .i64 (takeI x)) ∧ Below w.heap.size w w' := by
  obtain ⟨op, a, b, n, s⟩ := x
  simp only [insV]
  by_cases e4 : op = 4
  · subst e4
    have hr : takeI ⟨4, a, b, n, s⟩ = 1 := by rfl
    rw [hr]; clear hr
    have hb0 := ((Below.refl w.heap.size w).alloc (Nat.le_refl _) (.cells #[.int .i64 4, .int .i64 a, .int .i64 b, .int .i64 n, .string (bs s)] 39))
    have h_HX := (Bx.new w #[.int .i64 4, .int .i64 a, .int .i64 b, .int .i64 n, .string (bs s)] 39)
    have HB := Lib.hid hb0; have HX := Lib.hid h_HX
    clear hb0 h_HX
    go_enter Tryz.func45, Tryz.ntmps45
    go_upto_region 1 with (fail)
    generalize hW0 : w.alloc (.cells #[.int .i64 4, .int .i64 a, .int .i64 b, .int .i64 n, .string (bs s)] 39) = v0 at HB HX ⊢
    clear hW0
    have x0 : v0.cell? ⟨w.heap.size, 0, none⟩ = some (.int .i64 4) := HX.out.cell 0
    have x1 : v0.cell? ⟨w.heap.size, 1, none⟩ = some (.int .i64 a) := HX.out.cell 1
    have x2 : v0.cell? ⟨w.heap.size, 2, none⟩ = some (.int .i64 b) := HX.out.cell 2
    have x3 : v0.cell? ⟨w.heap.size, 3, none⟩ = some (.int .i64 n) := HX.out.cell 3
    have x4 : v0.cell? ⟨w.heap.size, 4, none⟩ = some (.string (bs s)) := HX.out.cell 4
    go_wp2
    go_ret
    exact ⟨rfl, HB.out⟩
  have t4 : (op == 4) = false := by rw [beq_eq_false_iff_ne]; exact e4
  by_cases e7 : op = 7
  · subst e7
    have hr : takeI ⟨7, a, b, n, s⟩ = 1 := by rfl
    rw [hr]; clear hr
    have hb0 := ((Below.refl w.heap.size w).alloc (Nat.le_refl _) (.cells #[.int .i64 7, .int .i64 a, .int .i64 b, .int .i64 n, .string (bs s)] 39))
    have h_HX := (Bx.new w #[.int .i64 7, .int .i64 a, .int .i64 b, .int .i64 n, .string (bs s)] 39)
    have HB := Lib.hid hb0; have HX := Lib.hid h_HX
    clear hb0 h_HX
    go_enter Tryz.func45, Tryz.ntmps45
    go_upto_region 1 with (fail)
    generalize hW0 : w.alloc (.cells #[.int .i64 7, .int .i64 a, .int .i64 b, .int .i64 n, .string (bs s)] 39) = v0 at HB HX ⊢
    clear hW0
    have x0 : v0.cell? ⟨w.heap.size, 0, none⟩ = some (.int .i64 7) := HX.out.cell 0
    have x1 : v0.cell? ⟨w.heap.size, 1, none⟩ = some (.int .i64 a) := HX.out.cell 1
    have x2 : v0.cell? ⟨w.heap.size, 2, none⟩ = some (.int .i64 b) := HX.out.cell 2
    have x3 : v0.cell? ⟨w.heap.size, 3, none⟩ = some (.int .i64 n) := HX.out.cell 3
    have x4 : v0.cell? ⟨w.heap.size, 4, none⟩ = some (.string (bs s)) := HX.out.cell 4
    go_wp2
    go_ret
    exact ⟨rfl, HB.out⟩
  have t7 : (op == 7) = false := by rw [beq_eq_false_iff_ne]; exact e7
  by_cases e9 : op = 9
  · subst e9
    have hr : takeI ⟨9, a, b, n, s⟩ = 1 := by rfl
    rw [hr]; clear hr
    have hb0 := ((Below.refl w.heap.size w).alloc (Nat.le_refl _) (.cells #[.int .i64 9, .int .i64 a, .int .i64 b, .int .i64 n, .string (bs s)] 39))
    have h_HX := (Bx.new w #[.int .i64 9, .int .i64 a, .int .i64 b, .int .i64 n, .string (bs s)] 39)
    have HB := Lib.hid hb0; have HX := Lib.hid h_HX
    clear hb0 h_HX
    go_enter Tryz.func45, Tryz.ntmps45
    go_upto_region 1 with (fail)
    generalize hW0 : w.alloc (.cells #[.int .i64 9, .int .i64 a, .int .i64 b, .int .i64 n, .string (bs s)] 39) = v0 at HB HX ⊢
    clear hW0
    have x0 : v0.cell? ⟨w.heap.size, 0, none⟩ = some (.int .i64 9) := HX.out.cell 0
    have x1 : v0.cell? ⟨w.heap.size, 1, none⟩ = some (.int .i64 a) := HX.out.cell 1
    have x2 : v0.cell? ⟨w.heap.size, 2, none⟩ = some (.int .i64 b) := HX.out.cell 2
    have x3 : v0.cell? ⟨w.heap.size, 3, none⟩ = some (.int .i64 n) := HX.out.cell 3
    have x4 : v0.cell? ⟨w.heap.size, 4, none⟩ = some (.string (bs s)) := HX.out.cell 4
    go_wp2
    go_ret
    exact ⟨rfl, HB.out⟩
  have t9 : (op == 9) = false := by rw [beq_eq_false_iff_ne]; exact e9
  by_cases e10 : op = 10
  · subst e10
    have hr : takeI ⟨10, a, b, n, s⟩ = 1 := by rfl
    rw [hr]; clear hr
    have hb0 := ((Below.refl w.heap.size w).alloc (Nat.le_refl _) (.cells #[.int .i64 10, .int .i64 a, .int .i64 b, .int .i64 n, .string (bs s)] 39))
    have h_HX := (Bx.new w #[.int .i64 10, .int .i64 a, .int .i64 b, .int .i64 n, .string (bs s)] 39)
    have HB := Lib.hid hb0; have HX := Lib.hid h_HX
    clear hb0 h_HX
    go_enter Tryz.func45, Tryz.ntmps45
    go_upto_region 1 with (fail)
    generalize hW0 : w.alloc (.cells #[.int .i64 10, .int .i64 a, .int .i64 b, .int .i64 n, .string (bs s)] 39) = v0 at HB HX ⊢
    clear hW0
    have x0 : v0.cell? ⟨w.heap.size, 0, none⟩ = some (.int .i64 10) := HX.out.cell 0
    have x1 : v0.cell? ⟨w.heap.size, 1, none⟩ = some (.int .i64 a) := HX.out.cell 1
    have x2 : v0.cell? ⟨w.heap.size, 2, none⟩ = some (.int .i64 b) := HX.out.cell 2
    have x3 : v0.cell? ⟨w.heap.size, 3, none⟩ = some (.int .i64 n) := HX.out.cell 3
    have x4 : v0.cell? ⟨w.heap.size, 4, none⟩ = some (.string (bs s)) := HX.out.cell 4
    go_wp2
    go_ret
    exact ⟨rfl, HB.out⟩
  have t10 : (op == 10) = false := by rw [beq_eq_false_iff_ne]; exact e10
  by_cases e8 : op = 8
  · subst e8
    have hr : takeI ⟨8, a, b, n, s⟩ = 2 := by rfl
    rw [hr]; clear hr
    have hb0 := ((Below.refl w.heap.size w).alloc (Nat.le_refl _) (.cells #[.int .i64 8, .int .i64 a, .int .i64 b, .int .i64 n, .string (bs s)] 39))
    have h_HX := (Bx.new w #[.int .i64 8, .int .i64 a, .int .i64 b, .int .i64 n, .string (bs s)] 39)
    have HB := Lib.hid hb0; have HX := Lib.hid h_HX
    clear hb0 h_HX
    go_enter Tryz.func45, Tryz.ntmps45
    go_upto_region 1 with (fail)
    generalize hW0 : w.alloc (.cells #[.int .i64 8, .int .i64 a, .int .i64 b, .int .i64 n, .string (bs s)] 39) = v0 at HB HX ⊢
    clear hW0
    have x0 : v0.cell? ⟨w.heap.size, 0, none⟩ = some (.int .i64 8) := HX.out.cell 0
    have x1 : v0.cell? ⟨w.heap.size, 1, none⟩ = some (.int .i64 a) := HX.out.cell 1
    have x2 : v0.cell? ⟨w.heap.size, 2, none⟩ = some (.int .i64 b) := HX.out.cell 2
    have x3 : v0.cell? ⟨w.heap.size, 3, none⟩ = some (.int .i64 n) := HX.out.cell 3
    have x4 : v0.cell? ⟨w.heap.size, 4, none⟩ = some (.string (bs s)) := HX.out.cell 4
    go_wp2
    go_ret
    exact ⟨rfl, HB.out⟩
  have t8 : (op == 8) = false := by rw [beq_eq_false_iff_ne]; exact e8
  by_cases e5 : op = 5
  · subst e5
    have hr : takeI ⟨5, a, b, n, s⟩ = arS a := by rfl
    rw [hr]; clear hr
    have hb0 := ((Below.refl w.heap.size w).alloc (Nat.le_refl _) (.cells #[.int .i64 5, .int .i64 a, .int .i64 b, .int .i64 n, .string (bs s)] 39))
    have h_HX := (Bx.new w #[.int .i64 5, .int .i64 a, .int .i64 b, .int .i64 n, .string (bs s)] 39)
    have HB := Lib.hid hb0; have HX := Lib.hid h_HX
    clear hb0 h_HX
    go_enter Tryz.func45, Tryz.ntmps45
    go_upto_region 1 with (fail)
    generalize hW0 : w.alloc (.cells #[.int .i64 5, .int .i64 a, .int .i64 b, .int .i64 n, .string (bs s)] 39) = v0 at HB HX ⊢
    clear hW0
    have x0 : v0.cell? ⟨w.heap.size, 0, none⟩ = some (.int .i64 5) := HX.out.cell 0
    have x1 : v0.cell? ⟨w.heap.size, 1, none⟩ = some (.int .i64 a) := HX.out.cell 1
    have x2 : v0.cell? ⟨w.heap.size, 2, none⟩ = some (.int .i64 b) := HX.out.cell 2
    have x3 : v0.cell? ⟨w.heap.size, 3, none⟩ = some (.int .i64 n) := HX.out.cell 3
    have x4 : v0.cell? ⟨w.heap.size, 4, none⟩ = some (.string (bs s)) := HX.out.cell 4
    go_wp2_with fail
    refine (RArity_any a _).mono ?_
    rintro er w1 ⟨rfl, rfl⟩
    go_wp2
    go_ret
    exact ⟨rfl, HB.out⟩
  have t5 : (op == 5) = false := by rw [beq_eq_false_iff_ne]; exact e5
  have hr : takeI ⟨op, a, b, n, s⟩ = 0 := by unfold takeI; simp [e4, e7, e9, e10, e8, e5]
  rw [hr]; clear hr
  have hb0 := ((Below.refl w.heap.size w).alloc (Nat.le_refl _) (.cells #[.int .i64 op, .int .i64 a, .int .i64 b, .int .i64 n, .string (bs s)] 39))
  have h_HX := (Bx.new w #[.int .i64 op, .int .i64 a, .int .i64 b, .int .i64 n, .string (bs s)] 39)
  have HB := Lib.hid hb0; have HX := Lib.hid h_HX
  clear hb0 h_HX
  go_enter Tryz.func45, Tryz.ntmps45
  go_upto_region 1 with (fail)
  generalize hW0 : w.alloc (.cells #[.int .i64 op, .int .i64 a, .int .i64 b, .int .i64 n, .string (bs s)] 39) = v0 at HB HX ⊢
  clear hW0
  have x0 : v0.cell? ⟨w.heap.size, 0, none⟩ = some (.int .i64 op) := HX.out.cell 0
  have x1 : v0.cell? ⟨w.heap.size, 1, none⟩ = some (.int .i64 a) := HX.out.cell 1
  have x2 : v0.cell? ⟨w.heap.size, 2, none⟩ = some (.int .i64 b) := HX.out.cell 2
  have x3 : v0.cell? ⟨w.heap.size, 3, none⟩ = some (.int .i64 n) := HX.out.cell 3
  have x4 : v0.cell? ⟨w.heap.size, 4, none⟩ = some (.string (bs s)) := HX.out.cell 4
  go_wp2
  go_ret
  exact ⟨rfl, HB.out⟩
set_option maxRecDepth 100000 in
set_option maxHeartbeats 8000000 in
theorem puts_any (x : Ins) (w : World) :
    Calls Tryz.prog 65 #[.agg (insV x)] w fun e w' => e = .returned (.int .i64 (putI x)) ∧ Below w.heap.size w w' := by
  obtain ⟨op, a, b, n, s⟩ := x
  simp only [insV]
  by_cases e1 : op = 1
  · subst e1
    have hr : putI ⟨1, a, b, n, s⟩ = 1 := by rfl
    rw [hr]; clear hr
    have hb0 := ((Below.refl w.heap.size w).alloc (Nat.le_refl _) (.cells #[.int .i64 1, .int .i64 a, .int .i64 b, .int .i64 n, .string (bs s)] 39))
    have h_HX := (Bx.new w #[.int .i64 1, .int .i64 a, .int .i64 b, .int .i64 n, .string (bs s)] 39)
    have HB := Lib.hid hb0; have HX := Lib.hid h_HX
    clear hb0 h_HX
    go_enter Tryz.func65, Tryz.ntmps65
    go_upto_region 1 with (fail)
    generalize hW0 : w.alloc (.cells #[.int .i64 1, .int .i64 a, .int .i64 b, .int .i64 n, .string (bs s)] 39) = v0 at HB HX ⊢
    clear hW0
    have x0 : v0.cell? ⟨w.heap.size, 0, none⟩ = some (.int .i64 1) := HX.out.cell 0
    have x1 : v0.cell? ⟨w.heap.size, 1, none⟩ = some (.int .i64 a) := HX.out.cell 1
    have x2 : v0.cell? ⟨w.heap.size, 2, none⟩ = some (.int .i64 b) := HX.out.cell 2
    have x3 : v0.cell? ⟨w.heap.size, 3, none⟩ = some (.int .i64 n) := HX.out.cell 3
    have x4 : v0.cell? ⟨w.heap.size, 4, none⟩ = some (.string (bs s)) := HX.out.cell 4
    go_wp2
    go_ret
    exact ⟨rfl, HB.out⟩
  have t1 : (op == 1) = false := by rw [beq_eq_false_iff_ne]; exact e1
  by_cases e2 : op = 2
  · subst e2
    have hr : putI ⟨2, a, b, n, s⟩ = 1 := by rfl
    rw [hr]; clear hr
    have hb0 := ((Below.refl w.heap.size w).alloc (Nat.le_refl _) (.cells #[.int .i64 2, .int .i64 a, .int .i64 b, .int .i64 n, .string (bs s)] 39))
    have h_HX := (Bx.new w #[.int .i64 2, .int .i64 a, .int .i64 b, .int .i64 n, .string (bs s)] 39)
    have HB := Lib.hid hb0; have HX := Lib.hid h_HX
    clear hb0 h_HX
    go_enter Tryz.func65, Tryz.ntmps65
    go_upto_region 1 with (fail)
    generalize hW0 : w.alloc (.cells #[.int .i64 2, .int .i64 a, .int .i64 b, .int .i64 n, .string (bs s)] 39) = v0 at HB HX ⊢
    clear hW0
    have x0 : v0.cell? ⟨w.heap.size, 0, none⟩ = some (.int .i64 2) := HX.out.cell 0
    have x1 : v0.cell? ⟨w.heap.size, 1, none⟩ = some (.int .i64 a) := HX.out.cell 1
    have x2 : v0.cell? ⟨w.heap.size, 2, none⟩ = some (.int .i64 b) := HX.out.cell 2
    have x3 : v0.cell? ⟨w.heap.size, 3, none⟩ = some (.int .i64 n) := HX.out.cell 3
    have x4 : v0.cell? ⟨w.heap.size, 4, none⟩ = some (.string (bs s)) := HX.out.cell 4
    go_wp2
    go_ret
    exact ⟨rfl, HB.out⟩
  have t2 : (op == 2) = false := by rw [beq_eq_false_iff_ne]; exact e2
  by_cases e3 : op = 3
  · subst e3
    have hr : putI ⟨3, a, b, n, s⟩ = 1 := by rfl
    rw [hr]; clear hr
    have hb0 := ((Below.refl w.heap.size w).alloc (Nat.le_refl _) (.cells #[.int .i64 3, .int .i64 a, .int .i64 b, .int .i64 n, .string (bs s)] 39))
    have h_HX := (Bx.new w #[.int .i64 3, .int .i64 a, .int .i64 b, .int .i64 n, .string (bs s)] 39)
    have HB := Lib.hid hb0; have HX := Lib.hid h_HX
    clear hb0 h_HX
    go_enter Tryz.func65, Tryz.ntmps65
    go_upto_region 1 with (fail)
    generalize hW0 : w.alloc (.cells #[.int .i64 3, .int .i64 a, .int .i64 b, .int .i64 n, .string (bs s)] 39) = v0 at HB HX ⊢
    clear hW0
    have x0 : v0.cell? ⟨w.heap.size, 0, none⟩ = some (.int .i64 3) := HX.out.cell 0
    have x1 : v0.cell? ⟨w.heap.size, 1, none⟩ = some (.int .i64 a) := HX.out.cell 1
    have x2 : v0.cell? ⟨w.heap.size, 2, none⟩ = some (.int .i64 b) := HX.out.cell 2
    have x3 : v0.cell? ⟨w.heap.size, 3, none⟩ = some (.int .i64 n) := HX.out.cell 3
    have x4 : v0.cell? ⟨w.heap.size, 4, none⟩ = some (.string (bs s)) := HX.out.cell 4
    go_wp2
    go_ret
    exact ⟨rfl, HB.out⟩
  have t3 : (op == 3) = false := by rw [beq_eq_false_iff_ne]; exact e3
  by_cases e5 : op = 5
  · subst e5
    have hr : putI ⟨5, a, b, n, s⟩ = 1 := by rfl
    rw [hr]; clear hr
    have hb0 := ((Below.refl w.heap.size w).alloc (Nat.le_refl _) (.cells #[.int .i64 5, .int .i64 a, .int .i64 b, .int .i64 n, .string (bs s)] 39))
    have h_HX := (Bx.new w #[.int .i64 5, .int .i64 a, .int .i64 b, .int .i64 n, .string (bs s)] 39)
    have HB := Lib.hid hb0; have HX := Lib.hid h_HX
    clear hb0 h_HX
    go_enter Tryz.func65, Tryz.ntmps65
    go_upto_region 1 with (fail)
    generalize hW0 : w.alloc (.cells #[.int .i64 5, .int .i64 a, .int .i64 b, .int .i64 n, .string (bs s)] 39) = v0 at HB HX ⊢
    clear hW0
    have x0 : v0.cell? ⟨w.heap.size, 0, none⟩ = some (.int .i64 5) := HX.out.cell 0
    have x1 : v0.cell? ⟨w.heap.size, 1, none⟩ = some (.int .i64 a) := HX.out.cell 1
    have x2 : v0.cell? ⟨w.heap.size, 2, none⟩ = some (.int .i64 b) := HX.out.cell 2
    have x3 : v0.cell? ⟨w.heap.size, 3, none⟩ = some (.int .i64 n) := HX.out.cell 3
    have x4 : v0.cell? ⟨w.heap.size, 4, none⟩ = some (.string (bs s)) := HX.out.cell 4
    go_wp2
    go_ret
    exact ⟨rfl, HB.out⟩
  have t5 : (op == 5) = false := by rw [beq_eq_false_iff_ne]; exact e5
  have hr : putI ⟨op, a, b, n, s⟩ = 0 := by unfold putI; simp [e1, e2, e3, e5]
  rw [hr]; clear hr
  have hb0 := ((Below.refl w.heap.size w).alloc (Nat.le_refl _) (.cells #[.int .i64 op, .int .i64 a, .int .i64 b, .int .i64 n, .string (bs s)] 39))
  have h_HX := (Bx.new w #[.int .i64 op, .int .i64 a, .int .i64 b, .int .i64 n, .string (bs s)] 39)
  have HB := Lib.hid hb0; have HX := Lib.hid h_HX
  clear hb0 h_HX
  go_enter Tryz.func65, Tryz.ntmps65
  go_upto_region 1 with (fail)
  generalize hW0 : w.alloc (.cells #[.int .i64 op, .int .i64 a, .int .i64 b, .int .i64 n, .string (bs s)] 39) = v0 at HB HX ⊢
  clear hW0
  have x0 : v0.cell? ⟨w.heap.size, 0, none⟩ = some (.int .i64 op) := HX.out.cell 0
  have x1 : v0.cell? ⟨w.heap.size, 1, none⟩ = some (.int .i64 a) := HX.out.cell 1
  have x2 : v0.cell? ⟨w.heap.size, 2, none⟩ = some (.int .i64 b) := HX.out.cell 2
  have x3 : v0.cell? ⟨w.heap.size, 3, none⟩ = some (.int .i64 n) := HX.out.cell 3
  have x4 : v0.cell? ⟨w.heap.size, 4, none⟩ = some (.string (bs s)) := HX.out.cell 4
  go_wp2
  go_ret
  exact ⟨rfl, HB.out⟩
set_option maxRecDepth 100000 in
set_option maxHeartbeats 8000000 in
theorem Rputs_any (x : Ins) (w : World) :
    Calls Tryz.prog 46 #[.agg (insV x)] w fun e w' => e = .returned (.int .i64 (putI x)) ∧ Below w.heap.size w w' := by
  obtain ⟨op, a, b, n, s⟩ := x
  simp only [insV]
  by_cases e1 : op = 1
  · subst e1
    have hr : putI ⟨1, a, b, n, s⟩ = 1 := by rfl
    rw [hr]; clear hr
    have hb0 := ((Below.refl w.heap.size w).alloc (Nat.le_refl _) (.cells #[.int .i64 1, .int .i64 a, .int .i64 b, .int .i64 n, .string (bs s)] 39))
    have h_HX := (Bx.new w #[.int .i64 1, .int .i64 a, .int .i64 b, .int .i64 n, .string (bs s)] 39)
    have HB := Lib.hid hb0; have HX := Lib.hid h_HX
    clear hb0 h_HX
    go_enter Tryz.func46, Tryz.ntmps46
    go_upto_region 1 with (fail)
    generalize hW0 : w.alloc (.cells #[.int .i64 1, .int .i64 a, .int .i64 b, .int .i64 n, .string (bs s)] 39) = v0 at HB HX ⊢
    clear hW0
    have x0 : v0.cell? ⟨w.heap.size, 0, none⟩ = some (.int .i64 1) := HX.out.cell 0
    have x1 : v0.cell? ⟨w.heap.size, 1, none⟩ = some (.int .i64 a) := HX.out.cell 1
    have x2 : v0.cell? ⟨w.heap.size, 2, none⟩ = some (.int .i64 b) := HX.out.cell 2
    have x3 : v0.cell? ⟨w.heap.size, 3, none⟩ = some (.int .i64 n) := HX.out.cell 3
    have x4 : v0.cell? ⟨w.heap.size, 4, none⟩ = some (.string (bs s)) := HX.out.cell 4
    go_wp2
    go_ret
    exact ⟨rfl, HB.out⟩
  have t1 : (op == 1) = false := by rw [beq_eq_false_iff_ne]; exact e1
  by_cases e2 : op = 2
  · subst e2
    have hr : putI ⟨2, a, b, n, s⟩ = 1 := by rfl
    rw [hr]; clear hr
    have hb0 := ((Below.refl w.heap.size w).alloc (Nat.le_refl _) (.cells #[.int .i64 2, .int .i64 a, .int .i64 b, .int .i64 n, .string (bs s)] 39))
    have h_HX := (Bx.new w #[.int .i64 2, .int .i64 a, .int .i64 b, .int .i64 n, .string (bs s)] 39)
    have HB := Lib.hid hb0; have HX := Lib.hid h_HX
    clear hb0 h_HX
    go_enter Tryz.func46, Tryz.ntmps46
    go_upto_region 1 with (fail)
    generalize hW0 : w.alloc (.cells #[.int .i64 2, .int .i64 a, .int .i64 b, .int .i64 n, .string (bs s)] 39) = v0 at HB HX ⊢
    clear hW0
    have x0 : v0.cell? ⟨w.heap.size, 0, none⟩ = some (.int .i64 2) := HX.out.cell 0
    have x1 : v0.cell? ⟨w.heap.size, 1, none⟩ = some (.int .i64 a) := HX.out.cell 1
    have x2 : v0.cell? ⟨w.heap.size, 2, none⟩ = some (.int .i64 b) := HX.out.cell 2
    have x3 : v0.cell? ⟨w.heap.size, 3, none⟩ = some (.int .i64 n) := HX.out.cell 3
    have x4 : v0.cell? ⟨w.heap.size, 4, none⟩ = some (.string (bs s)) := HX.out.cell 4
    go_wp2
    go_ret
    exact ⟨rfl, HB.out⟩
  have t2 : (op == 2) = false := by rw [beq_eq_false_iff_ne]; exact e2
  by_cases e3 : op = 3
  · subst e3
    have hr : putI ⟨3, a, b, n, s⟩ = 1 := by rfl
    rw [hr]; clear hr
    have hb0 := ((Below.refl w.heap.size w).alloc (Nat.le_refl _) (.cells #[.int .i64 3, .int .i64 a, .int .i64 b, .int .i64 n, .string (bs s)] 39))
    have h_HX := (Bx.new w #[.int .i64 3, .int .i64 a, .int .i64 b, .int .i64 n, .string (bs s)] 39)
    have HB := Lib.hid hb0; have HX := Lib.hid h_HX
    clear hb0 h_HX
    go_enter Tryz.func46, Tryz.ntmps46
    go_upto_region 1 with (fail)
    generalize hW0 : w.alloc (.cells #[.int .i64 3, .int .i64 a, .int .i64 b, .int .i64 n, .string (bs s)] 39) = v0 at HB HX ⊢
    clear hW0
    have x0 : v0.cell? ⟨w.heap.size, 0, none⟩ = some (.int .i64 3) := HX.out.cell 0
    have x1 : v0.cell? ⟨w.heap.size, 1, none⟩ = some (.int .i64 a) := HX.out.cell 1
    have x2 : v0.cell? ⟨w.heap.size, 2, none⟩ = some (.int .i64 b) := HX.out.cell 2
    have x3 : v0.cell? ⟨w.heap.size, 3, none⟩ = some (.int .i64 n) := HX.out.cell 3
    have x4 : v0.cell? ⟨w.heap.size, 4, none⟩ = some (.string (bs s)) := HX.out.cell 4
    go_wp2
    go_ret
    exact ⟨rfl, HB.out⟩
  have t3 : (op == 3) = false := by rw [beq_eq_false_iff_ne]; exact e3
  by_cases e5 : op = 5
  · subst e5
    have hr : putI ⟨5, a, b, n, s⟩ = 1 := by rfl
    rw [hr]; clear hr
    have hb0 := ((Below.refl w.heap.size w).alloc (Nat.le_refl _) (.cells #[.int .i64 5, .int .i64 a, .int .i64 b, .int .i64 n, .string (bs s)] 39))
    have h_HX := (Bx.new w #[.int .i64 5, .int .i64 a, .int .i64 b, .int .i64 n, .string (bs s)] 39)
    have HB := Lib.hid hb0; have HX := Lib.hid h_HX
    clear hb0 h_HX
    go_enter Tryz.func46, Tryz.ntmps46
    go_upto_region 1 with (fail)
    generalize hW0 : w.alloc (.cells #[.int .i64 5, .int .i64 a, .int .i64 b, .int .i64 n, .string (bs s)] 39) = v0 at HB HX ⊢
    clear hW0
    have x0 : v0.cell? ⟨w.heap.size, 0, none⟩ = some (.int .i64 5) := HX.out.cell 0
    have x1 : v0.cell? ⟨w.heap.size, 1, none⟩ = some (.int .i64 a) := HX.out.cell 1
    have x2 : v0.cell? ⟨w.heap.size, 2, none⟩ = some (.int .i64 b) := HX.out.cell 2
    have x3 : v0.cell? ⟨w.heap.size, 3, none⟩ = some (.int .i64 n) := HX.out.cell 3
    have x4 : v0.cell? ⟨w.heap.size, 4, none⟩ = some (.string (bs s)) := HX.out.cell 4
    go_wp2
    go_ret
    exact ⟨rfl, HB.out⟩
  have t5 : (op == 5) = false := by rw [beq_eq_false_iff_ne]; exact e5
  have hr : putI ⟨op, a, b, n, s⟩ = 0 := by unfold putI; simp [e1, e2, e3, e5]
  rw [hr]; clear hr
  have hb0 := ((Below.refl w.heap.size w).alloc (Nat.le_refl _) (.cells #[.int .i64 op, .int .i64 a, .int .i64 b, .int .i64 n, .string (bs s)] 39))
  have h_HX := (Bx.new w #[.int .i64 op, .int .i64 a, .int .i64 b, .int .i64 n, .string (bs s)] 39)
  have HB := Lib.hid hb0; have HX := Lib.hid h_HX
  clear hb0 h_HX
  go_enter Tryz.func46, Tryz.ntmps46
  go_upto_region 1 with (fail)
  generalize hW0 : w.alloc (.cells #[.int .i64 op, .int .i64 a, .int .i64 b, .int .i64 n, .string (bs s)] 39) = v0 at HB HX ⊢
  clear hW0
  have x0 : v0.cell? ⟨w.heap.size, 0, none⟩ = some (.int .i64 op) := HX.out.cell 0
  have x1 : v0.cell? ⟨w.heap.size, 1, none⟩ = some (.int .i64 a) := HX.out.cell 1
  have x2 : v0.cell? ⟨w.heap.size, 2, none⟩ = some (.int .i64 b) := HX.out.cell 2
  have x3 : v0.cell? ⟨w.heap.size, 3, none⟩ = some (.int .i64 n) := HX.out.cell 3
  have x4 : v0.cell? ⟨w.heap.size, 4, none⟩ = some (.string (bs s)) := HX.out.cell 4
  go_wp2
  go_ret
  exact ⟨rfl, HB.out⟩
set_option maxRecDepth 100000 in
set_option maxHeartbeats 8000000 in
theorem leaves_any (x : Ins) (w : World) :
    Calls Tryz.prog 32 #[.agg (insV x)] w fun e w' => e = .returned (.bool (leaI x)) ∧ Below w.heap.size w w' := by
  obtain ⟨op, a, b, n, s⟩ := x
  simp only [insV]
  by_cases e6 : op = 6
  · subst e6
    have hr : leaI ⟨6, a, b, n, s⟩ = true := by rfl
    rw [hr]; clear hr
    have hb0 := ((Below.refl w.heap.size w).alloc (Nat.le_refl _) (.cells #[.int .i64 6, .int .i64 a, .int .i64 b, .int .i64 n, .string (bs s)] 39))
    have h_HX := (Bx.new w #[.int .i64 6, .int .i64 a, .int .i64 b, .int .i64 n, .string (bs s)] 39)
    have HB := Lib.hid hb0; have HX := Lib.hid h_HX
    clear hb0 h_HX
    go_enter Tryz.func32, Tryz.ntmps32
    go_upto_region 1 with (fail)
    generalize hW0 : w.alloc (.cells #[.int .i64 6, .int .i64 a, .int .i64 b, .int .i64 n, .string (bs s)] 39) = v0 at HB HX ⊢
    clear hW0
    have x0 : v0.cell? ⟨w.heap.size, 0, none⟩ = some (.int .i64 6) := HX.out.cell 0
    have x1 : v0.cell? ⟨w.heap.size, 1, none⟩ = some (.int .i64 a) := HX.out.cell 1
    have x2 : v0.cell? ⟨w.heap.size, 2, none⟩ = some (.int .i64 b) := HX.out.cell 2
    have x3 : v0.cell? ⟨w.heap.size, 3, none⟩ = some (.int .i64 n) := HX.out.cell 3
    have x4 : v0.cell? ⟨w.heap.size, 4, none⟩ = some (.string (bs s)) := HX.out.cell 4
    go_wp2
    go_ret
    exact ⟨rfl, HB.out⟩
  have t6 : (op == 6) = false := by rw [beq_eq_false_iff_ne]; exact e6
  by_cases e11 : op = 11
  · subst e11
    have hr : leaI ⟨11, a, b, n, s⟩ = true := by rfl
    rw [hr]; clear hr
    have hb0 := ((Below.refl w.heap.size w).alloc (Nat.le_refl _) (.cells #[.int .i64 11, .int .i64 a, .int .i64 b, .int .i64 n, .string (bs s)] 39))
    have h_HX := (Bx.new w #[.int .i64 11, .int .i64 a, .int .i64 b, .int .i64 n, .string (bs s)] 39)
    have HB := Lib.hid hb0; have HX := Lib.hid h_HX
    clear hb0 h_HX
    go_enter Tryz.func32, Tryz.ntmps32
    go_upto_region 1 with (fail)
    generalize hW0 : w.alloc (.cells #[.int .i64 11, .int .i64 a, .int .i64 b, .int .i64 n, .string (bs s)] 39) = v0 at HB HX ⊢
    clear hW0
    have x0 : v0.cell? ⟨w.heap.size, 0, none⟩ = some (.int .i64 11) := HX.out.cell 0
    have x1 : v0.cell? ⟨w.heap.size, 1, none⟩ = some (.int .i64 a) := HX.out.cell 1
    have x2 : v0.cell? ⟨w.heap.size, 2, none⟩ = some (.int .i64 b) := HX.out.cell 2
    have x3 : v0.cell? ⟨w.heap.size, 3, none⟩ = some (.int .i64 n) := HX.out.cell 3
    have x4 : v0.cell? ⟨w.heap.size, 4, none⟩ = some (.string (bs s)) := HX.out.cell 4
    go_wp2
    go_ret
    exact ⟨rfl, HB.out⟩
  have t11 : (op == 11) = false := by rw [beq_eq_false_iff_ne]; exact e11
  by_cases e13 : op = 13
  · subst e13
    have hr : leaI ⟨13, a, b, n, s⟩ = true := by rfl
    rw [hr]; clear hr
    have hb0 := ((Below.refl w.heap.size w).alloc (Nat.le_refl _) (.cells #[.int .i64 13, .int .i64 a, .int .i64 b, .int .i64 n, .string (bs s)] 39))
    have h_HX := (Bx.new w #[.int .i64 13, .int .i64 a, .int .i64 b, .int .i64 n, .string (bs s)] 39)
    have HB := Lib.hid hb0; have HX := Lib.hid h_HX
    clear hb0 h_HX
    go_enter Tryz.func32, Tryz.ntmps32
    go_upto_region 1 with (fail)
    generalize hW0 : w.alloc (.cells #[.int .i64 13, .int .i64 a, .int .i64 b, .int .i64 n, .string (bs s)] 39) = v0 at HB HX ⊢
    clear hW0
    have x0 : v0.cell? ⟨w.heap.size, 0, none⟩ = some (.int .i64 13) := HX.out.cell 0
    have x1 : v0.cell? ⟨w.heap.size, 1, none⟩ = some (.int .i64 a) := HX.out.cell 1
    have x2 : v0.cell? ⟨w.heap.size, 2, none⟩ = some (.int .i64 b) := HX.out.cell 2
    have x3 : v0.cell? ⟨w.heap.size, 3, none⟩ = some (.int .i64 n) := HX.out.cell 3
    have x4 : v0.cell? ⟨w.heap.size, 4, none⟩ = some (.string (bs s)) := HX.out.cell 4
    go_wp2
    go_ret
    exact ⟨rfl, HB.out⟩
  have t13 : (op == 13) = false := by rw [beq_eq_false_iff_ne]; exact e13
  have hr : leaI ⟨op, a, b, n, s⟩ = false := by unfold leaI; simp [e6, e11, e13]
  rw [hr]; clear hr
  have hb0 := ((Below.refl w.heap.size w).alloc (Nat.le_refl _) (.cells #[.int .i64 op, .int .i64 a, .int .i64 b, .int .i64 n, .string (bs s)] 39))
  have h_HX := (Bx.new w #[.int .i64 op, .int .i64 a, .int .i64 b, .int .i64 n, .string (bs s)] 39)
  have HB := Lib.hid hb0; have HX := Lib.hid h_HX
  clear hb0 h_HX
  go_enter Tryz.func32, Tryz.ntmps32
  go_upto_region 1 with (fail)
  generalize hW0 : w.alloc (.cells #[.int .i64 op, .int .i64 a, .int .i64 b, .int .i64 n, .string (bs s)] 39) = v0 at HB HX ⊢
  clear hW0
  have x0 : v0.cell? ⟨w.heap.size, 0, none⟩ = some (.int .i64 op) := HX.out.cell 0
  have x1 : v0.cell? ⟨w.heap.size, 1, none⟩ = some (.int .i64 a) := HX.out.cell 1
  have x2 : v0.cell? ⟨w.heap.size, 2, none⟩ = some (.int .i64 b) := HX.out.cell 2
  have x3 : v0.cell? ⟨w.heap.size, 3, none⟩ = some (.int .i64 n) := HX.out.cell 3
  have x4 : v0.cell? ⟨w.heap.size, 4, none⟩ = some (.string (bs s)) := HX.out.cell 4
  go_wp2
  go_ret
  exact ⟨rfl, HB.out⟩
set_option maxRecDepth 100000 in
set_option maxHeartbeats 8000000 in
theorem Rfinal_any (x : Ins) (w : World) :
    Calls Tryz.prog 55 #[.agg (insV x)] w fun e w' => e = .returned (.bool (leaI x)) ∧ Below w.heap.size w w' := by
  obtain ⟨op, a, b, n, s⟩ := x
  simp only [insV]
  by_cases e6 : op = 6
  · subst e6
    have hr : leaI ⟨6, a, b, n, s⟩ = true := by rfl
    rw [hr]; clear hr
    have hb0 := ((Below.refl w.heap.size w).alloc (Nat.le_refl _) (.cells #[.int .i64 6, .int .i64 a, .int .i64 b, .int .i64 n, .string (bs s)] 39))
    have h_HX := (Bx.new w #[.int .i64 6, .int .i64 a, .int .i64 b, .int .i64 n, .string (bs s)] 39)
    have HB := Lib.hid hb0; have HX := Lib.hid h_HX
    clear hb0 h_HX
    go_enter Tryz.func55, Tryz.ntmps55
    go_upto_region 1 with (fail)
    generalize hW0 : w.alloc (.cells #[.int .i64 6, .int .i64 a, .int .i64 b, .int .i64 n, .string (bs s)] 39) = v0 at HB HX ⊢
    clear hW0
    have x0 : v0.cell? ⟨w.heap.size, 0, none⟩ = some (.int .i64 6) := HX.out.cell 0
    have x1 : v0.cell? ⟨w.heap.size, 1, none⟩ = some (.int .i64 a) := HX.out.cell 1
    have x2 : v0.cell? ⟨w.heap.size, 2, none⟩ = some (.int .i64 b) := HX.out.cell 2
    have x3 : v0.cell? ⟨w.heap.size, 3, none⟩ = some (.int .i64 n) := HX.out.cell 3
    have x4 : v0.cell? ⟨w.heap.size, 4, none⟩ = some (.string (bs s)) := HX.out.cell 4
    go_wp2
    go_ret
    exact ⟨rfl, HB.out⟩
  have t6 : (op == 6) = false := by rw [beq_eq_false_iff_ne]; exact e6
  by_cases e11 : op = 11
  · subst e11
    have hr : leaI ⟨11, a, b, n, s⟩ = true := by rfl
    rw [hr]; clear hr
    have hb0 := ((Below.refl w.heap.size w).alloc (Nat.le_refl _) (.cells #[.int .i64 11, .int .i64 a, .int .i64 b, .int .i64 n, .string (bs s)] 39))
    have h_HX := (Bx.new w #[.int .i64 11, .int .i64 a, .int .i64 b, .int .i64 n, .string (bs s)] 39)
    have HB := Lib.hid hb0; have HX := Lib.hid h_HX
    clear hb0 h_HX
    go_enter Tryz.func55, Tryz.ntmps55
    go_upto_region 1 with (fail)
    generalize hW0 : w.alloc (.cells #[.int .i64 11, .int .i64 a, .int .i64 b, .int .i64 n, .string (bs s)] 39) = v0 at HB HX ⊢
    clear hW0
    have x0 : v0.cell? ⟨w.heap.size, 0, none⟩ = some (.int .i64 11) := HX.out.cell 0
    have x1 : v0.cell? ⟨w.heap.size, 1, none⟩ = some (.int .i64 a) := HX.out.cell 1
    have x2 : v0.cell? ⟨w.heap.size, 2, none⟩ = some (.int .i64 b) := HX.out.cell 2
    have x3 : v0.cell? ⟨w.heap.size, 3, none⟩ = some (.int .i64 n) := HX.out.cell 3
    have x4 : v0.cell? ⟨w.heap.size, 4, none⟩ = some (.string (bs s)) := HX.out.cell 4
    go_wp2
    go_ret
    exact ⟨rfl, HB.out⟩
  have t11 : (op == 11) = false := by rw [beq_eq_false_iff_ne]; exact e11
  by_cases e13 : op = 13
  · subst e13
    have hr : leaI ⟨13, a, b, n, s⟩ = true := by rfl
    rw [hr]; clear hr
    have hb0 := ((Below.refl w.heap.size w).alloc (Nat.le_refl _) (.cells #[.int .i64 13, .int .i64 a, .int .i64 b, .int .i64 n, .string (bs s)] 39))
    have h_HX := (Bx.new w #[.int .i64 13, .int .i64 a, .int .i64 b, .int .i64 n, .string (bs s)] 39)
    have HB := Lib.hid hb0; have HX := Lib.hid h_HX
    clear hb0 h_HX
    go_enter Tryz.func55, Tryz.ntmps55
    go_upto_region 1 with (fail)
    generalize hW0 : w.alloc (.cells #[.int .i64 13, .int .i64 a, .int .i64 b, .int .i64 n, .string (bs s)] 39) = v0 at HB HX ⊢
    clear hW0
    have x0 : v0.cell? ⟨w.heap.size, 0, none⟩ = some (.int .i64 13) := HX.out.cell 0
    have x1 : v0.cell? ⟨w.heap.size, 1, none⟩ = some (.int .i64 a) := HX.out.cell 1
    have x2 : v0.cell? ⟨w.heap.size, 2, none⟩ = some (.int .i64 b) := HX.out.cell 2
    have x3 : v0.cell? ⟨w.heap.size, 3, none⟩ = some (.int .i64 n) := HX.out.cell 3
    have x4 : v0.cell? ⟨w.heap.size, 4, none⟩ = some (.string (bs s)) := HX.out.cell 4
    go_wp2
    go_ret
    exact ⟨rfl, HB.out⟩
  have t13 : (op == 13) = false := by rw [beq_eq_false_iff_ne]; exact e13
  have hr : leaI ⟨op, a, b, n, s⟩ = false := by unfold leaI; simp [e6, e11, e13]
  rw [hr]; clear hr
  have hb0 := ((Below.refl w.heap.size w).alloc (Nat.le_refl _) (.cells #[.int .i64 op, .int .i64 a, .int .i64 b, .int .i64 n, .string (bs s)] 39))
  have h_HX := (Bx.new w #[.int .i64 op, .int .i64 a, .int .i64 b, .int .i64 n, .string (bs s)] 39)
  have HB := Lib.hid hb0; have HX := Lib.hid h_HX
  clear hb0 h_HX
  go_enter Tryz.func55, Tryz.ntmps55
  go_upto_region 1 with (fail)
  generalize hW0 : w.alloc (.cells #[.int .i64 op, .int .i64 a, .int .i64 b, .int .i64 n, .string (bs s)] 39) = v0 at HB HX ⊢
  clear hW0
  have x0 : v0.cell? ⟨w.heap.size, 0, none⟩ = some (.int .i64 op) := HX.out.cell 0
  have x1 : v0.cell? ⟨w.heap.size, 1, none⟩ = some (.int .i64 a) := HX.out.cell 1
  have x2 : v0.cell? ⟨w.heap.size, 2, none⟩ = some (.int .i64 b) := HX.out.cell 2
  have x3 : v0.cell? ⟨w.heap.size, 3, none⟩ = some (.int .i64 n) := HX.out.cell 3
  have x4 : v0.cell? ⟨w.heap.size, 4, none⟩ = some (.string (bs s)) := HX.out.cell 4
  go_wp2
  go_ret
  exact ⟨rfl, HB.out⟩
set_option maxRecDepth 100000 in
set_option maxHeartbeats 8000000 in
theorem jumps_any (x : Ins) (w : World) :
    Calls Tryz.prog 33 #[.agg (insV x)] w fun e w' => e = .returned (.bool (jmpI x)) ∧ Below w.heap.size w w' := by
  obtain ⟨op, a, b, n, s⟩ := x
  simp only [insV]
  by_cases e6 : op = 6
  · subst e6
    have hr : jmpI ⟨6, a, b, n, s⟩ = true := by rfl
    rw [hr]; clear hr
    have hb0 := ((Below.refl w.heap.size w).alloc (Nat.le_refl _) (.cells #[.int .i64 6, .int .i64 a, .int .i64 b, .int .i64 n, .string (bs s)] 39))
    have h_HX := (Bx.new w #[.int .i64 6, .int .i64 a, .int .i64 b, .int .i64 n, .string (bs s)] 39)
    have HB := Lib.hid hb0; have HX := Lib.hid h_HX
    clear hb0 h_HX
    go_enter Tryz.func33, Tryz.ntmps33
    go_upto_region 1 with (fail)
    generalize hW0 : w.alloc (.cells #[.int .i64 6, .int .i64 a, .int .i64 b, .int .i64 n, .string (bs s)] 39) = v0 at HB HX ⊢
    clear hW0
    have x0 : v0.cell? ⟨w.heap.size, 0, none⟩ = some (.int .i64 6) := HX.out.cell 0
    have x1 : v0.cell? ⟨w.heap.size, 1, none⟩ = some (.int .i64 a) := HX.out.cell 1
    have x2 : v0.cell? ⟨w.heap.size, 2, none⟩ = some (.int .i64 b) := HX.out.cell 2
    have x3 : v0.cell? ⟨w.heap.size, 3, none⟩ = some (.int .i64 n) := HX.out.cell 3
    have x4 : v0.cell? ⟨w.heap.size, 4, none⟩ = some (.string (bs s)) := HX.out.cell 4
    go_wp2
    go_ret
    exact ⟨rfl, HB.out⟩
  have t6 : (op == 6) = false := by rw [beq_eq_false_iff_ne]; exact e6
  by_cases e7 : op = 7
  · subst e7
    have hr : jmpI ⟨7, a, b, n, s⟩ = true := by rfl
    rw [hr]; clear hr
    have hb0 := ((Below.refl w.heap.size w).alloc (Nat.le_refl _) (.cells #[.int .i64 7, .int .i64 a, .int .i64 b, .int .i64 n, .string (bs s)] 39))
    have h_HX := (Bx.new w #[.int .i64 7, .int .i64 a, .int .i64 b, .int .i64 n, .string (bs s)] 39)
    have HB := Lib.hid hb0; have HX := Lib.hid h_HX
    clear hb0 h_HX
    go_enter Tryz.func33, Tryz.ntmps33
    go_upto_region 1 with (fail)
    generalize hW0 : w.alloc (.cells #[.int .i64 7, .int .i64 a, .int .i64 b, .int .i64 n, .string (bs s)] 39) = v0 at HB HX ⊢
    clear hW0
    have x0 : v0.cell? ⟨w.heap.size, 0, none⟩ = some (.int .i64 7) := HX.out.cell 0
    have x1 : v0.cell? ⟨w.heap.size, 1, none⟩ = some (.int .i64 a) := HX.out.cell 1
    have x2 : v0.cell? ⟨w.heap.size, 2, none⟩ = some (.int .i64 b) := HX.out.cell 2
    have x3 : v0.cell? ⟨w.heap.size, 3, none⟩ = some (.int .i64 n) := HX.out.cell 3
    have x4 : v0.cell? ⟨w.heap.size, 4, none⟩ = some (.string (bs s)) := HX.out.cell 4
    go_wp2
    go_ret
    exact ⟨rfl, HB.out⟩
  have t7 : (op == 7) = false := by rw [beq_eq_false_iff_ne]; exact e7
  have hr : jmpI ⟨op, a, b, n, s⟩ = false := by unfold jmpI; simp [e6, e7]
  rw [hr]; clear hr
  have hb0 := ((Below.refl w.heap.size w).alloc (Nat.le_refl _) (.cells #[.int .i64 op, .int .i64 a, .int .i64 b, .int .i64 n, .string (bs s)] 39))
  have h_HX := (Bx.new w #[.int .i64 op, .int .i64 a, .int .i64 b, .int .i64 n, .string (bs s)] 39)
  have HB := Lib.hid hb0; have HX := Lib.hid h_HX
  clear hb0 h_HX
  go_enter Tryz.func33, Tryz.ntmps33
  go_upto_region 1 with (fail)
  generalize hW0 : w.alloc (.cells #[.int .i64 op, .int .i64 a, .int .i64 b, .int .i64 n, .string (bs s)] 39) = v0 at HB HX ⊢
  clear hW0
  have x0 : v0.cell? ⟨w.heap.size, 0, none⟩ = some (.int .i64 op) := HX.out.cell 0
  have x1 : v0.cell? ⟨w.heap.size, 1, none⟩ = some (.int .i64 a) := HX.out.cell 1
  have x2 : v0.cell? ⟨w.heap.size, 2, none⟩ = some (.int .i64 b) := HX.out.cell 2
  have x3 : v0.cell? ⟨w.heap.size, 3, none⟩ = some (.int .i64 n) := HX.out.cell 3
  have x4 : v0.cell? ⟨w.heap.size, 4, none⟩ = some (.string (bs s)) := HX.out.cell 4
  go_wp2
  go_ret
  exact ⟨rfl, HB.out⟩
set_option maxRecDepth 100000 in
set_option maxHeartbeats 8000000 in
theorem fields_any (op : Int) (h1 : 1 ≤ op) (h2 : op ≤ 14) (w : World) :
    Calls Tryz.prog 58 #[.int .i64 op] w fun e w' => e = .returned (.int .i64 (fldS op)) ∧ Below w.heap.size w w' := by
  have hop : op = 1 ∨ op = 2 ∨ op = 3 ∨ op = 4 ∨ op = 5 ∨ op = 6 ∨ op = 7 ∨ op = 8 ∨ op = 9 ∨ op = 10 ∨ op = 11 ∨ op = 12 ∨ op = 13 ∨ op = 14 := by omega
  clear h1 h2
  rcases hop with rfl | rfl | rfl | rfl | rfl | rfl | rfl | rfl | rfl | rfl | rfl | rfl | rfl | rfl
  all_goals
    go_enter Tryz.func58, Tryz.ntmps58
    go_wp2
    go_ret
    exact ⟨rfl, (Below.refl _ _).alloc (Nat.le_refl _) _⟩
set_option maxRecDepth 100000 in
set_option maxHeartbeats 8000000 in
theorem uses_any (op : Int) (h1 : 1 ≤ op) (h2 : op ≤ 14) (w : World) :
    Calls Tryz.prog 78 #[.int .i64 op] w fun e w' => e = .returned (.tuple #[.bool (uA op), .bool (uB op), .bool (uN op), .bool (uS op)]) ∧ w' = w := by
  have hop : op = 1 ∨ op = 2 ∨ op = 3 ∨ op = 4 ∨ op = 5 ∨ op = 6 ∨ op = 7 ∨ op = 8 ∨ op = 9 ∨ op = 10 ∨ op = 11 ∨ op = 12 ∨ op = 13 ∨ op = 14 := by omega
  clear h1 h2
  rcases hop with rfl | rfl | rfl | rfl | rfl | rfl | rfl | rfl | rfl | rfl | rfl | rfl | rfl | rfl
  · go_enter Tryz.func78, Tryz.ntmps78
    go_wp2
    refine bodyPost_ret (v := .tuple #[.bool false, .bool false, .bool true, .bool false]) (by simp [results, Tryz.results78, go_sem]) rfl ?_
    exact ⟨rfl, rfl⟩
  · go_enter Tryz.func78, Tryz.ntmps78
    go_wp2
    refine bodyPost_ret (v := .tuple #[.bool false, .bool false, .bool false, .bool true]) (by simp [results, Tryz.results78, go_sem]) rfl ?_
    exact ⟨rfl, rfl⟩
  · go_enter Tryz.func78, Tryz.ntmps78
    go_wp2
    refine bodyPost_ret (v := .tuple #[.bool true, .bool false, .bool false, .bool false]) (by simp [results, Tryz.results78, go_sem]) rfl ?_
    exact ⟨rfl, rfl⟩
  · go_enter Tryz.func78, Tryz.ntmps78
    go_wp2
    refine bodyPost_ret (v := .tuple #[.bool true, .bool false, .bool false, .bool false]) (by simp [results, Tryz.results78, go_sem]) rfl ?_
    exact ⟨rfl, rfl⟩
  · go_enter Tryz.func78, Tryz.ntmps78
    go_wp2
    refine bodyPost_ret (v := .tuple #[.bool true, .bool false, .bool false, .bool false]) (by simp [results, Tryz.results78, go_sem]) rfl ?_
    exact ⟨rfl, rfl⟩
  · go_enter Tryz.func78, Tryz.ntmps78
    go_wp2
    refine bodyPost_ret (v := .tuple #[.bool true, .bool false, .bool false, .bool false]) (by simp [results, Tryz.results78, go_sem]) rfl ?_
    exact ⟨rfl, rfl⟩
  · go_enter Tryz.func78, Tryz.ntmps78
    go_wp2
    refine bodyPost_ret (v := .tuple #[.bool true, .bool false, .bool false, .bool false]) (by simp [results, Tryz.results78, go_sem]) rfl ?_
    exact ⟨rfl, rfl⟩
  · go_enter Tryz.func78, Tryz.ntmps78
    go_wp2
    refine bodyPost_ret (v := .tuple #[.bool false, .bool false, .bool false, .bool false]) (by simp [results, Tryz.results78, go_sem]) rfl ?_
    exact ⟨rfl, rfl⟩
  · go_enter Tryz.func78, Tryz.ntmps78
    go_wp2
    refine bodyPost_ret (v := .tuple #[.bool false, .bool false, .bool false, .bool false]) (by simp [results, Tryz.results78, go_sem]) rfl ?_
    exact ⟨rfl, rfl⟩
  · go_enter Tryz.func78, Tryz.ntmps78
    go_wp2
    refine bodyPost_ret (v := .tuple #[.bool false, .bool false, .bool false, .bool false]) (by simp [results, Tryz.results78, go_sem]) rfl ?_
    exact ⟨rfl, rfl⟩
  · go_enter Tryz.func78, Tryz.ntmps78
    go_wp2
    refine bodyPost_ret (v := .tuple #[.bool true, .bool false, .bool false, .bool false]) (by simp [results, Tryz.results78, go_sem]) rfl ?_
    exact ⟨rfl, rfl⟩
  · go_enter Tryz.func78, Tryz.ntmps78
    go_wp2
    refine bodyPost_ret (v := .tuple #[.bool true, .bool true, .bool true, .bool false]) (by simp [results, Tryz.results78, go_sem]) rfl ?_
    exact ⟨rfl, rfl⟩
  · go_enter Tryz.func78, Tryz.ntmps78
    go_wp2
    refine bodyPost_ret (v := .tuple #[.bool false, .bool false, .bool false, .bool false]) (by simp [results, Tryz.results78, go_sem]) rfl ?_
    exact ⟨rfl, rfl⟩
  · go_enter Tryz.func78, Tryz.ntmps78
    go_wp2
    refine bodyPost_ret (v := .tuple #[.bool false, .bool false, .bool false, .bool false]) (by simp [results, Tryz.results78, go_sem]) rfl ?_
    exact ⟨rfl, rfl⟩
theorem plain_len {s : List UInt8} (h : s.all okc = true) : plainS s = decide (s.length ≤ 64) := by unfold plainS; rw [h]; rfl
theorem plain_no {s : List UInt8} (h : s.all okc = false) : plainS s = false := by unfold plainS; rw [h]; rfl
theorem all_drop {s : List UInt8} {k : Nat} (hk : k < s.length) (h : okc s[k] = true) : (s.drop k).all okc = (s.drop (k + 1)).all okc := by rw [List.drop_eq_getElem_cons hk, List.all_cons, h, Bool.true_and]

set_option maxRecDepth 100000 in
set_option maxHeartbeats 8000000 in
theorem bplain_any (s : List UInt8) (hl : s.length ≤ 9223372036854775807) (w : World) :
    Calls Tryz.prog 62 #[.string (bs s)] w fun e w' => e = .returned (.bool (plainS s)) ∧ w' = w := by
  obtain ⟨R, hR⟩ : ∃ R, plainS s = R := ⟨_, rfl⟩
  rw [hR]
  have HR := Lib.hid hR; clear hR
  go_enter Tryz.func62, Tryz.ntmps62
  go_wp2
  go_loop [3, 6] (fun _ i => ∃ k : Nat, k ≤ s.length ∧ i = .int .i64 k ∧ ∀ j (hj : j < s.length), j < k → okc s[j] = true) (fun _ i => s.length - (intOf i).toNat)
  case atStart => exact ⟨0, Nat.zero_le _, rfl, fun j _ hj => absurd hj (Nat.not_lt_zero _)⟩
  case round =>
    obtain ⟨k, hk, rfl, hall⟩ := hrel
    have HA := Lib.hid hall; clear hall
    by_cases hlt : k < s.length
    · have hlt' : (k : Int) < (s.length : Int) := by omega
      have hw1 : IntKind.i64.wrap ((k : Int) + 1) = ((k + 1 : Nat) : Int) := by rw [IntKind.wrap_i64]; omega
      by_cases h1 : (s[k].toNat : Int) < 32
      · have HF := Lib.hid (show R = false by rw [← HR.out, plain_no (all_bad k hlt (okc_lo h1))])
        go_wp2
        go_ret
        exact ⟨by rw [HF.out] <;> rfl, rfl⟩
      by_cases h2 : 126 < (s[k].toNat : Int)
      · have HF := Lib.hid (show R = false by rw [← HR.out, plain_no (all_bad k hlt (okc_hi h2))])
        go_wp2
        go_ret
        exact ⟨by rw [HF.out] <;> rfl, rfl⟩
      have hok : okc s[k] = true := (okc_iff _).2 ⟨by omega, by omega⟩
      have HN := Lib.hid (show ∀ j (hj : j < s.length), j < k + 1 → okc s[j] = true from fun j hj hjk => by
        by_cases e : j = k
        · subst e; exact hok
        · exact HA.out j hj (by omega))
      go_wp2
      go_round
      case rel => exact ⟨k + 1, by omega, by go_num, HN.out⟩
      case measure => simp [intOf]; omega
    · have hlt' : ¬ (k : Int) < (s.length : Int) := by omega
      have hall : s.all okc = true := by
        rw [List.all_eq_true]; intro c hc
        obtain ⟨j, hj, rfl⟩ := List.getElem_of_mem hc
        exact HA.out j hj (by omega)
      have hr := plain_len hall
      rw [HR.out] at hr
      by_cases h64 : s.length ≤ 64
      · have h64' : (s.length : Int) ≤ 64 := by omega
        have HF := Lib.hid (show R = true by rw [hr]; simpa using h64); clear hr hall
        go_wp2
        go_ret
        exact ⟨by rw [HF.out] <;> rfl, rfl⟩
      · have h64' : ¬ (s.length : Int) ≤ 64 := by omega
        have HF := Lib.hid (show R = false by rw [hr]; simpa using h64); clear hr hall
        go_wp2
        go_ret
        exact ⟨by rw [HF.out] <;> rfl, rfl⟩
end Go.Proofs.YtkmmdkklpbafdaaGreatDoor
