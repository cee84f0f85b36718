/- The walk of the reference's fields. No conditions. -/
import Derived.Test.YtkmmdkklpbafdaaGreatDoorBytC
namespace Go.Proofs.YtkmmdkklpbafdaaGreatDoor
open Go.RowKit

theorem Bx.c3 {b : Nat} {u0 u1 u2 : Value} {T : TypeId} {W : World} (h : Bx b #[u0, u1, u2] T W) : W.cell? ⟨b, 0, none⟩ = some u0 ∧ W.cell? ⟨b, 1, none⟩ = some u1 ∧ W.cell? ⟨b, 2, none⟩ = some u2 := ⟨h.cell 0, h.cell 1, h.cell 2⟩
theorem Bx.c5 {b : Nat} {u0 u1 u2 u3 u4 : Value} {T : TypeId} {W : World} (h : Bx b #[u0, u1, u2, u3, u4] T W) : W.cell? ⟨b, 0, none⟩ = some u0 ∧ W.cell? ⟨b, 1, none⟩ = some u1 ∧ W.cell? ⟨b, 2, none⟩ = some u2 ∧ W.cell? ⟨b, 3, none⟩ = some u3 ∧ W.cell? ⟨b, 4, none⟩ = some u4 := ⟨h.cell 0, h.cell 1, h.cell 2, h.cell 3, h.cell 4⟩
theorem boxes2 (w : World) (A : Array Value) (S : TypeId) (B : Array Value) (T : TypeId) : ∃ v0, (w.alloc (.cells A S)).alloc (.cells B T) = v0 ∧ Below w.heap.size w v0 ∧ Bx w.heap.size A S v0 ∧ Bx (w.heap.size + 1) B T v0 := by
  refine ⟨_, rfl, ((Below.refl w.heap.size w).alloc (Nat.le_refl _) _).alloc (by simp) _, (Bx.new w A S).alloc _, ?_⟩
  have h := Bx.new (w.alloc (.cells A S)) B T
  rw [show (w.alloc (.cells A S)).heap.size = w.heap.size + 1 by simp] at h
  exact h
theorem boxes1 (w : World) (A : Array Value) (S : TypeId) : ∃ v0, w.alloc (.cells A S) = v0 ∧ Below w.heap.size w v0 ∧ Bx w.heap.size A S v0 := ⟨_, rfl, (Below.refl w.heap.size w).alloc (Nat.le_refl _) _, Bx.new w A S⟩
set_option maxRecDepth 100000 in
set_option maxHeartbeats 8000000 in
theorem uses_out (op : Int) (h : op < 1 ∨ 14 < op) (w : World) :
    Calls Tryz.prog 78 #[.int .i64 op] w fun e w' => e = .returned (.tuple #[.bool false, .bool false, .bool false, .bool false]) ∧ w' = w := by
  have t1 : (op == 1) = false := by rw [beq_eq_false_iff_ne]; omega
  have t2 : (op == 2) = false := by rw [beq_eq_false_iff_ne]; omega
  have t3 : (op == 3) = false := by rw [beq_eq_false_iff_ne]; omega
  have t4 : (op == 4) = false := by rw [beq_eq_false_iff_ne]; omega
  have t5 : (op == 5) = false := by rw [beq_eq_false_iff_ne]; omega
  have t6 : (op == 6) = false := by rw [beq_eq_false_iff_ne]; omega
  have t7 : (op == 7) = false := by rw [beq_eq_false_iff_ne]; omega
  have t11 : (op == 11) = false := by rw [beq_eq_false_iff_ne]; omega
  have t12 : (op == 12) = false := by rw [beq_eq_false_iff_ne]; omega
  clear h
  go_enter Tryz.func78, Tryz.ntmps78
  go_wp2
  refine bodyPost_ret (v := .tuple #[.bool false, .bool false, .bool false, .bool false]) (by simp [results, Tryz.results78, go_sem]) rfl ?_
  exact ⟨rfl, rfl⟩
set_option maxRecDepth 100000 in
set_option maxHeartbeats 32000000 in
theorem Rfields_any (pa ia : Option Addr) (pn pc n ic : Nat) (sl : Int) (x : Ins) (hl : x.s.length ≤ 9223372036854775807) (w : World) :
    Calls Tryz.prog 53 #[.agg #[.slice pa pn pc, .int .i64 sl, .slice ia n ic], .agg (insV x)] w fun e w' => e = .returned (.bool (insS sl (n : Int) x)) ∧ Below w.heap.size w w' := by
  obtain ⟨op, a, b, m, s⟩ := x
  simp only at hl
  simp only [insV]
  by_cases h1 : op < 1
  · have hr : insS sl (n : Int) ⟨op, a, b, m, s⟩ = false := insS_lo h1
    rw [hr]; clear hr
    have HN := Lib.hid (nameS_out (op := op) (.inl h1)); have HO := Lib.hid (show op < 1 ∨ 14 < op from .inl h1); clear h1
    obtain ⟨v0, hW0, hb0, hc0, hx0⟩ := boxes2 w #[.slice pa pn pc, .int .i64 sl, .slice ia n ic] 25 #[.int .i64 op, .int .i64 a, .int .i64 b, .int .i64 m, .string (bs s)] 39
    have HW := Lib.hid hW0; have HB := Lib.hid hb0; have HC := Lib.hid hc0; have HX := Lib.hid hx0; clear hW0 hb0 hc0 hx0
    go_enter Tryz.func53, Tryz.ntmps53
    go_upto_region 1 with (fail)
    rw [HW.out]
    clear HW
    obtain ⟨c0, c1, c2⟩ := HC.out.c3
    obtain ⟨x0, x1, x2, x3, x4⟩ := HX.out.c5
    go_wp2_with fail
    refine (uses_out op HO.out _).mono ?_
    rintro er w1 ⟨rfl, rfl⟩
    go_wp2_with fail
    refine (RName_any op _).mono ?_
    rw [HN.out]
    rintro er w2 ⟨rfl, hb1⟩
    clear c0 c1 c2 x0 x1 x2 x3 x4
    have HC := Lib.hid (HC.out.call hb1); have HX := Lib.hid (HX.out.call hb1); have HB := Lib.hid (btrans HB.out HB.out.size hb1); clear hb1
    obtain ⟨c0, c1, c2⟩ := HC.out.c3
    obtain ⟨x0, x1, x2, x3, x4⟩ := HX.out.c5
    go_wp2
    go_ret
    exact ⟨rfl, HB.out⟩
  by_cases h2 : 14 < op
  · have hr : insS sl (n : Int) ⟨op, a, b, m, s⟩ = false := insS_hi h2
    rw [hr]; clear hr
    have HN := Lib.hid (nameS_out (op := op) (.inr h2)); have HO := Lib.hid (show op < 1 ∨ 14 < op from .inr h2); clear h2
    obtain ⟨v0, hW0, hb0, hc0, hx0⟩ := boxes2 w #[.slice pa pn pc, .int .i64 sl, .slice ia n ic] 25 #[.int .i64 op, .int .i64 a, .int .i64 b, .int .i64 m, .string (bs s)] 39
    have HW := Lib.hid hW0; have HB := Lib.hid hb0; have HC := Lib.hid hc0; have HX := Lib.hid hx0; clear hW0 hb0 hc0 hx0
    go_enter Tryz.func53, Tryz.ntmps53
    go_upto_region 1 with (fail)
    rw [HW.out]
    clear HW
    obtain ⟨c0, c1, c2⟩ := HC.out.c3
    obtain ⟨x0, x1, x2, x3, x4⟩ := HX.out.c5
    go_wp2_with fail
    refine (uses_out op HO.out _).mono ?_
    rintro er w1 ⟨rfl, rfl⟩
    go_wp2_with fail
    refine (RName_any op _).mono ?_
    rw [HN.out]
    rintro er w2 ⟨rfl, hb1⟩
    clear c0 c1 c2 x0 x1 x2 x3 x4
    have HC := Lib.hid (HC.out.call hb1); have HX := Lib.hid (HX.out.call hb1); have HB := Lib.hid (btrans HB.out HB.out.size hb1); clear hb1
    obtain ⟨c0, c1, c2⟩ := HC.out.c3
    obtain ⟨x0, x1, x2, x3, x4⟩ := HX.out.c5
    go_wp2
    go_ret
    exact ⟨rfl, HB.out⟩
  obtain ⟨nm, hnm⟩ : ∃ nm, nameS op = nm := ⟨_, rfl⟩
  have tn : (nm == []) = false := by rw [beq_eq_false_iff_ne, ← hnm]; exact nameS_ne (by omega) (by omega)
  have HN := Lib.hid hnm; clear hnm
  have h1 : 1 ≤ op := by omega
  have h2 : op ≤ 14 := by omega
  have hgrp := grp_any h1 h2
  by_cases hun : unuS ⟨op, a, b, m, s⟩ = true
  rotate_left
  · have hr : insS sl (n : Int) ⟨op, a, b, m, s⟩ = false := insS_un (by simpa using hun)
    rw [hr]; clear hr
    rcases hgrp with h | h | h | h | h
    · obtain ⟨-, hA, hB, hN, hS⟩ := h
      by_cases ea : a = 0
      rotate_left
      · have ta : (a != 0) = true := by rw [bne_iff_ne]; exact ea
        clear hun ea
        have HA := Lib.hid hA; have HBB := Lib.hid hB; have HNN := Lib.hid hN; have HSS := Lib.hid hS; clear hA hB hN hS
        obtain ⟨v0, hW0, hb0, hc0, hx0⟩ := boxes2 w #[.slice pa pn pc, .int .i64 sl, .slice ia n ic] 25 #[.int .i64 op, .int .i64 a, .int .i64 b, .int .i64 m, .string (bs s)] 39
        have HW := Lib.hid hW0; have HB := Lib.hid hb0; have HC := Lib.hid hc0; have HX := Lib.hid hx0; clear hW0 hb0 hc0 hx0
        go_enter Tryz.func53, Tryz.ntmps53
        go_upto_region 1 with (fail)
        rw [HW.out]
        clear HW
        obtain ⟨c0, c1, c2⟩ := HC.out.c3
        obtain ⟨x0, x1, x2, x3, x4⟩ := HX.out.c5
        go_wp2_with fail
        refine (uses_any op h1 h2 _).mono ?_
        rw [HA.out, HBB.out, HNN.out, HSS.out]
        rintro er w1 ⟨rfl, rfl⟩
        go_wp2_with fail
        refine (RName_any op _).mono ?_
        rw [HN.out]
        rintro er w2 ⟨rfl, hb1⟩
        clear c0 c1 c2 x0 x1 x2 x3 x4
        have HC := Lib.hid (HC.out.call hb1); have HX := Lib.hid (HX.out.call hb1); have HB := Lib.hid (btrans HB.out HB.out.size hb1); clear hb1
        obtain ⟨c0, c1, c2⟩ := HC.out.c3
        obtain ⟨x0, x1, x2, x3, x4⟩ := HX.out.c5
        go_wp2
        go_ret
        exact ⟨rfl, HB.out⟩
      subst ea
      by_cases eb : b = 0
      rotate_left
      · have tb : (b != 0) = true := by rw [bne_iff_ne]; exact eb
        clear hun eb
        have HA := Lib.hid hA; have HBB := Lib.hid hB; have HNN := Lib.hid hN; have HSS := Lib.hid hS; clear hA hB hN hS
        obtain ⟨v0, hW0, hb0, hc0, hx0⟩ := boxes2 w #[.slice pa pn pc, .int .i64 sl, .slice ia n ic] 25 #[.int .i64 op, .int .i64 0, .int .i64 b, .int .i64 m, .string (bs s)] 39
        have HW := Lib.hid hW0; have HB := Lib.hid hb0; have HC := Lib.hid hc0; have HX := Lib.hid hx0; clear hW0 hb0 hc0 hx0
        go_enter Tryz.func53, Tryz.ntmps53
        go_upto_region 1 with (fail)
        rw [HW.out]
        clear HW
        obtain ⟨c0, c1, c2⟩ := HC.out.c3
        obtain ⟨x0, x1, x2, x3, x4⟩ := HX.out.c5
        go_wp2_with fail
        refine (uses_any op h1 h2 _).mono ?_
        rw [HA.out, HBB.out, HNN.out, HSS.out]
        rintro er w1 ⟨rfl, rfl⟩
        go_wp2_with fail
        refine (RName_any op _).mono ?_
        rw [HN.out]
        rintro er w2 ⟨rfl, hb1⟩
        clear c0 c1 c2 x0 x1 x2 x3 x4
        have HC := Lib.hid (HC.out.call hb1); have HX := Lib.hid (HX.out.call hb1); have HB := Lib.hid (btrans HB.out HB.out.size hb1); clear hb1
        obtain ⟨c0, c1, c2⟩ := HC.out.c3
        obtain ⟨x0, x1, x2, x3, x4⟩ := HX.out.c5
        go_wp2
        go_ret
        exact ⟨rfl, HB.out⟩
      subst eb
      by_cases es : s = []
      rotate_left
      · have ts : (!s.isEmpty) = true := by cases s <;> simp_all
        clear hun es
        have HA := Lib.hid hA; have HBB := Lib.hid hB; have HNN := Lib.hid hN; have HSS := Lib.hid hS; clear hA hB hN hS
        obtain ⟨v0, hW0, hb0, hc0, hx0⟩ := boxes2 w #[.slice pa pn pc, .int .i64 sl, .slice ia n ic] 25 #[.int .i64 op, .int .i64 0, .int .i64 0, .int .i64 m, .string (bs s)] 39
        have HW := Lib.hid hW0; have HB := Lib.hid hb0; have HC := Lib.hid hc0; have HX := Lib.hid hx0; clear hW0 hb0 hc0 hx0
        go_enter Tryz.func53, Tryz.ntmps53
        go_upto_region 1 with (fail)
        rw [HW.out]
        clear HW
        obtain ⟨c0, c1, c2⟩ := HC.out.c3
        obtain ⟨x0, x1, x2, x3, x4⟩ := HX.out.c5
        go_wp2_with fail
        refine (uses_any op h1 h2 _).mono ?_
        rw [HA.out, HBB.out, HNN.out, HSS.out]
        rintro er w1 ⟨rfl, rfl⟩
        go_wp2_with fail
        refine (RName_any op _).mono ?_
        rw [HN.out]
        rintro er w2 ⟨rfl, hb1⟩
        clear c0 c1 c2 x0 x1 x2 x3 x4
        have HC := Lib.hid (HC.out.call hb1); have HX := Lib.hid (HX.out.call hb1); have HB := Lib.hid (btrans HB.out HB.out.size hb1); clear hb1
        obtain ⟨c0, c1, c2⟩ := HC.out.c3
        obtain ⟨x0, x1, x2, x3, x4⟩ := HX.out.c5
        go_wp2
        go_ret
        exact ⟨rfl, HB.out⟩
      subst es
      exact absurd (by unfold unuS; simp [hA, hB, hN, hS]) hun
    · obtain ⟨-, hA, hB, hN, hS⟩ := h
      by_cases ea : a = 0
      rotate_left
      · have ta : (a != 0) = true := by rw [bne_iff_ne]; exact ea
        clear hun ea
        have HA := Lib.hid hA; have HBB := Lib.hid hB; have HNN := Lib.hid hN; have HSS := Lib.hid hS; clear hA hB hN hS
        obtain ⟨v0, hW0, hb0, hc0, hx0⟩ := boxes2 w #[.slice pa pn pc, .int .i64 sl, .slice ia n ic] 25 #[.int .i64 op, .int .i64 a, .int .i64 b, .int .i64 m, .string (bs s)] 39
        have HW := Lib.hid hW0; have HB := Lib.hid hb0; have HC := Lib.hid hc0; have HX := Lib.hid hx0; clear hW0 hb0 hc0 hx0
        go_enter Tryz.func53, Tryz.ntmps53
        go_upto_region 1 with (fail)
        rw [HW.out]
        clear HW
        obtain ⟨c0, c1, c2⟩ := HC.out.c3
        obtain ⟨x0, x1, x2, x3, x4⟩ := HX.out.c5
        go_wp2_with fail
        refine (uses_any op h1 h2 _).mono ?_
        rw [HA.out, HBB.out, HNN.out, HSS.out]
        rintro er w1 ⟨rfl, rfl⟩
        go_wp2_with fail
        refine (RName_any op _).mono ?_
        rw [HN.out]
        rintro er w2 ⟨rfl, hb1⟩
        clear c0 c1 c2 x0 x1 x2 x3 x4
        have HC := Lib.hid (HC.out.call hb1); have HX := Lib.hid (HX.out.call hb1); have HB := Lib.hid (btrans HB.out HB.out.size hb1); clear hb1
        obtain ⟨c0, c1, c2⟩ := HC.out.c3
        obtain ⟨x0, x1, x2, x3, x4⟩ := HX.out.c5
        go_wp2
        go_ret
        exact ⟨rfl, HB.out⟩
      subst ea
      by_cases eb : b = 0
      rotate_left
      · have tb : (b != 0) = true := by rw [bne_iff_ne]; exact eb
        clear hun eb
        have HA := Lib.hid hA; have HBB := Lib.hid hB; have HNN := Lib.hid hN; have HSS := Lib.hid hS; clear hA hB hN hS
        obtain ⟨v0, hW0, hb0, hc0, hx0⟩ := boxes2 w #[.slice pa pn pc, .int .i64 sl, .slice ia n ic] 25 #[.int .i64 op, .int .i64 0, .int .i64 b, .int .i64 m, .string (bs s)] 39
        have HW := Lib.hid hW0; have HB := Lib.hid hb0; have HC := Lib.hid hc0; have HX := Lib.hid hx0; clear hW0 hb0 hc0 hx0
        go_enter Tryz.func53, Tryz.ntmps53
        go_upto_region 1 with (fail)
        rw [HW.out]
        clear HW
        obtain ⟨c0, c1, c2⟩ := HC.out.c3
        obtain ⟨x0, x1, x2, x3, x4⟩ := HX.out.c5
        go_wp2_with fail
        refine (uses_any op h1 h2 _).mono ?_
        rw [HA.out, HBB.out, HNN.out, HSS.out]
        rintro er w1 ⟨rfl, rfl⟩
        go_wp2_with fail
        refine (RName_any op _).mono ?_
        rw [HN.out]
        rintro er w2 ⟨rfl, hb1⟩
        clear c0 c1 c2 x0 x1 x2 x3 x4
        have HC := Lib.hid (HC.out.call hb1); have HX := Lib.hid (HX.out.call hb1); have HB := Lib.hid (btrans HB.out HB.out.size hb1); clear hb1
        obtain ⟨c0, c1, c2⟩ := HC.out.c3
        obtain ⟨x0, x1, x2, x3, x4⟩ := HX.out.c5
        go_wp2
        go_ret
        exact ⟨rfl, HB.out⟩
      subst eb
      by_cases em : m = 0
      rotate_left
      · have tm : (m != 0) = true := by rw [bne_iff_ne]; exact em
        clear hun em
        have HA := Lib.hid hA; have HBB := Lib.hid hB; have HNN := Lib.hid hN; have HSS := Lib.hid hS; clear hA hB hN hS
        obtain ⟨v0, hW0, hb0, hc0, hx0⟩ := boxes2 w #[.slice pa pn pc, .int .i64 sl, .slice ia n ic] 25 #[.int .i64 op, .int .i64 0, .int .i64 0, .int .i64 m, .string (bs s)] 39
        have HW := Lib.hid hW0; have HB := Lib.hid hb0; have HC := Lib.hid hc0; have HX := Lib.hid hx0; clear hW0 hb0 hc0 hx0
        go_enter Tryz.func53, Tryz.ntmps53
        go_upto_region 1 with (fail)
        rw [HW.out]
        clear HW
        obtain ⟨c0, c1, c2⟩ := HC.out.c3
        obtain ⟨x0, x1, x2, x3, x4⟩ := HX.out.c5
        go_wp2_with fail
        refine (uses_any op h1 h2 _).mono ?_
        rw [HA.out, HBB.out, HNN.out, HSS.out]
        rintro er w1 ⟨rfl, rfl⟩
        go_wp2_with fail
        refine (RName_any op _).mono ?_
        rw [HN.out]
        rintro er w2 ⟨rfl, hb1⟩
        clear c0 c1 c2 x0 x1 x2 x3 x4
        have HC := Lib.hid (HC.out.call hb1); have HX := Lib.hid (HX.out.call hb1); have HB := Lib.hid (btrans HB.out HB.out.size hb1); clear hb1
        obtain ⟨c0, c1, c2⟩ := HC.out.c3
        obtain ⟨x0, x1, x2, x3, x4⟩ := HX.out.c5
        go_wp2
        go_ret
        exact ⟨rfl, HB.out⟩
      subst em
      exact absurd (by unfold unuS; simp [hA, hB, hN, hS]) hun
    · obtain ⟨-, hA, hB, hN, hS⟩ := h
      by_cases es : s = []
      rotate_left
      · have ts : (!s.isEmpty) = true := by cases s <;> simp_all
        clear hun es
        have HA := Lib.hid hA; have HBB := Lib.hid hB; have HNN := Lib.hid hN; have HSS := Lib.hid hS; clear hA hB hN hS
        obtain ⟨v0, hW0, hb0, hc0, hx0⟩ := boxes2 w #[.slice pa pn pc, .int .i64 sl, .slice ia n ic] 25 #[.int .i64 op, .int .i64 a, .int .i64 b, .int .i64 m, .string (bs s)] 39
        have HW := Lib.hid hW0; have HB := Lib.hid hb0; have HC := Lib.hid hc0; have HX := Lib.hid hx0; clear hW0 hb0 hc0 hx0
        go_enter Tryz.func53, Tryz.ntmps53
        go_upto_region 1 with (fail)
        rw [HW.out]
        clear HW
        obtain ⟨c0, c1, c2⟩ := HC.out.c3
        obtain ⟨x0, x1, x2, x3, x4⟩ := HX.out.c5
        go_wp2_with fail
        refine (uses_any op h1 h2 _).mono ?_
        rw [HA.out, HBB.out, HNN.out, HSS.out]
        rintro er w1 ⟨rfl, rfl⟩
        go_wp2_with fail
        refine (RName_any op _).mono ?_
        rw [HN.out]
        rintro er w2 ⟨rfl, hb1⟩
        clear c0 c1 c2 x0 x1 x2 x3 x4
        have HC := Lib.hid (HC.out.call hb1); have HX := Lib.hid (HX.out.call hb1); have HB := Lib.hid (btrans HB.out HB.out.size hb1); clear hb1
        obtain ⟨c0, c1, c2⟩ := HC.out.c3
        obtain ⟨x0, x1, x2, x3, x4⟩ := HX.out.c5
        go_wp2
        go_ret
        exact ⟨rfl, HB.out⟩
      subst es
      exact absurd (by unfold unuS; simp [hA, hB, hN, hS]) hun
    · obtain ⟨-, hA, hB, hN, hS⟩ := h
      by_cases eb : b = 0
      rotate_left
      · have tb : (b != 0) = true := by rw [bne_iff_ne]; exact eb
        clear hun eb
        have HA := Lib.hid hA; have HBB := Lib.hid hB; have HNN := Lib.hid hN; have HSS := Lib.hid hS; clear hA hB hN hS
        obtain ⟨v0, hW0, hb0, hc0, hx0⟩ := boxes2 w #[.slice pa pn pc, .int .i64 sl, .slice ia n ic] 25 #[.int .i64 op, .int .i64 a, .int .i64 b, .int .i64 m, .string (bs s)] 39
        have HW := Lib.hid hW0; have HB := Lib.hid hb0; have HC := Lib.hid hc0; have HX := Lib.hid hx0; clear hW0 hb0 hc0 hx0
        go_enter Tryz.func53, Tryz.ntmps53
        go_upto_region 1 with (fail)
        rw [HW.out]
        clear HW
        obtain ⟨c0, c1, c2⟩ := HC.out.c3
        obtain ⟨x0, x1, x2, x3, x4⟩ := HX.out.c5
        go_wp2_with fail
        refine (uses_any op h1 h2 _).mono ?_
        rw [HA.out, HBB.out, HNN.out, HSS.out]
        rintro er w1 ⟨rfl, rfl⟩
        go_wp2_with fail
        refine (RName_any op _).mono ?_
        rw [HN.out]
        rintro er w2 ⟨rfl, hb1⟩
        clear c0 c1 c2 x0 x1 x2 x3 x4
        have HC := Lib.hid (HC.out.call hb1); have HX := Lib.hid (HX.out.call hb1); have HB := Lib.hid (btrans HB.out HB.out.size hb1); clear hb1
        obtain ⟨c0, c1, c2⟩ := HC.out.c3
        obtain ⟨x0, x1, x2, x3, x4⟩ := HX.out.c5
        go_wp2
        go_ret
        exact ⟨rfl, HB.out⟩
      subst eb
      by_cases em : m = 0
      rotate_left
      · have tm : (m != 0) = true := by rw [bne_iff_ne]; exact em
        clear hun em
        have HA := Lib.hid hA; have HBB := Lib.hid hB; have HNN := Lib.hid hN; have HSS := Lib.hid hS; clear hA hB hN hS
        obtain ⟨v0, hW0, hb0, hc0, hx0⟩ := boxes2 w #[.slice pa pn pc, .int .i64 sl, .slice ia n ic] 25 #[.int .i64 op, .int .i64 a, .int .i64 0, .int .i64 m, .string (bs s)] 39
        have HW := Lib.hid hW0; have HB := Lib.hid hb0; have HC := Lib.hid hc0; have HX := Lib.hid hx0; clear hW0 hb0 hc0 hx0
        go_enter Tryz.func53, Tryz.ntmps53
        go_upto_region 1 with (fail)
        rw [HW.out]
        clear HW
        obtain ⟨c0, c1, c2⟩ := HC.out.c3
        obtain ⟨x0, x1, x2, x3, x4⟩ := HX.out.c5
        go_wp2_with fail
        refine (uses_any op h1 h2 _).mono ?_
        rw [HA.out, HBB.out, HNN.out, HSS.out]
        rintro er w1 ⟨rfl, rfl⟩
        go_wp2_with fail
        refine (RName_any op _).mono ?_
        rw [HN.out]
        rintro er w2 ⟨rfl, hb1⟩
        clear c0 c1 c2 x0 x1 x2 x3 x4
        have HC := Lib.hid (HC.out.call hb1); have HX := Lib.hid (HX.out.call hb1); have HB := Lib.hid (btrans HB.out HB.out.size hb1); clear hb1
        obtain ⟨c0, c1, c2⟩ := HC.out.c3
        obtain ⟨x0, x1, x2, x3, x4⟩ := HX.out.c5
        go_wp2
        go_ret
        exact ⟨rfl, HB.out⟩
      subst em
      by_cases es : s = []
      rotate_left
      · have ts : (!s.isEmpty) = true := by cases s <;> simp_all
        clear hun es
        have HA := Lib.hid hA; have HBB := Lib.hid hB; have HNN := Lib.hid hN; have HSS := Lib.hid hS; clear hA hB hN hS
        obtain ⟨v0, hW0, hb0, hc0, hx0⟩ := boxes2 w #[.slice pa pn pc, .int .i64 sl, .slice ia n ic] 25 #[.int .i64 op, .int .i64 a, .int .i64 0, .int .i64 0, .string (bs s)] 39
        have HW := Lib.hid hW0; have HB := Lib.hid hb0; have HC := Lib.hid hc0; have HX := Lib.hid hx0; clear hW0 hb0 hc0 hx0
        go_enter Tryz.func53, Tryz.ntmps53
        go_upto_region 1 with (fail)
        rw [HW.out]
        clear HW
        obtain ⟨c0, c1, c2⟩ := HC.out.c3
        obtain ⟨x0, x1, x2, x3, x4⟩ := HX.out.c5
        go_wp2_with fail
        refine (uses_any op h1 h2 _).mono ?_
        rw [HA.out, HBB.out, HNN.out, HSS.out]
        rintro er w1 ⟨rfl, rfl⟩
        go_wp2_with fail
        refine (RName_any op _).mono ?_
        rw [HN.out]
        rintro er w2 ⟨rfl, hb1⟩
        clear c0 c1 c2 x0 x1 x2 x3 x4
        have HC := Lib.hid (HC.out.call hb1); have HX := Lib.hid (HX.out.call hb1); have HB := Lib.hid (btrans HB.out HB.out.size hb1); clear hb1
        obtain ⟨c0, c1, c2⟩ := HC.out.c3
        obtain ⟨x0, x1, x2, x3, x4⟩ := HX.out.c5
        go_wp2
        go_ret
        exact ⟨rfl, HB.out⟩
      subst es
      exact absurd (by unfold unuS; simp [hA, hB, hN, hS]) hun
    · obtain ⟨-, hA, hB, hN, hS⟩ := h
      by_cases ea : a = 0
      rotate_left
      · have ta : (a != 0) = true := by rw [bne_iff_ne]; exact ea
        clear hun ea
        have HA := Lib.hid hA; have HBB := Lib.hid hB; have HNN := Lib.hid hN; have HSS := Lib.hid hS; clear hA hB hN hS
        obtain ⟨v0, hW0, hb0, hc0, hx0⟩ := boxes2 w #[.slice pa pn pc, .int .i64 sl, .slice ia n ic] 25 #[.int .i64 op, .int .i64 a, .int .i64 b, .int .i64 m, .string (bs s)] 39
        have HW := Lib.hid hW0; have HB := Lib.hid hb0; have HC := Lib.hid hc0; have HX := Lib.hid hx0; clear hW0 hb0 hc0 hx0
        go_enter Tryz.func53, Tryz.ntmps53
        go_upto_region 1 with (fail)
        rw [HW.out]
        clear HW
        obtain ⟨c0, c1, c2⟩ := HC.out.c3
        obtain ⟨x0, x1, x2, x3, x4⟩ := HX.out.c5
        go_wp2_with fail
        refine (uses_any op h1 h2 _).mono ?_
        rw [HA.out, HBB.out, HNN.out, HSS.out]
        rintro er w1 ⟨rfl, rfl⟩
        go_wp2_with fail
        refine (RName_any op _).mono ?_
        rw [HN.out]
        rintro er w2 ⟨rfl, hb1⟩
        clear c0 c1 c2 x0 x1 x2 x3 x4
        have HC := Lib.hid (HC.out.call hb1); have HX := Lib.hid (HX.out.call hb1); have HB := Lib.hid (btrans HB.out HB.out.size hb1); clear hb1
        obtain ⟨c0, c1, c2⟩ := HC.out.c3
        obtain ⟨x0, x1, x2, x3, x4⟩ := HX.out.c5
        go_wp2
        go_ret
        exact ⟨rfl, HB.out⟩
      subst ea
      by_cases eb : b = 0
      rotate_left
      · have tb : (b != 0) = true := by rw [bne_iff_ne]; exact eb
        clear hun eb
        have HA := Lib.hid hA; have HBB := Lib.hid hB; have HNN := Lib.hid hN; have HSS := Lib.hid hS; clear hA hB hN hS
        obtain ⟨v0, hW0, hb0, hc0, hx0⟩ := boxes2 w #[.slice pa pn pc, .int .i64 sl, .slice ia n ic] 25 #[.int .i64 op, .int .i64 0, .int .i64 b, .int .i64 m, .string (bs s)] 39
        have HW := Lib.hid hW0; have HB := Lib.hid hb0; have HC := Lib.hid hc0; have HX := Lib.hid hx0; clear hW0 hb0 hc0 hx0
        go_enter Tryz.func53, Tryz.ntmps53
        go_upto_region 1 with (fail)
        rw [HW.out]
        clear HW
        obtain ⟨c0, c1, c2⟩ := HC.out.c3
        obtain ⟨x0, x1, x2, x3, x4⟩ := HX.out.c5
        go_wp2_with fail
        refine (uses_any op h1 h2 _).mono ?_
        rw [HA.out, HBB.out, HNN.out, HSS.out]
        rintro er w1 ⟨rfl, rfl⟩
        go_wp2_with fail
        refine (RName_any op _).mono ?_
        rw [HN.out]
        rintro er w2 ⟨rfl, hb1⟩
        clear c0 c1 c2 x0 x1 x2 x3 x4
        have HC := Lib.hid (HC.out.call hb1); have HX := Lib.hid (HX.out.call hb1); have HB := Lib.hid (btrans HB.out HB.out.size hb1); clear hb1
        obtain ⟨c0, c1, c2⟩ := HC.out.c3
        obtain ⟨x0, x1, x2, x3, x4⟩ := HX.out.c5
        go_wp2
        go_ret
        exact ⟨rfl, HB.out⟩
      subst eb
      by_cases em : m = 0
      rotate_left
      · have tm : (m != 0) = true := by rw [bne_iff_ne]; exact em
        clear hun em
        have HA := Lib.hid hA; have HBB := Lib.hid hB; have HNN := Lib.hid hN; have HSS := Lib.hid hS; clear hA hB hN hS
        obtain ⟨v0, hW0, hb0, hc0, hx0⟩ := boxes2 w #[.slice pa pn pc, .int .i64 sl, .slice ia n ic] 25 #[.int .i64 op, .int .i64 0, .int .i64 0, .int .i64 m, .string (bs s)] 39
        have HW := Lib.hid hW0; have HB := Lib.hid hb0; have HC := Lib.hid hc0; have HX := Lib.hid hx0; clear hW0 hb0 hc0 hx0
        go_enter Tryz.func53, Tryz.ntmps53
        go_upto_region 1 with (fail)
        rw [HW.out]
        clear HW
        obtain ⟨c0, c1, c2⟩ := HC.out.c3
        obtain ⟨x0, x1, x2, x3, x4⟩ := HX.out.c5
        go_wp2_with fail
        refine (uses_any op h1 h2 _).mono ?_
        rw [HA.out, HBB.out, HNN.out, HSS.out]
        rintro er w1 ⟨rfl, rfl⟩
        go_wp2_with fail
        refine (RName_any op _).mono ?_
        rw [HN.out]
        rintro er w2 ⟨rfl, hb1⟩
        clear c0 c1 c2 x0 x1 x2 x3 x4
        have HC := Lib.hid (HC.out.call hb1); have HX := Lib.hid (HX.out.call hb1); have HB := Lib.hid (btrans HB.out HB.out.size hb1); clear hb1
        obtain ⟨c0, c1, c2⟩ := HC.out.c3
        obtain ⟨x0, x1, x2, x3, x4⟩ := HX.out.c5
        go_wp2
        go_ret
        exact ⟨rfl, HB.out⟩
      subst em
      by_cases es : s = []
      rotate_left
      · have ts : (!s.isEmpty) = true := by cases s <;> simp_all
        clear hun es
        have HA := Lib.hid hA; have HBB := Lib.hid hB; have HNN := Lib.hid hN; have HSS := Lib.hid hS; clear hA hB hN hS
        obtain ⟨v0, hW0, hb0, hc0, hx0⟩ := boxes2 w #[.slice pa pn pc, .int .i64 sl, .slice ia n ic] 25 #[.int .i64 op, .int .i64 0, .int .i64 0, .int .i64 0, .string (bs s)] 39
        have HW := Lib.hid hW0; have HB := Lib.hid hb0; have HC := Lib.hid hc0; have HX := Lib.hid hx0; clear hW0 hb0 hc0 hx0
        go_enter Tryz.func53, Tryz.ntmps53
        go_upto_region 1 with (fail)
        rw [HW.out]
        clear HW
        obtain ⟨c0, c1, c2⟩ := HC.out.c3
        obtain ⟨x0, x1, x2, x3, x4⟩ := HX.out.c5
        go_wp2_with fail
        refine (uses_any op h1 h2 _).mono ?_
        rw [HA.out, HBB.out, HNN.out, HSS.out]
        rintro er w1 ⟨rfl, rfl⟩
        go_wp2_with fail
        refine (RName_any op _).mono ?_
        rw [HN.out]
        rintro er w2 ⟨rfl, hb1⟩
        clear c0 c1 c2 x0 x1 x2 x3 x4
        have HC := Lib.hid (HC.out.call hb1); have HX := Lib.hid (HX.out.call hb1); have HB := Lib.hid (btrans HB.out HB.out.size hb1); clear hb1
        obtain ⟨c0, c1, c2⟩ := HC.out.c3
        obtain ⟨x0, x1, x2, x3, x4⟩ := HX.out.c5
        go_wp2
        go_ret
        exact ⟨rfl, HB.out⟩
      subst es
      exact absurd (by unfold unuS; simp [hA, hB, hN, hS]) hun
  clear hgrp
  have hop : op = 1 ∨ op = 2 ∨ op = 3 ∨ op = 4 ∨ op = 5 ∨ op = 6 ∨ op = 7 ∨ op = 8 ∨ op = 9 ∨ op = 10 ∨ op = 11 ∨ op = 12 ∨ op = 13 ∨ op = 14 := by omega
  clear h1 h2
  rcases hop with rfl | rfl | rfl | rfl | rfl | rfl | rfl | rfl | rfl | rfl | rfl | rfl | rfl | rfl
  · have HU := Lib.hid hun; unfold unuS at hun
    simp [uA, uB, uN, uS] at hun
    obtain ⟨rfl, rfl, rfl⟩ := hun
    obtain ⟨V, hV⟩ : ∃ V, insS sl (n : Int) ⟨1, 0, 0, m, []⟩ = V := ⟨_, rfl⟩
    rw [hV]
    have HV := Lib.hid hV; clear hV
    have HF := Lib.hid (show V = true by rw [← HV.out, insS_1 HU.out])
    obtain ⟨v0, hW0, hb0, hc0, hx0⟩ := boxes2 w #[.slice pa pn pc, .int .i64 sl, .slice ia n ic] 25 #[.int .i64 1, .int .i64 0, .int .i64 0, .int .i64 m, .string (bs [])] 39
    have HW := Lib.hid hW0; have HB := Lib.hid hb0; have HC := Lib.hid hc0; have HX := Lib.hid hx0; clear hW0 hb0 hc0 hx0
    go_enter Tryz.func53, Tryz.ntmps53
    go_upto_region 1 with (fail)
    rw [HW.out]
    clear HW
    obtain ⟨c0, c1, c2⟩ := HC.out.c3
    obtain ⟨x0, x1, x2, x3, x4⟩ := HX.out.c5
    go_wp2_with fail
    refine (uses_any 1 (by decide) (by decide) _).mono ?_
    rw [show uA 1 = false from rfl, show uB 1 = false from rfl, show uN 1 = true from rfl, show uS 1 = false from rfl]
    rintro er w1 ⟨rfl, rfl⟩
    go_wp2_with fail
    refine (RName_any 1 _).mono ?_
    rw [HN.out]
    rintro er w2 ⟨rfl, hb1⟩
    clear c0 c1 c2 x0 x1 x2 x3 x4
    have HC := Lib.hid (HC.out.call hb1); have HX := Lib.hid (HX.out.call hb1); have HB := Lib.hid (btrans HB.out HB.out.size hb1); clear hb1
    obtain ⟨c0, c1, c2⟩ := HC.out.c3
    obtain ⟨x0, x1, x2, x3, x4⟩ := HX.out.c5
    go_wp2
    go_ret
    exact ⟨by first | (rw [HF.out] <;> rfl) | (rw [HF.out, HG.out] <;> rfl), HB.out⟩
  · have HU := Lib.hid hun; unfold unuS at hun
    simp [uA, uB, uN, uS] at hun
    obtain ⟨rfl, rfl, rfl⟩ := hun
    obtain ⟨V, hV⟩ : ∃ V, insS sl (n : Int) ⟨2, 0, 0, 0, s⟩ = V := ⟨_, rfl⟩
    rw [hV]
    have HV := Lib.hid hV; clear hV
    obtain ⟨R, hR⟩ : ∃ R, s.all okc = R := ⟨_, rfl⟩
    have HR := Lib.hid hR; clear hR
    by_cases h4 : s.length ≤ 64
    rotate_left
    · have h4' : ¬ (s.length : Int) ≤ 64 := by omega
      have HG := Lib.hid (show false = decide ((s.length : Int) ≤ 64) from (decide_eq_false (by omega)).symm)
      have HF := Lib.hid (show V = decide ((s.length : Int) ≤ 64) by rw [← HV.out, insS_2 HU.out]; unfold plainS; rw [decide_eq_false h4, decide_eq_false h4', Bool.and_false])
      obtain ⟨v0, hW0, hb0, hc0, hx0⟩ := boxes2 w #[.slice pa pn pc, .int .i64 sl, .slice ia n ic] 25 #[.int .i64 2, .int .i64 0, .int .i64 0, .int .i64 0, .string (bs s)] 39
      have HW := Lib.hid hW0; have HB := Lib.hid hb0; have HC := Lib.hid hc0; have HX := Lib.hid hx0; clear hW0 hb0 hc0 hx0
      go_enter Tryz.func53, Tryz.ntmps53
      go_upto_region 1 with (fail)
      rw [HW.out]
      clear HW
      obtain ⟨c0, c1, c2⟩ := HC.out.c3
      obtain ⟨x0, x1, x2, x3, x4⟩ := HX.out.c5
      go_wp2_with fail
      refine (uses_any 2 (by decide) (by decide) _).mono ?_
      rw [show uA 2 = false from rfl, show uB 2 = false from rfl, show uN 2 = false from rfl, show uS 2 = true from rfl]
      rintro er w1 ⟨rfl, rfl⟩
      go_wp2_with fail
      refine (RName_any 2 _).mono ?_
      rw [HN.out]
      rintro er w2 ⟨rfl, hb1⟩
      clear c0 c1 c2 x0 x1 x2 x3 x4
      have HC := Lib.hid (HC.out.call hb1); have HX := Lib.hid (HX.out.call hb1); have HB := Lib.hid (btrans HB.out HB.out.size hb1); clear hb1
      obtain ⟨c0, c1, c2⟩ := HC.out.c3
      obtain ⟨x0, x1, x2, x3, x4⟩ := HX.out.c5
      go_wp2
      go_ret
      exact ⟨by first | (rw [HF.out] <;> rfl) | (rw [HF.out, HG.out] <;> rfl), HB.out⟩
    have h4' : (s.length : Int) ≤ 64 := by omega
    have HF := Lib.hid (show V = R by rw [← HV.out, insS_2 HU.out]; unfold plainS; rw [decide_eq_true h4, Bool.and_true]; exact HR.out)
    obtain ⟨v0, hW0, hb0, hc0, hx0⟩ := boxes2 w #[.slice pa pn pc, .int .i64 sl, .slice ia n ic] 25 #[.int .i64 2, .int .i64 0, .int .i64 0, .int .i64 0, .string (bs s)] 39
    have HW := Lib.hid hW0; have HB := Lib.hid hb0; have HC := Lib.hid hc0; have HX := Lib.hid hx0; clear hW0 hb0 hc0 hx0
    go_enter Tryz.func53, Tryz.ntmps53
    go_upto_region 1 with (fail)
    rw [HW.out]
    clear HW
    obtain ⟨c0, c1, c2⟩ := HC.out.c3
    obtain ⟨x0, x1, x2, x3, x4⟩ := HX.out.c5
    go_wp2_with fail
    refine (uses_any 2 (by decide) (by decide) _).mono ?_
    rw [show uA 2 = false from rfl, show uB 2 = false from rfl, show uN 2 = false from rfl, show uS 2 = true from rfl]
    rintro er w1 ⟨rfl, rfl⟩
    go_wp2_with fail
    refine (RName_any 2 _).mono ?_
    rw [HN.out]
    rintro er w2 ⟨rfl, hb1⟩
    clear c0 c1 c2 x0 x1 x2 x3 x4
    have HC := Lib.hid (HC.out.call hb1); have HX := Lib.hid (HX.out.call hb1); have HB := Lib.hid (btrans HB.out HB.out.size hb1); clear hb1
    obtain ⟨c0, c1, c2⟩ := HC.out.c3
    obtain ⟨x0, x1, x2, x3, x4⟩ := HX.out.c5
    go_wp2_with fail
    refine (Printable_any s hl _).mono ?_
    rw [HR.out]
    rintro er w3 ⟨rfl, rfl⟩
    go_wp2
    go_ret
    exact ⟨by first | (rw [HF.out] <;> rfl) | (rw [HF.out, HG.out] <;> rfl), HB.out⟩
  · have HU := Lib.hid hun; unfold unuS at hun
    simp [uA, uB, uN, uS] at hun
    obtain ⟨rfl, rfl, rfl⟩ := hun
    obtain ⟨V, hV⟩ : ∃ V, insS sl (n : Int) ⟨3, a, 0, 0, []⟩ = V := ⟨_, rfl⟩
    rw [hV]
    have HV := Lib.hid hV; clear hV
    by_cases h3 : 0 ≤ a
    rotate_left
    · skip
      have HG := Lib.hid (show false = decide (0 ≤ a) from (decide_eq_false (by omega)).symm)
      have HF := Lib.hid (show V = decide (0 ≤ a) by rw [← HV.out, insS_3 HU.out]; exact (inR_lo h3).trans (decide_eq_false h3).symm)
      obtain ⟨v0, hW0, hb0, hc0, hx0⟩ := boxes2 w #[.slice pa pn pc, .int .i64 sl, .slice ia n ic] 25 #[.int .i64 3, .int .i64 a, .int .i64 0, .int .i64 0, .string (bs [])] 39
      have HW := Lib.hid hW0; have HB := Lib.hid hb0; have HC := Lib.hid hc0; have HX := Lib.hid hx0; clear hW0 hb0 hc0 hx0
      go_enter Tryz.func53, Tryz.ntmps53
      go_upto_region 1 with (fail)
      rw [HW.out]
      clear HW
      obtain ⟨c0, c1, c2⟩ := HC.out.c3
      obtain ⟨x0, x1, x2, x3, x4⟩ := HX.out.c5
      go_wp2_with fail
      refine (uses_any 3 (by decide) (by decide) _).mono ?_
      rw [show uA 3 = true from rfl, show uB 3 = false from rfl, show uN 3 = false from rfl, show uS 3 = false from rfl]
      rintro er w1 ⟨rfl, rfl⟩
      go_wp2_with fail
      refine (RName_any 3 _).mono ?_
      rw [HN.out]
      rintro er w2 ⟨rfl, hb1⟩
      clear c0 c1 c2 x0 x1 x2 x3 x4
      have HC := Lib.hid (HC.out.call hb1); have HX := Lib.hid (HX.out.call hb1); have HB := Lib.hid (btrans HB.out HB.out.size hb1); clear hb1
      obtain ⟨c0, c1, c2⟩ := HC.out.c3
      obtain ⟨x0, x1, x2, x3, x4⟩ := HX.out.c5
      go_wp2
      go_ret
      exact ⟨by first | (rw [HF.out] <;> rfl) | (rw [HF.out, HG.out] <;> rfl), HB.out⟩
    by_cases h4 : a < sl
    rotate_left
    · skip
      have HG := Lib.hid (show false = decide (a < sl) from (decide_eq_false (by omega)).symm)
      have HF := Lib.hid (show V = decide (a < sl) by rw [← HV.out, insS_3 HU.out]; exact (inR_hi h4).trans (decide_eq_false h4).symm)
      obtain ⟨v0, hW0, hb0, hc0, hx0⟩ := boxes2 w #[.slice pa pn pc, .int .i64 sl, .slice ia n ic] 25 #[.int .i64 3, .int .i64 a, .int .i64 0, .int .i64 0, .string (bs [])] 39
      have HW := Lib.hid hW0; have HB := Lib.hid hb0; have HC := Lib.hid hc0; have HX := Lib.hid hx0; clear hW0 hb0 hc0 hx0
      go_enter Tryz.func53, Tryz.ntmps53
      go_upto_region 1 with (fail)
      rw [HW.out]
      clear HW
      obtain ⟨c0, c1, c2⟩ := HC.out.c3
      obtain ⟨x0, x1, x2, x3, x4⟩ := HX.out.c5
      go_wp2_with fail
      refine (uses_any 3 (by decide) (by decide) _).mono ?_
      rw [show uA 3 = true from rfl, show uB 3 = false from rfl, show uN 3 = false from rfl, show uS 3 = false from rfl]
      rintro er w1 ⟨rfl, rfl⟩
      go_wp2_with fail
      refine (RName_any 3 _).mono ?_
      rw [HN.out]
      rintro er w2 ⟨rfl, hb1⟩
      clear c0 c1 c2 x0 x1 x2 x3 x4
      have HC := Lib.hid (HC.out.call hb1); have HX := Lib.hid (HX.out.call hb1); have HB := Lib.hid (btrans HB.out HB.out.size hb1); clear hb1
      obtain ⟨c0, c1, c2⟩ := HC.out.c3
      obtain ⟨x0, x1, x2, x3, x4⟩ := HX.out.c5
      go_wp2
      go_ret
      exact ⟨by first | (rw [HF.out] <;> rfl) | (rw [HF.out, HG.out] <;> rfl), HB.out⟩
    have HF := Lib.hid (show V = true by rw [← HV.out, insS_3 HU.out]; exact inR_ok h3 h4)
    obtain ⟨v0, hW0, hb0, hc0, hx0⟩ := boxes2 w #[.slice pa pn pc, .int .i64 sl, .slice ia n ic] 25 #[.int .i64 3, .int .i64 a, .int .i64 0, .int .i64 0, .string (bs [])] 39
    have HW := Lib.hid hW0; have HB := Lib.hid hb0; have HC := Lib.hid hc0; have HX := Lib.hid hx0; clear hW0 hb0 hc0 hx0
    go_enter Tryz.func53, Tryz.ntmps53
    go_upto_region 1 with (fail)
    rw [HW.out]
    clear HW
    obtain ⟨c0, c1, c2⟩ := HC.out.c3
    obtain ⟨x0, x1, x2, x3, x4⟩ := HX.out.c5
    go_wp2_with fail
    refine (uses_any 3 (by decide) (by decide) _).mono ?_
    rw [show uA 3 = true from rfl, show uB 3 = false from rfl, show uN 3 = false from rfl, show uS 3 = false from rfl]
    rintro er w1 ⟨rfl, rfl⟩
    go_wp2_with fail
    refine (RName_any 3 _).mono ?_
    rw [HN.out]
    rintro er w2 ⟨rfl, hb1⟩
    clear c0 c1 c2 x0 x1 x2 x3 x4
    have HC := Lib.hid (HC.out.call hb1); have HX := Lib.hid (HX.out.call hb1); have HB := Lib.hid (btrans HB.out HB.out.size hb1); clear hb1
    obtain ⟨c0, c1, c2⟩ := HC.out.c3
    obtain ⟨x0, x1, x2, x3, x4⟩ := HX.out.c5
    go_wp2
    go_ret
    exact ⟨by first | (rw [HF.out] <;> rfl) | (rw [HF.out, HG.out] <;> rfl), HB.out⟩
  · have HU := Lib.hid hun; unfold unuS at hun
    simp [uA, uB, uN, uS] at hun
    obtain ⟨rfl, rfl, rfl⟩ := hun
    obtain ⟨V, hV⟩ : ∃ V, insS sl (n : Int) ⟨4, a, 0, 0, []⟩ = V := ⟨_, rfl⟩
    rw [hV]
    have HV := Lib.hid hV; clear hV
    by_cases h3 : 0 ≤ a
    rotate_left
    · skip
      have HG := Lib.hid (show false = decide (0 ≤ a) from (decide_eq_false (by omega)).symm)
      have HF := Lib.hid (show V = decide (0 ≤ a) by rw [← HV.out, insS_4 HU.out]; exact (inR_lo h3).trans (decide_eq_false h3).symm)
      obtain ⟨v0, hW0, hb0, hc0, hx0⟩ := boxes2 w #[.slice pa pn pc, .int .i64 sl, .slice ia n ic] 25 #[.int .i64 4, .int .i64 a, .int .i64 0, .int .i64 0, .string (bs [])] 39
      have HW := Lib.hid hW0; have HB := Lib.hid hb0; have HC := Lib.hid hc0; have HX := Lib.hid hx0; clear hW0 hb0 hc0 hx0
      go_enter Tryz.func53, Tryz.ntmps53
      go_upto_region 1 with (fail)
      rw [HW.out]
      clear HW
      obtain ⟨c0, c1, c2⟩ := HC.out.c3
      obtain ⟨x0, x1, x2, x3, x4⟩ := HX.out.c5
      go_wp2_with fail
      refine (uses_any 4 (by decide) (by decide) _).mono ?_
      rw [show uA 4 = true from rfl, show uB 4 = false from rfl, show uN 4 = false from rfl, show uS 4 = false from rfl]
      rintro er w1 ⟨rfl, rfl⟩
      go_wp2_with fail
      refine (RName_any 4 _).mono ?_
      rw [HN.out]
      rintro er w2 ⟨rfl, hb1⟩
      clear c0 c1 c2 x0 x1 x2 x3 x4
      have HC := Lib.hid (HC.out.call hb1); have HX := Lib.hid (HX.out.call hb1); have HB := Lib.hid (btrans HB.out HB.out.size hb1); clear hb1
      obtain ⟨c0, c1, c2⟩ := HC.out.c3
      obtain ⟨x0, x1, x2, x3, x4⟩ := HX.out.c5
      go_wp2
      go_ret
      exact ⟨by first | (rw [HF.out] <;> rfl) | (rw [HF.out, HG.out] <;> rfl), HB.out⟩
    by_cases h4 : a < sl
    rotate_left
    · skip
      have HG := Lib.hid (show false = decide (a < sl) from (decide_eq_false (by omega)).symm)
      have HF := Lib.hid (show V = decide (a < sl) by rw [← HV.out, insS_4 HU.out]; exact (inR_hi h4).trans (decide_eq_false h4).symm)
      obtain ⟨v0, hW0, hb0, hc0, hx0⟩ := boxes2 w #[.slice pa pn pc, .int .i64 sl, .slice ia n ic] 25 #[.int .i64 4, .int .i64 a, .int .i64 0, .int .i64 0, .string (bs [])] 39
      have HW := Lib.hid hW0; have HB := Lib.hid hb0; have HC := Lib.hid hc0; have HX := Lib.hid hx0; clear hW0 hb0 hc0 hx0
      go_enter Tryz.func53, Tryz.ntmps53
      go_upto_region 1 with (fail)
      rw [HW.out]
      clear HW
      obtain ⟨c0, c1, c2⟩ := HC.out.c3
      obtain ⟨x0, x1, x2, x3, x4⟩ := HX.out.c5
      go_wp2_with fail
      refine (uses_any 4 (by decide) (by decide) _).mono ?_
      rw [show uA 4 = true from rfl, show uB 4 = false from rfl, show uN 4 = false from rfl, show uS 4 = false from rfl]
      rintro er w1 ⟨rfl, rfl⟩
      go_wp2_with fail
      refine (RName_any 4 _).mono ?_
      rw [HN.out]
      rintro er w2 ⟨rfl, hb1⟩
      clear c0 c1 c2 x0 x1 x2 x3 x4
      have HC := Lib.hid (HC.out.call hb1); have HX := Lib.hid (HX.out.call hb1); have HB := Lib.hid (btrans HB.out HB.out.size hb1); clear hb1
      obtain ⟨c0, c1, c2⟩ := HC.out.c3
      obtain ⟨x0, x1, x2, x3, x4⟩ := HX.out.c5
      go_wp2
      go_ret
      exact ⟨by first | (rw [HF.out] <;> rfl) | (rw [HF.out, HG.out] <;> rfl), HB.out⟩
    have HF := Lib.hid (show V = true by rw [← HV.out, insS_4 HU.out]; exact inR_ok h3 h4)
    obtain ⟨v0, hW0, hb0, hc0, hx0⟩ := boxes2 w #[.slice pa pn pc, .int .i64 sl, .slice ia n ic] 25 #[.int .i64 4, .int .i64 a, .int .i64 0, .int .i64 0, .string (bs [])] 39
    have HW := Lib.hid hW0; have HB := Lib.hid hb0; have HC := Lib.hid hc0; have HX := Lib.hid hx0; clear hW0 hb0 hc0 hx0
    go_enter Tryz.func53, Tryz.ntmps53
    go_upto_region 1 with (fail)
    rw [HW.out]
    clear HW
    obtain ⟨c0, c1, c2⟩ := HC.out.c3
    obtain ⟨x0, x1, x2, x3, x4⟩ := HX.out.c5
    go_wp2_with fail
    refine (uses_any 4 (by decide) (by decide) _).mono ?_
    rw [show uA 4 = true from rfl, show uB 4 = false from rfl, show uN 4 = false from rfl, show uS 4 = false from rfl]
    rintro er w1 ⟨rfl, rfl⟩
    go_wp2_with fail
    refine (RName_any 4 _).mono ?_
    rw [HN.out]
    rintro er w2 ⟨rfl, hb1⟩
    clear c0 c1 c2 x0 x1 x2 x3 x4
    have HC := Lib.hid (HC.out.call hb1); have HX := Lib.hid (HX.out.call hb1); have HB := Lib.hid (btrans HB.out HB.out.size hb1); clear hb1
    obtain ⟨c0, c1, c2⟩ := HC.out.c3
    obtain ⟨x0, x1, x2, x3, x4⟩ := HX.out.c5
    go_wp2
    go_ret
    exact ⟨by first | (rw [HF.out] <;> rfl) | (rw [HF.out, HG.out] <;> rfl), HB.out⟩
  · have HU := Lib.hid hun; unfold unuS at hun
    simp [uA, uB, uN, uS] at hun
    obtain ⟨rfl, rfl, rfl⟩ := hun
    obtain ⟨V, hV⟩ : ∃ V, insS sl (n : Int) ⟨5, a, 0, 0, []⟩ = V := ⟨_, rfl⟩
    rw [hV]
    have HV := Lib.hid hV; clear hV
    obtain ⟨R, hR⟩ : ∃ R, arS a = R := ⟨_, rfl⟩
    have HR := Lib.hid hR; clear hR
    by_cases h3 : 1 ≤ R
    · skip
      have HF := Lib.hid (show V = true by rw [← HV.out, insS_5 HU.out]; rw [HR.out]; exact decide_eq_true h3)
      obtain ⟨v0, hW0, hb0, hc0, hx0⟩ := boxes2 w #[.slice pa pn pc, .int .i64 sl, .slice ia n ic] 25 #[.int .i64 5, .int .i64 a, .int .i64 0, .int .i64 0, .string (bs [])] 39
      have HW := Lib.hid hW0; have HB := Lib.hid hb0; have HC := Lib.hid hc0; have HX := Lib.hid hx0; clear hW0 hb0 hc0 hx0
      go_enter Tryz.func53, Tryz.ntmps53
      go_upto_region 1 with (fail)
      rw [HW.out]
      clear HW
      obtain ⟨c0, c1, c2⟩ := HC.out.c3
      obtain ⟨x0, x1, x2, x3, x4⟩ := HX.out.c5
      go_wp2_with fail
      refine (uses_any 5 (by decide) (by decide) _).mono ?_
      rw [show uA 5 = true from rfl, show uB 5 = false from rfl, show uN 5 = false from rfl, show uS 5 = false from rfl]
      rintro er w1 ⟨rfl, rfl⟩
      go_wp2_with fail
      refine (RName_any 5 _).mono ?_
      rw [HN.out]
      rintro er w2 ⟨rfl, hb1⟩
      clear c0 c1 c2 x0 x1 x2 x3 x4
      have HC := Lib.hid (HC.out.call hb1); have HX := Lib.hid (HX.out.call hb1); have HB := Lib.hid (btrans HB.out HB.out.size hb1); clear hb1
      obtain ⟨c0, c1, c2⟩ := HC.out.c3
      obtain ⟨x0, x1, x2, x3, x4⟩ := HX.out.c5
      go_wp2_with fail
      refine (RArity_any a _).mono ?_
      rw [HR.out]
      rintro er w3 ⟨rfl, rfl⟩
      go_wp2
      go_ret
      exact ⟨by first | (rw [HF.out] <;> rfl) | (rw [HF.out, HG.out] <;> rfl), HB.out⟩
    have HG := Lib.hid (show false = decide (1 ≤ R) from (decide_eq_false (by omega)).symm)
    have HF := Lib.hid (show V = decide (1 ≤ R) by rw [← HV.out, insS_5 HU.out]; rw [HR.out])
    obtain ⟨v0, hW0, hb0, hc0, hx0⟩ := boxes2 w #[.slice pa pn pc, .int .i64 sl, .slice ia n ic] 25 #[.int .i64 5, .int .i64 a, .int .i64 0, .int .i64 0, .string (bs [])] 39
    have HW := Lib.hid hW0; have HB := Lib.hid hb0; have HC := Lib.hid hc0; have HX := Lib.hid hx0; clear hW0 hb0 hc0 hx0
    go_enter Tryz.func53, Tryz.ntmps53
    go_upto_region 1 with (fail)
    rw [HW.out]
    clear HW
    obtain ⟨c0, c1, c2⟩ := HC.out.c3
    obtain ⟨x0, x1, x2, x3, x4⟩ := HX.out.c5
    go_wp2_with fail
    refine (uses_any 5 (by decide) (by decide) _).mono ?_
    rw [show uA 5 = true from rfl, show uB 5 = false from rfl, show uN 5 = false from rfl, show uS 5 = false from rfl]
    rintro er w1 ⟨rfl, rfl⟩
    go_wp2_with fail
    refine (RName_any 5 _).mono ?_
    rw [HN.out]
    rintro er w2 ⟨rfl, hb1⟩
    clear c0 c1 c2 x0 x1 x2 x3 x4
    have HC := Lib.hid (HC.out.call hb1); have HX := Lib.hid (HX.out.call hb1); have HB := Lib.hid (btrans HB.out HB.out.size hb1); clear hb1
    obtain ⟨c0, c1, c2⟩ := HC.out.c3
    obtain ⟨x0, x1, x2, x3, x4⟩ := HX.out.c5
    go_wp2_with fail
    refine (RArity_any a _).mono ?_
    rw [HR.out]
    rintro er w3 ⟨rfl, rfl⟩
    go_wp2
    go_ret
    exact ⟨by first | (rw [HF.out] <;> rfl) | (rw [HF.out, HG.out] <;> rfl), HB.out⟩
  · have HU := Lib.hid hun; unfold unuS at hun
    simp [uA, uB, uN, uS] at hun
    obtain ⟨rfl, rfl, rfl⟩ := hun
    obtain ⟨V, hV⟩ : ∃ V, insS sl (n : Int) ⟨6, a, 0, 0, []⟩ = V := ⟨_, rfl⟩
    rw [hV]
    have HV := Lib.hid hV; clear hV
    by_cases h3 : 0 ≤ a
    rotate_left
    · skip
      have HG := Lib.hid (show false = decide (0 ≤ a) from (decide_eq_false (by omega)).symm)
      have HF := Lib.hid (show V = decide (0 ≤ a) by rw [← HV.out, insS_6 HU.out]; exact (inR_lo h3).trans (decide_eq_false h3).symm)
      obtain ⟨v0, hW0, hb0, hc0, hx0⟩ := boxes2 w #[.slice pa pn pc, .int .i64 sl, .slice ia n ic] 25 #[.int .i64 6, .int .i64 a, .int .i64 0, .int .i64 0, .string (bs [])] 39
      have HW := Lib.hid hW0; have HB := Lib.hid hb0; have HC := Lib.hid hc0; have HX := Lib.hid hx0; clear hW0 hb0 hc0 hx0
      go_enter Tryz.func53, Tryz.ntmps53
      go_upto_region 1 with (fail)
      rw [HW.out]
      clear HW
      obtain ⟨c0, c1, c2⟩ := HC.out.c3
      obtain ⟨x0, x1, x2, x3, x4⟩ := HX.out.c5
      go_wp2_with fail
      refine (uses_any 6 (by decide) (by decide) _).mono ?_
      rw [show uA 6 = true from rfl, show uB 6 = false from rfl, show uN 6 = false from rfl, show uS 6 = false from rfl]
      rintro er w1 ⟨rfl, rfl⟩
      go_wp2_with fail
      refine (RName_any 6 _).mono ?_
      rw [HN.out]
      rintro er w2 ⟨rfl, hb1⟩
      clear c0 c1 c2 x0 x1 x2 x3 x4
      have HC := Lib.hid (HC.out.call hb1); have HX := Lib.hid (HX.out.call hb1); have HB := Lib.hid (btrans HB.out HB.out.size hb1); clear hb1
      obtain ⟨c0, c1, c2⟩ := HC.out.c3
      obtain ⟨x0, x1, x2, x3, x4⟩ := HX.out.c5
      go_wp2
      go_ret
      exact ⟨by first | (rw [HF.out] <;> rfl) | (rw [HF.out, HG.out] <;> rfl), HB.out⟩
    by_cases h4 : a < (n : Int)
    rotate_left
    · skip
      have HG := Lib.hid (show false = decide (a < (n : Int)) from (decide_eq_false (by omega)).symm)
      have HF := Lib.hid (show V = decide (a < (n : Int)) by rw [← HV.out, insS_6 HU.out]; exact (inR_hi h4).trans (decide_eq_false h4).symm)
      obtain ⟨v0, hW0, hb0, hc0, hx0⟩ := boxes2 w #[.slice pa pn pc, .int .i64 sl, .slice ia n ic] 25 #[.int .i64 6, .int .i64 a, .int .i64 0, .int .i64 0, .string (bs [])] 39
      have HW := Lib.hid hW0; have HB := Lib.hid hb0; have HC := Lib.hid hc0; have HX := Lib.hid hx0; clear hW0 hb0 hc0 hx0
      go_enter Tryz.func53, Tryz.ntmps53
      go_upto_region 1 with (fail)
      rw [HW.out]
      clear HW
      obtain ⟨c0, c1, c2⟩ := HC.out.c3
      obtain ⟨x0, x1, x2, x3, x4⟩ := HX.out.c5
      go_wp2_with fail
      refine (uses_any 6 (by decide) (by decide) _).mono ?_
      rw [show uA 6 = true from rfl, show uB 6 = false from rfl, show uN 6 = false from rfl, show uS 6 = false from rfl]
      rintro er w1 ⟨rfl, rfl⟩
      go_wp2_with fail
      refine (RName_any 6 _).mono ?_
      rw [HN.out]
      rintro er w2 ⟨rfl, hb1⟩
      clear c0 c1 c2 x0 x1 x2 x3 x4
      have HC := Lib.hid (HC.out.call hb1); have HX := Lib.hid (HX.out.call hb1); have HB := Lib.hid (btrans HB.out HB.out.size hb1); clear hb1
      obtain ⟨c0, c1, c2⟩ := HC.out.c3
      obtain ⟨x0, x1, x2, x3, x4⟩ := HX.out.c5
      go_wp2
      go_ret
      exact ⟨by first | (rw [HF.out] <;> rfl) | (rw [HF.out, HG.out] <;> rfl), HB.out⟩
    have HF := Lib.hid (show V = true by rw [← HV.out, insS_6 HU.out]; exact inR_ok h3 h4)
    obtain ⟨v0, hW0, hb0, hc0, hx0⟩ := boxes2 w #[.slice pa pn pc, .int .i64 sl, .slice ia n ic] 25 #[.int .i64 6, .int .i64 a, .int .i64 0, .int .i64 0, .string (bs [])] 39
    have HW := Lib.hid hW0; have HB := Lib.hid hb0; have HC := Lib.hid hc0; have HX := Lib.hid hx0; clear hW0 hb0 hc0 hx0
    go_enter Tryz.func53, Tryz.ntmps53
    go_upto_region 1 with (fail)
    rw [HW.out]
    clear HW
    obtain ⟨c0, c1, c2⟩ := HC.out.c3
    obtain ⟨x0, x1, x2, x3, x4⟩ := HX.out.c5
    go_wp2_with fail
    refine (uses_any 6 (by decide) (by decide) _).mono ?_
    rw [show uA 6 = true from rfl, show uB 6 = false from rfl, show uN 6 = false from rfl, show uS 6 = false from rfl]
    rintro er w1 ⟨rfl, rfl⟩
    go_wp2_with fail
    refine (RName_any 6 _).mono ?_
    rw [HN.out]
    rintro er w2 ⟨rfl, hb1⟩
    clear c0 c1 c2 x0 x1 x2 x3 x4
    have HC := Lib.hid (HC.out.call hb1); have HX := Lib.hid (HX.out.call hb1); have HB := Lib.hid (btrans HB.out HB.out.size hb1); clear hb1
    obtain ⟨c0, c1, c2⟩ := HC.out.c3
    obtain ⟨x0, x1, x2, x3, x4⟩ := HX.out.c5
    go_wp2
    go_ret
    exact ⟨by first | (rw [HF.out] <;> rfl) | (rw [HF.out, HG.out] <;> rfl), HB.out⟩
  · have HU := Lib.hid hun; unfold unuS at hun
    simp [uA, uB, uN, uS] at hun
    obtain ⟨rfl, rfl, rfl⟩ := hun
    obtain ⟨V, hV⟩ : ∃ V, insS sl (n : Int) ⟨7, a, 0, 0, []⟩ = V := ⟨_, rfl⟩
    rw [hV]
    have HV := Lib.hid hV; clear hV
    by_cases h3 : 0 ≤ a
    rotate_left
    · skip
      have HG := Lib.hid (show false = decide (0 ≤ a) from (decide_eq_false (by omega)).symm)
      have HF := Lib.hid (show V = decide (0 ≤ a) by rw [← HV.out, insS_7 HU.out]; exact (inR_lo h3).trans (decide_eq_false h3).symm)
      obtain ⟨v0, hW0, hb0, hc0, hx0⟩ := boxes2 w #[.slice pa pn pc, .int .i64 sl, .slice ia n ic] 25 #[.int .i64 7, .int .i64 a, .int .i64 0, .int .i64 0, .string (bs [])] 39
      have HW := Lib.hid hW0; have HB := Lib.hid hb0; have HC := Lib.hid hc0; have HX := Lib.hid hx0; clear hW0 hb0 hc0 hx0
      go_enter Tryz.func53, Tryz.ntmps53
      go_upto_region 1 with (fail)
      rw [HW.out]
      clear HW
      obtain ⟨c0, c1, c2⟩ := HC.out.c3
      obtain ⟨x0, x1, x2, x3, x4⟩ := HX.out.c5
      go_wp2_with fail
      refine (uses_any 7 (by decide) (by decide) _).mono ?_
      rw [show uA 7 = true from rfl, show uB 7 = false from rfl, show uN 7 = false from rfl, show uS 7 = false from rfl]
      rintro er w1 ⟨rfl, rfl⟩
      go_wp2_with fail
      refine (RName_any 7 _).mono ?_
      rw [HN.out]
      rintro er w2 ⟨rfl, hb1⟩
      clear c0 c1 c2 x0 x1 x2 x3 x4
      have HC := Lib.hid (HC.out.call hb1); have HX := Lib.hid (HX.out.call hb1); have HB := Lib.hid (btrans HB.out HB.out.size hb1); clear hb1
      obtain ⟨c0, c1, c2⟩ := HC.out.c3
      obtain ⟨x0, x1, x2, x3, x4⟩ := HX.out.c5
      go_wp2
      go_ret
      exact ⟨by first | (rw [HF.out] <;> rfl) | (rw [HF.out, HG.out] <;> rfl), HB.out⟩
    by_cases h4 : a < (n : Int)
    rotate_left
    · skip
      have HG := Lib.hid (show false = decide (a < (n : Int)) from (decide_eq_false (by omega)).symm)
      have HF := Lib.hid (show V = decide (a < (n : Int)) by rw [← HV.out, insS_7 HU.out]; exact (inR_hi h4).trans (decide_eq_false h4).symm)
      obtain ⟨v0, hW0, hb0, hc0, hx0⟩ := boxes2 w #[.slice pa pn pc, .int .i64 sl, .slice ia n ic] 25 #[.int .i64 7, .int .i64 a, .int .i64 0, .int .i64 0, .string (bs [])] 39
      have HW := Lib.hid hW0; have HB := Lib.hid hb0; have HC := Lib.hid hc0; have HX := Lib.hid hx0; clear hW0 hb0 hc0 hx0
      go_enter Tryz.func53, Tryz.ntmps53
      go_upto_region 1 with (fail)
      rw [HW.out]
      clear HW
      obtain ⟨c0, c1, c2⟩ := HC.out.c3
      obtain ⟨x0, x1, x2, x3, x4⟩ := HX.out.c5
      go_wp2_with fail
      refine (uses_any 7 (by decide) (by decide) _).mono ?_
      rw [show uA 7 = true from rfl, show uB 7 = false from rfl, show uN 7 = false from rfl, show uS 7 = false from rfl]
      rintro er w1 ⟨rfl, rfl⟩
      go_wp2_with fail
      refine (RName_any 7 _).mono ?_
      rw [HN.out]
      rintro er w2 ⟨rfl, hb1⟩
      clear c0 c1 c2 x0 x1 x2 x3 x4
      have HC := Lib.hid (HC.out.call hb1); have HX := Lib.hid (HX.out.call hb1); have HB := Lib.hid (btrans HB.out HB.out.size hb1); clear hb1
      obtain ⟨c0, c1, c2⟩ := HC.out.c3
      obtain ⟨x0, x1, x2, x3, x4⟩ := HX.out.c5
      go_wp2
      go_ret
      exact ⟨by first | (rw [HF.out] <;> rfl) | (rw [HF.out, HG.out] <;> rfl), HB.out⟩
    have HF := Lib.hid (show V = true by rw [← HV.out, insS_7 HU.out]; exact inR_ok h3 h4)
    obtain ⟨v0, hW0, hb0, hc0, hx0⟩ := boxes2 w #[.slice pa pn pc, .int .i64 sl, .slice ia n ic] 25 #[.int .i64 7, .int .i64 a, .int .i64 0, .int .i64 0, .string (bs [])] 39
    have HW := Lib.hid hW0; have HB := Lib.hid hb0; have HC := Lib.hid hc0; have HX := Lib.hid hx0; clear hW0 hb0 hc0 hx0
    go_enter Tryz.func53, Tryz.ntmps53
    go_upto_region 1 with (fail)
    rw [HW.out]
    clear HW
    obtain ⟨c0, c1, c2⟩ := HC.out.c3
    obtain ⟨x0, x1, x2, x3, x4⟩ := HX.out.c5
    go_wp2_with fail
    refine (uses_any 7 (by decide) (by decide) _).mono ?_
    rw [show uA 7 = true from rfl, show uB 7 = false from rfl, show uN 7 = false from rfl, show uS 7 = false from rfl]
    rintro er w1 ⟨rfl, rfl⟩
    go_wp2_with fail
    refine (RName_any 7 _).mono ?_
    rw [HN.out]
    rintro er w2 ⟨rfl, hb1⟩
    clear c0 c1 c2 x0 x1 x2 x3 x4
    have HC := Lib.hid (HC.out.call hb1); have HX := Lib.hid (HX.out.call hb1); have HB := Lib.hid (btrans HB.out HB.out.size hb1); clear hb1
    obtain ⟨c0, c1, c2⟩ := HC.out.c3
    obtain ⟨x0, x1, x2, x3, x4⟩ := HX.out.c5
    go_wp2
    go_ret
    exact ⟨by first | (rw [HF.out] <;> rfl) | (rw [HF.out, HG.out] <;> rfl), HB.out⟩
  · have HU := Lib.hid hun; unfold unuS at hun
    simp [uA, uB, uN, uS] at hun
    obtain ⟨rfl, rfl, rfl, rfl⟩ := hun
    obtain ⟨V, hV⟩ : ∃ V, insS sl (n : Int) ⟨8, 0, 0, 0, []⟩ = V := ⟨_, rfl⟩
    rw [hV]
    have HV := Lib.hid hV; clear hV
    have HF := Lib.hid (show V = true by rw [← HV.out, insS_8 HU.out])
    obtain ⟨v0, hW0, hb0, hc0, hx0⟩ := boxes2 w #[.slice pa pn pc, .int .i64 sl, .slice ia n ic] 25 #[.int .i64 8, .int .i64 0, .int .i64 0, .int .i64 0, .string (bs [])] 39
    have HW := Lib.hid hW0; have HB := Lib.hid hb0; have HC := Lib.hid hc0; have HX := Lib.hid hx0; clear hW0 hb0 hc0 hx0
    go_enter Tryz.func53, Tryz.ntmps53
    go_upto_region 1 with (fail)
    rw [HW.out]
    clear HW
    obtain ⟨c0, c1, c2⟩ := HC.out.c3
    obtain ⟨x0, x1, x2, x3, x4⟩ := HX.out.c5
    go_wp2_with fail
    refine (uses_any 8 (by decide) (by decide) _).mono ?_
    rw [show uA 8 = false from rfl, show uB 8 = false from rfl, show uN 8 = false from rfl, show uS 8 = false from rfl]
    rintro er w1 ⟨rfl, rfl⟩
    go_wp2_with fail
    refine (RName_any 8 _).mono ?_
    rw [HN.out]
    rintro er w2 ⟨rfl, hb1⟩
    clear c0 c1 c2 x0 x1 x2 x3 x4
    have HC := Lib.hid (HC.out.call hb1); have HX := Lib.hid (HX.out.call hb1); have HB := Lib.hid (btrans HB.out HB.out.size hb1); clear hb1
    obtain ⟨c0, c1, c2⟩ := HC.out.c3
    obtain ⟨x0, x1, x2, x3, x4⟩ := HX.out.c5
    go_wp2
    go_ret
    exact ⟨by first | (rw [HF.out] <;> rfl) | (rw [HF.out, HG.out] <;> rfl), HB.out⟩
  · have HU := Lib.hid hun; unfold unuS at hun
    simp [uA, uB, uN, uS] at hun
    obtain ⟨rfl, rfl, rfl, rfl⟩ := hun
    obtain ⟨V, hV⟩ : ∃ V, insS sl (n : Int) ⟨9, 0, 0, 0, []⟩ = V := ⟨_, rfl⟩
    rw [hV]
    have HV := Lib.hid hV; clear hV
    have HF := Lib.hid (show V = true by rw [← HV.out, insS_9 HU.out])
    obtain ⟨v0, hW0, hb0, hc0, hx0⟩ := boxes2 w #[.slice pa pn pc, .int .i64 sl, .slice ia n ic] 25 #[.int .i64 9, .int .i64 0, .int .i64 0, .int .i64 0, .string (bs [])] 39
    have HW := Lib.hid hW0; have HB := Lib.hid hb0; have HC := Lib.hid hc0; have HX := Lib.hid hx0; clear hW0 hb0 hc0 hx0
    go_enter Tryz.func53, Tryz.ntmps53
    go_upto_region 1 with (fail)
    rw [HW.out]
    clear HW
    obtain ⟨c0, c1, c2⟩ := HC.out.c3
    obtain ⟨x0, x1, x2, x3, x4⟩ := HX.out.c5
    go_wp2_with fail
    refine (uses_any 9 (by decide) (by decide) _).mono ?_
    rw [show uA 9 = false from rfl, show uB 9 = false from rfl, show uN 9 = false from rfl, show uS 9 = false from rfl]
    rintro er w1 ⟨rfl, rfl⟩
    go_wp2_with fail
    refine (RName_any 9 _).mono ?_
    rw [HN.out]
    rintro er w2 ⟨rfl, hb1⟩
    clear c0 c1 c2 x0 x1 x2 x3 x4
    have HC := Lib.hid (HC.out.call hb1); have HX := Lib.hid (HX.out.call hb1); have HB := Lib.hid (btrans HB.out HB.out.size hb1); clear hb1
    obtain ⟨c0, c1, c2⟩ := HC.out.c3
    obtain ⟨x0, x1, x2, x3, x4⟩ := HX.out.c5
    go_wp2
    go_ret
    exact ⟨by first | (rw [HF.out] <;> rfl) | (rw [HF.out, HG.out] <;> rfl), HB.out⟩
  · have HU := Lib.hid hun; unfold unuS at hun
    simp [uA, uB, uN, uS] at hun
    obtain ⟨rfl, rfl, rfl, rfl⟩ := hun
    obtain ⟨V, hV⟩ : ∃ V, insS sl (n : Int) ⟨10, 0, 0, 0, []⟩ = V := ⟨_, rfl⟩
    rw [hV]
    have HV := Lib.hid hV; clear hV
    have HF := Lib.hid (show V = true by rw [← HV.out, insS_10 HU.out])
    obtain ⟨v0, hW0, hb0, hc0, hx0⟩ := boxes2 w #[.slice pa pn pc, .int .i64 sl, .slice ia n ic] 25 #[.int .i64 10, .int .i64 0, .int .i64 0, .int .i64 0, .string (bs [])] 39
    have HW := Lib.hid hW0; have HB := Lib.hid hb0; have HC := Lib.hid hc0; have HX := Lib.hid hx0; clear hW0 hb0 hc0 hx0
    go_enter Tryz.func53, Tryz.ntmps53
    go_upto_region 1 with (fail)
    rw [HW.out]
    clear HW
    obtain ⟨c0, c1, c2⟩ := HC.out.c3
    obtain ⟨x0, x1, x2, x3, x4⟩ := HX.out.c5
    go_wp2_with fail
    refine (uses_any 10 (by decide) (by decide) _).mono ?_
    rw [show uA 10 = false from rfl, show uB 10 = false from rfl, show uN 10 = false from rfl, show uS 10 = false from rfl]
    rintro er w1 ⟨rfl, rfl⟩
    go_wp2_with fail
    refine (RName_any 10 _).mono ?_
    rw [HN.out]
    rintro er w2 ⟨rfl, hb1⟩
    clear c0 c1 c2 x0 x1 x2 x3 x4
    have HC := Lib.hid (HC.out.call hb1); have HX := Lib.hid (HX.out.call hb1); have HB := Lib.hid (btrans HB.out HB.out.size hb1); clear hb1
    obtain ⟨c0, c1, c2⟩ := HC.out.c3
    obtain ⟨x0, x1, x2, x3, x4⟩ := HX.out.c5
    go_wp2
    go_ret
    exact ⟨by first | (rw [HF.out] <;> rfl) | (rw [HF.out, HG.out] <;> rfl), HB.out⟩
  · have HU := Lib.hid hun; unfold unuS at hun
    simp [uA, uB, uN, uS] at hun
    obtain ⟨rfl, rfl, rfl⟩ := hun
    obtain ⟨V, hV⟩ : ∃ V, insS sl (n : Int) ⟨11, a, 0, 0, []⟩ = V := ⟨_, rfl⟩
    rw [hV]
    have HV := Lib.hid hV; clear hV
    by_cases h3 : 0 ≤ a
    rotate_left
    · skip
      have HG := Lib.hid (show false = decide (0 ≤ a) from (decide_eq_false (by omega)).symm)
      have HF := Lib.hid (show V = decide (0 ≤ a) by rw [← HV.out, insS_11 HU.out]; exact (inR_lo h3).trans (decide_eq_false h3).symm)
      obtain ⟨v0, hW0, hb0, hc0, hx0⟩ := boxes2 w #[.slice pa pn pc, .int .i64 sl, .slice ia n ic] 25 #[.int .i64 11, .int .i64 a, .int .i64 0, .int .i64 0, .string (bs [])] 39
      have HW := Lib.hid hW0; have HB := Lib.hid hb0; have HC := Lib.hid hc0; have HX := Lib.hid hx0; clear hW0 hb0 hc0 hx0
      go_enter Tryz.func53, Tryz.ntmps53
      go_upto_region 1 with (fail)
      rw [HW.out]
      clear HW
      obtain ⟨c0, c1, c2⟩ := HC.out.c3
      obtain ⟨x0, x1, x2, x3, x4⟩ := HX.out.c5
      go_wp2_with fail
      refine (uses_any 11 (by decide) (by decide) _).mono ?_
      rw [show uA 11 = true from rfl, show uB 11 = false from rfl, show uN 11 = false from rfl, show uS 11 = false from rfl]
      rintro er w1 ⟨rfl, rfl⟩
      go_wp2_with fail
      refine (RName_any 11 _).mono ?_
      rw [HN.out]
      rintro er w2 ⟨rfl, hb1⟩
      clear c0 c1 c2 x0 x1 x2 x3 x4
      have HC := Lib.hid (HC.out.call hb1); have HX := Lib.hid (HX.out.call hb1); have HB := Lib.hid (btrans HB.out HB.out.size hb1); clear hb1
      obtain ⟨c0, c1, c2⟩ := HC.out.c3
      obtain ⟨x0, x1, x2, x3, x4⟩ := HX.out.c5
      go_wp2
      go_ret
      exact ⟨by first | (rw [HF.out] <;> rfl) | (rw [HF.out, HG.out] <;> rfl), HB.out⟩
    by_cases h4 : a ≤ 999
    rotate_left
    · skip
      have HG := Lib.hid (show false = decide (a ≤ 999) from (decide_eq_false (by omega)).symm)
      have HF := Lib.hid (show V = decide (a ≤ 999) by rw [← HV.out, insS_11 HU.out]; exact (inR_hi (by omega)).trans (decide_eq_false h4).symm)
      obtain ⟨v0, hW0, hb0, hc0, hx0⟩ := boxes2 w #[.slice pa pn pc, .int .i64 sl, .slice ia n ic] 25 #[.int .i64 11, .int .i64 a, .int .i64 0, .int .i64 0, .string (bs [])] 39
      have HW := Lib.hid hW0; have HB := Lib.hid hb0; have HC := Lib.hid hc0; have HX := Lib.hid hx0; clear hW0 hb0 hc0 hx0
      go_enter Tryz.func53, Tryz.ntmps53
      go_upto_region 1 with (fail)
      rw [HW.out]
      clear HW
      obtain ⟨c0, c1, c2⟩ := HC.out.c3
      obtain ⟨x0, x1, x2, x3, x4⟩ := HX.out.c5
      go_wp2_with fail
      refine (uses_any 11 (by decide) (by decide) _).mono ?_
      rw [show uA 11 = true from rfl, show uB 11 = false from rfl, show uN 11 = false from rfl, show uS 11 = false from rfl]
      rintro er w1 ⟨rfl, rfl⟩
      go_wp2_with fail
      refine (RName_any 11 _).mono ?_
      rw [HN.out]
      rintro er w2 ⟨rfl, hb1⟩
      clear c0 c1 c2 x0 x1 x2 x3 x4
      have HC := Lib.hid (HC.out.call hb1); have HX := Lib.hid (HX.out.call hb1); have HB := Lib.hid (btrans HB.out HB.out.size hb1); clear hb1
      obtain ⟨c0, c1, c2⟩ := HC.out.c3
      obtain ⟨x0, x1, x2, x3, x4⟩ := HX.out.c5
      go_wp2
      go_ret
      exact ⟨by first | (rw [HF.out] <;> rfl) | (rw [HF.out, HG.out] <;> rfl), HB.out⟩
    have HF := Lib.hid (show V = true by rw [← HV.out, insS_11 HU.out]; exact inR_ok h3 (by omega))
    obtain ⟨v0, hW0, hb0, hc0, hx0⟩ := boxes2 w #[.slice pa pn pc, .int .i64 sl, .slice ia n ic] 25 #[.int .i64 11, .int .i64 a, .int .i64 0, .int .i64 0, .string (bs [])] 39
    have HW := Lib.hid hW0; have HB := Lib.hid hb0; have HC := Lib.hid hc0; have HX := Lib.hid hx0; clear hW0 hb0 hc0 hx0
    go_enter Tryz.func53, Tryz.ntmps53
    go_upto_region 1 with (fail)
    rw [HW.out]
    clear HW
    obtain ⟨c0, c1, c2⟩ := HC.out.c3
    obtain ⟨x0, x1, x2, x3, x4⟩ := HX.out.c5
    go_wp2_with fail
    refine (uses_any 11 (by decide) (by decide) _).mono ?_
    rw [show uA 11 = true from rfl, show uB 11 = false from rfl, show uN 11 = false from rfl, show uS 11 = false from rfl]
    rintro er w1 ⟨rfl, rfl⟩
    go_wp2_with fail
    refine (RName_any 11 _).mono ?_
    rw [HN.out]
    rintro er w2 ⟨rfl, hb1⟩
    clear c0 c1 c2 x0 x1 x2 x3 x4
    have HC := Lib.hid (HC.out.call hb1); have HX := Lib.hid (HX.out.call hb1); have HB := Lib.hid (btrans HB.out HB.out.size hb1); clear hb1
    obtain ⟨c0, c1, c2⟩ := HC.out.c3
    obtain ⟨x0, x1, x2, x3, x4⟩ := HX.out.c5
    go_wp2
    go_ret
    exact ⟨by first | (rw [HF.out] <;> rfl) | (rw [HF.out, HG.out] <;> rfl), HB.out⟩
  · have HU := Lib.hid hun; unfold unuS at hun
    simp [uA, uB, uN, uS] at hun
    subst hun
    obtain ⟨V, hV⟩ : ∃ V, insS sl (n : Int) ⟨12, a, b, m, []⟩ = V := ⟨_, rfl⟩
    rw [hV]
    have HV := Lib.hid hV; clear hV
    by_cases h3 : 0 ≤ a
    rotate_left
    · skip
      have HG := Lib.hid (show false = decide (0 ≤ a) from (decide_eq_false (by omega)).symm)
      have HF := Lib.hid (show V = decide (0 ≤ a) by rw [← HV.out, insS_12 HU.out]; rw [inR_lo h3, decide_eq_false h3]; rfl)
      obtain ⟨v0, hW0, hb0, hc0, hx0⟩ := boxes2 w #[.slice pa pn pc, .int .i64 sl, .slice ia n ic] 25 #[.int .i64 12, .int .i64 a, .int .i64 b, .int .i64 m, .string (bs [])] 39
      have HW := Lib.hid hW0; have HB := Lib.hid hb0; have HC := Lib.hid hc0; have HX := Lib.hid hx0; clear hW0 hb0 hc0 hx0
      go_enter Tryz.func53, Tryz.ntmps53
      go_upto_region 1 with (fail)
      rw [HW.out]
      clear HW
      obtain ⟨c0, c1, c2⟩ := HC.out.c3
      obtain ⟨x0, x1, x2, x3, x4⟩ := HX.out.c5
      go_wp2_with fail
      refine (uses_any 12 (by decide) (by decide) _).mono ?_
      rw [show uA 12 = true from rfl, show uB 12 = true from rfl, show uN 12 = true from rfl, show uS 12 = false from rfl]
      rintro er w1 ⟨rfl, rfl⟩
      go_wp2_with fail
      refine (RName_any 12 _).mono ?_
      rw [HN.out]
      rintro er w2 ⟨rfl, hb1⟩
      clear c0 c1 c2 x0 x1 x2 x3 x4
      have HC := Lib.hid (HC.out.call hb1); have HX := Lib.hid (HX.out.call hb1); have HB := Lib.hid (btrans HB.out HB.out.size hb1); clear hb1
      obtain ⟨c0, c1, c2⟩ := HC.out.c3
      obtain ⟨x0, x1, x2, x3, x4⟩ := HX.out.c5
      go_wp2
      go_ret
      exact ⟨by first | (rw [HF.out] <;> rfl) | (rw [HF.out, HG.out] <;> rfl), HB.out⟩
    by_cases h4 : a < sl
    rotate_left
    · skip
      have HG := Lib.hid (show false = decide (a < sl) from (decide_eq_false (by omega)).symm)
      have HF := Lib.hid (show V = decide (a < sl) by rw [← HV.out, insS_12 HU.out]; rw [inR_hi h4, decide_eq_false h4]; rfl)
      obtain ⟨v0, hW0, hb0, hc0, hx0⟩ := boxes2 w #[.slice pa pn pc, .int .i64 sl, .slice ia n ic] 25 #[.int .i64 12, .int .i64 a, .int .i64 b, .int .i64 m, .string (bs [])] 39
      have HW := Lib.hid hW0; have HB := Lib.hid hb0; have HC := Lib.hid hc0; have HX := Lib.hid hx0; clear hW0 hb0 hc0 hx0
      go_enter Tryz.func53, Tryz.ntmps53
      go_upto_region 1 with (fail)
      rw [HW.out]
      clear HW
      obtain ⟨c0, c1, c2⟩ := HC.out.c3
      obtain ⟨x0, x1, x2, x3, x4⟩ := HX.out.c5
      go_wp2_with fail
      refine (uses_any 12 (by decide) (by decide) _).mono ?_
      rw [show uA 12 = true from rfl, show uB 12 = true from rfl, show uN 12 = true from rfl, show uS 12 = false from rfl]
      rintro er w1 ⟨rfl, rfl⟩
      go_wp2_with fail
      refine (RName_any 12 _).mono ?_
      rw [HN.out]
      rintro er w2 ⟨rfl, hb1⟩
      clear c0 c1 c2 x0 x1 x2 x3 x4
      have HC := Lib.hid (HC.out.call hb1); have HX := Lib.hid (HX.out.call hb1); have HB := Lib.hid (btrans HB.out HB.out.size hb1); clear hb1
      obtain ⟨c0, c1, c2⟩ := HC.out.c3
      obtain ⟨x0, x1, x2, x3, x4⟩ := HX.out.c5
      go_wp2
      go_ret
      exact ⟨by first | (rw [HF.out] <;> rfl) | (rw [HF.out, HG.out] <;> rfl), HB.out⟩
    by_cases h5 : 0 ≤ b
    rotate_left
    · skip
      have HG := Lib.hid (show false = decide (0 ≤ b) from (decide_eq_false (by omega)).symm)
      have HF := Lib.hid (show V = decide (0 ≤ b) by rw [← HV.out, insS_12 HU.out]; rw [inR_ok h3 h4, inR_lo h5, decide_eq_false h5]; rfl)
      obtain ⟨v0, hW0, hb0, hc0, hx0⟩ := boxes2 w #[.slice pa pn pc, .int .i64 sl, .slice ia n ic] 25 #[.int .i64 12, .int .i64 a, .int .i64 b, .int .i64 m, .string (bs [])] 39
      have HW := Lib.hid hW0; have HB := Lib.hid hb0; have HC := Lib.hid hc0; have HX := Lib.hid hx0; clear hW0 hb0 hc0 hx0
      go_enter Tryz.func53, Tryz.ntmps53
      go_upto_region 1 with (fail)
      rw [HW.out]
      clear HW
      obtain ⟨c0, c1, c2⟩ := HC.out.c3
      obtain ⟨x0, x1, x2, x3, x4⟩ := HX.out.c5
      go_wp2_with fail
      refine (uses_any 12 (by decide) (by decide) _).mono ?_
      rw [show uA 12 = true from rfl, show uB 12 = true from rfl, show uN 12 = true from rfl, show uS 12 = false from rfl]
      rintro er w1 ⟨rfl, rfl⟩
      go_wp2_with fail
      refine (RName_any 12 _).mono ?_
      rw [HN.out]
      rintro er w2 ⟨rfl, hb1⟩
      clear c0 c1 c2 x0 x1 x2 x3 x4
      have HC := Lib.hid (HC.out.call hb1); have HX := Lib.hid (HX.out.call hb1); have HB := Lib.hid (btrans HB.out HB.out.size hb1); clear hb1
      obtain ⟨c0, c1, c2⟩ := HC.out.c3
      obtain ⟨x0, x1, x2, x3, x4⟩ := HX.out.c5
      go_wp2
      go_ret
      exact ⟨by first | (rw [HF.out] <;> rfl) | (rw [HF.out, HG.out] <;> rfl), HB.out⟩
    by_cases h6 : b < sl
    rotate_left
    · skip
      have HG := Lib.hid (show false = decide (b < sl) from (decide_eq_false (by omega)).symm)
      have HF := Lib.hid (show V = decide (b < sl) by rw [← HV.out, insS_12 HU.out]; rw [inR_ok h3 h4, inR_hi h6, decide_eq_false h6]; rfl)
      obtain ⟨v0, hW0, hb0, hc0, hx0⟩ := boxes2 w #[.slice pa pn pc, .int .i64 sl, .slice ia n ic] 25 #[.int .i64 12, .int .i64 a, .int .i64 b, .int .i64 m, .string (bs [])] 39
      have HW := Lib.hid hW0; have HB := Lib.hid hb0; have HC := Lib.hid hc0; have HX := Lib.hid hx0; clear hW0 hb0 hc0 hx0
      go_enter Tryz.func53, Tryz.ntmps53
      go_upto_region 1 with (fail)
      rw [HW.out]
      clear HW
      obtain ⟨c0, c1, c2⟩ := HC.out.c3
      obtain ⟨x0, x1, x2, x3, x4⟩ := HX.out.c5
      go_wp2_with fail
      refine (uses_any 12 (by decide) (by decide) _).mono ?_
      rw [show uA 12 = true from rfl, show uB 12 = true from rfl, show uN 12 = true from rfl, show uS 12 = false from rfl]
      rintro er w1 ⟨rfl, rfl⟩
      go_wp2_with fail
      refine (RName_any 12 _).mono ?_
      rw [HN.out]
      rintro er w2 ⟨rfl, hb1⟩
      clear c0 c1 c2 x0 x1 x2 x3 x4
      have HC := Lib.hid (HC.out.call hb1); have HX := Lib.hid (HX.out.call hb1); have HB := Lib.hid (btrans HB.out HB.out.size hb1); clear hb1
      obtain ⟨c0, c1, c2⟩ := HC.out.c3
      obtain ⟨x0, x1, x2, x3, x4⟩ := HX.out.c5
      go_wp2
      go_ret
      exact ⟨by first | (rw [HF.out] <;> rfl) | (rw [HF.out, HG.out] <;> rfl), HB.out⟩
    by_cases h7 : 1 ≤ m
    rotate_left
    · skip
      have HG := Lib.hid (show false = decide (1 ≤ m) from (decide_eq_false (by omega)).symm)
      have HF := Lib.hid (show V = decide (1 ≤ m) by rw [← HV.out, insS_12 HU.out]; rw [inR_ok h3 h4, inR_ok h5 h6, decide_eq_false h7]; rfl)
      obtain ⟨v0, hW0, hb0, hc0, hx0⟩ := boxes2 w #[.slice pa pn pc, .int .i64 sl, .slice ia n ic] 25 #[.int .i64 12, .int .i64 a, .int .i64 b, .int .i64 m, .string (bs [])] 39
      have HW := Lib.hid hW0; have HB := Lib.hid hb0; have HC := Lib.hid hc0; have HX := Lib.hid hx0; clear hW0 hb0 hc0 hx0
      go_enter Tryz.func53, Tryz.ntmps53
      go_upto_region 1 with (fail)
      rw [HW.out]
      clear HW
      obtain ⟨c0, c1, c2⟩ := HC.out.c3
      obtain ⟨x0, x1, x2, x3, x4⟩ := HX.out.c5
      go_wp2_with fail
      refine (uses_any 12 (by decide) (by decide) _).mono ?_
      rw [show uA 12 = true from rfl, show uB 12 = true from rfl, show uN 12 = true from rfl, show uS 12 = false from rfl]
      rintro er w1 ⟨rfl, rfl⟩
      go_wp2_with fail
      refine (RName_any 12 _).mono ?_
      rw [HN.out]
      rintro er w2 ⟨rfl, hb1⟩
      clear c0 c1 c2 x0 x1 x2 x3 x4
      have HC := Lib.hid (HC.out.call hb1); have HX := Lib.hid (HX.out.call hb1); have HB := Lib.hid (btrans HB.out HB.out.size hb1); clear hb1
      obtain ⟨c0, c1, c2⟩ := HC.out.c3
      obtain ⟨x0, x1, x2, x3, x4⟩ := HX.out.c5
      go_wp2
      go_ret
      exact ⟨by first | (rw [HF.out] <;> rfl) | (rw [HF.out, HG.out] <;> rfl), HB.out⟩
    by_cases h8 : m ≤ 16
    rotate_left
    · skip
      have HG := Lib.hid (show false = decide (m ≤ 16) from (decide_eq_false (by omega)).symm)
      have HF := Lib.hid (show V = decide (m ≤ 16) by rw [← HV.out, insS_12 HU.out]; rw [inR_ok h3 h4, inR_ok h5 h6, decide_eq_true h7]; rfl)
      obtain ⟨v0, hW0, hb0, hc0, hx0⟩ := boxes2 w #[.slice pa pn pc, .int .i64 sl, .slice ia n ic] 25 #[.int .i64 12, .int .i64 a, .int .i64 b, .int .i64 m, .string (bs [])] 39
      have HW := Lib.hid hW0; have HB := Lib.hid hb0; have HC := Lib.hid hc0; have HX := Lib.hid hx0; clear hW0 hb0 hc0 hx0
      go_enter Tryz.func53, Tryz.ntmps53
      go_upto_region 1 with (fail)
      rw [HW.out]
      clear HW
      obtain ⟨c0, c1, c2⟩ := HC.out.c3
      obtain ⟨x0, x1, x2, x3, x4⟩ := HX.out.c5
      go_wp2_with fail
      refine (uses_any 12 (by decide) (by decide) _).mono ?_
      rw [show uA 12 = true from rfl, show uB 12 = true from rfl, show uN 12 = true from rfl, show uS 12 = false from rfl]
      rintro er w1 ⟨rfl, rfl⟩
      go_wp2_with fail
      refine (RName_any 12 _).mono ?_
      rw [HN.out]
      rintro er w2 ⟨rfl, hb1⟩
      clear c0 c1 c2 x0 x1 x2 x3 x4
      have HC := Lib.hid (HC.out.call hb1); have HX := Lib.hid (HX.out.call hb1); have HB := Lib.hid (btrans HB.out HB.out.size hb1); clear hb1
      obtain ⟨c0, c1, c2⟩ := HC.out.c3
      obtain ⟨x0, x1, x2, x3, x4⟩ := HX.out.c5
      go_wp2
      go_ret
      exact ⟨by first | (rw [HF.out] <;> rfl) | (rw [HF.out, HG.out] <;> rfl), HB.out⟩
    have HF := Lib.hid (show V = true by rw [← HV.out, insS_12 HU.out]; rw [inR_ok h3 h4, inR_ok h5 h6, decide_eq_true h7, decide_eq_true h8]; rfl)
    obtain ⟨v0, hW0, hb0, hc0, hx0⟩ := boxes2 w #[.slice pa pn pc, .int .i64 sl, .slice ia n ic] 25 #[.int .i64 12, .int .i64 a, .int .i64 b, .int .i64 m, .string (bs [])] 39
    have HW := Lib.hid hW0; have HB := Lib.hid hb0; have HC := Lib.hid hc0; have HX := Lib.hid hx0; clear hW0 hb0 hc0 hx0
    go_enter Tryz.func53, Tryz.ntmps53
    go_upto_region 1 with (fail)
    rw [HW.out]
    clear HW
    obtain ⟨c0, c1, c2⟩ := HC.out.c3
    obtain ⟨x0, x1, x2, x3, x4⟩ := HX.out.c5
    go_wp2_with fail
    refine (uses_any 12 (by decide) (by decide) _).mono ?_
    rw [show uA 12 = true from rfl, show uB 12 = true from rfl, show uN 12 = true from rfl, show uS 12 = false from rfl]
    rintro er w1 ⟨rfl, rfl⟩
    go_wp2_with fail
    refine (RName_any 12 _).mono ?_
    rw [HN.out]
    rintro er w2 ⟨rfl, hb1⟩
    clear c0 c1 c2 x0 x1 x2 x3 x4
    have HC := Lib.hid (HC.out.call hb1); have HX := Lib.hid (HX.out.call hb1); have HB := Lib.hid (btrans HB.out HB.out.size hb1); clear hb1
    obtain ⟨c0, c1, c2⟩ := HC.out.c3
    obtain ⟨x0, x1, x2, x3, x4⟩ := HX.out.c5
    go_wp2
    go_ret
    exact ⟨by first | (rw [HF.out] <;> rfl) | (rw [HF.out, HG.out] <;> rfl), HB.out⟩
  · have HU := Lib.hid hun; unfold unuS at hun
    simp [uA, uB, uN, uS] at hun
    obtain ⟨rfl, rfl, rfl, rfl⟩ := hun
    obtain ⟨V, hV⟩ : ∃ V, insS sl (n : Int) ⟨13, 0, 0, 0, []⟩ = V := ⟨_, rfl⟩
    rw [hV]
    have HV := Lib.hid hV; clear hV
    have HF := Lib.hid (show V = true by rw [← HV.out, insS_13 HU.out])
    obtain ⟨v0, hW0, hb0, hc0, hx0⟩ := boxes2 w #[.slice pa pn pc, .int .i64 sl, .slice ia n ic] 25 #[.int .i64 13, .int .i64 0, .int .i64 0, .int .i64 0, .string (bs [])] 39
    have HW := Lib.hid hW0; have HB := Lib.hid hb0; have HC := Lib.hid hc0; have HX := Lib.hid hx0; clear hW0 hb0 hc0 hx0
    go_enter Tryz.func53, Tryz.ntmps53
    go_upto_region 1 with (fail)
    rw [HW.out]
    clear HW
    obtain ⟨c0, c1, c2⟩ := HC.out.c3
    obtain ⟨x0, x1, x2, x3, x4⟩ := HX.out.c5
    go_wp2_with fail
    refine (uses_any 13 (by decide) (by decide) _).mono ?_
    rw [show uA 13 = false from rfl, show uB 13 = false from rfl, show uN 13 = false from rfl, show uS 13 = false from rfl]
    rintro er w1 ⟨rfl, rfl⟩
    go_wp2_with fail
    refine (RName_any 13 _).mono ?_
    rw [HN.out]
    rintro er w2 ⟨rfl, hb1⟩
    clear c0 c1 c2 x0 x1 x2 x3 x4
    have HC := Lib.hid (HC.out.call hb1); have HX := Lib.hid (HX.out.call hb1); have HB := Lib.hid (btrans HB.out HB.out.size hb1); clear hb1
    obtain ⟨c0, c1, c2⟩ := HC.out.c3
    obtain ⟨x0, x1, x2, x3, x4⟩ := HX.out.c5
    go_wp2
    go_ret
    exact ⟨by first | (rw [HF.out] <;> rfl) | (rw [HF.out, HG.out] <;> rfl), HB.out⟩
  · have HU := Lib.hid hun; unfold unuS at hun
    simp [uA, uB, uN, uS] at hun
    obtain ⟨rfl, rfl, rfl, rfl⟩ := hun
    obtain ⟨V, hV⟩ : ∃ V, insS sl (n : Int) ⟨14, 0, 0, 0, []⟩ = V := ⟨_, rfl⟩
    rw [hV]
    have HV := Lib.hid hV; clear hV
    have HF := Lib.hid (show V = true by rw [← HV.out, insS_14 HU.out])
    obtain ⟨v0, hW0, hb0, hc0, hx0⟩ := boxes2 w #[.slice pa pn pc, .int .i64 sl, .slice ia n ic] 25 #[.int .i64 14, .int .i64 0, .int .i64 0, .int .i64 0, .string (bs [])] 39
    have HW := Lib.hid hW0; have HB := Lib.hid hb0; have HC := Lib.hid hc0; have HX := Lib.hid hx0; clear hW0 hb0 hc0 hx0
    go_enter Tryz.func53, Tryz.ntmps53
    go_upto_region 1 with (fail)
    rw [HW.out]
    clear HW
    obtain ⟨c0, c1, c2⟩ := HC.out.c3
    obtain ⟨x0, x1, x2, x3, x4⟩ := HX.out.c5
    go_wp2_with fail
    refine (uses_any 14 (by decide) (by decide) _).mono ?_
    rw [show uA 14 = false from rfl, show uB 14 = false from rfl, show uN 14 = false from rfl, show uS 14 = false from rfl]
    rintro er w1 ⟨rfl, rfl⟩
    go_wp2_with fail
    refine (RName_any 14 _).mono ?_
    rw [HN.out]
    rintro er w2 ⟨rfl, hb1⟩
    clear c0 c1 c2 x0 x1 x2 x3 x4
    have HC := Lib.hid (HC.out.call hb1); have HX := Lib.hid (HX.out.call hb1); have HB := Lib.hid (btrans HB.out HB.out.size hb1); clear hb1
    obtain ⟨c0, c1, c2⟩ := HC.out.c3
    obtain ⟨x0, x1, x2, x3, x4⟩ := HX.out.c5
    go_wp2
    go_ret
    exact ⟨by first | (rw [HF.out] <;> rfl) | (rw [HF.out, HG.out] <;> rfl), HB.out⟩
end Go.Proofs.YtkmmdkklpbafdaaGreatDoor
