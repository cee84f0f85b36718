/- The walks of layer 5's Valid, Int, Str, and of the reference's. No conditions. -/
import Derived.Test.YtmffdoblpkjmjaaDoorValA
import Derived.Test.YtmffdoblpkjmjaaDoorBox
namespace Go.Proofs.YtmffdoblpkjmjaaDoor
open Go.RowKit

theorem vaB_zero (n : Int) (s : List UInt8) : vaB ⟨0, n, s⟩ = (decide (n = 0) && (s == [])) := rfl
theorem vaB_one (n : Int) (s : List UInt8) : vaB ⟨1, n, s⟩ = (s == []) := rfl
theorem vaB_two (n : Int) (s : List UInt8) : vaB ⟨2, n, s⟩ = (decide (n = 0) && plB s) := rfl
theorem vaB_else (k n : Int) (s : List UInt8) (h0 : k ≠ 0) (h1 : k ≠ 1) (h2 : k ≠ 2) : vaB ⟨k, n, s⟩ = false := by unfold vaB; simp only; rw [if_neg h0, if_neg h1, if_neg h2]

set_option maxRecDepth 100000 in
set_option maxHeartbeats 4000000 in
theorem VValid_any (v : Vl) (hl : v.s.length ≤ 9223372036854775807) (w : World) :
    Calls Tryd.prog 14 #[.agg (vV v)] w fun e w' => e = .returned (.bool (vaB v)) ∧ Below w.heap.size w w' := by
  obtain ⟨k, n, s⟩ := v
  simp only at hl
  simp only [vV]
  by_cases h0 : k = 0
  · subst h0
    by_cases hn : n = 0
    · subst hn
      by_cases hs : s = []
      · subst hs
        have hv : vaB ⟨0, 0, []⟩ = true := by rfl
        rw [hv]; clear hv
        have hb0 := ((Below.refl w.heap.size w).alloc (Nat.le_refl _) (.cells #[.int .i64 0, .int .i64 0, .string (bs [])] 23))
        have h_HX := (Bx.new w #[.int .i64 0, .int .i64 0, .string (bs [])] 23)
        have HB := Lib.hid hb0; have HX := Lib.hid h_HX
        clear hb0 h_HX
        go_enter Tryd.func14, Tryd.ntmps14
        go_upto_region 1 with (fail)
        generalize hW0 : w.alloc (.cells #[.int .i64 0, .int .i64 0, .string (bs [])] 23) = v0 at HB HX ⊢
        clear hW0
        have x0 : v0.cell? ⟨w.heap.size, 0, none⟩ = some (.int .i64 0) := HX.out.cell 0
        have x1 : v0.cell? ⟨w.heap.size, 1, none⟩ = some (.int .i64 0) := HX.out.cell 1
        have x2 : v0.cell? ⟨w.heap.size, 2, none⟩ = some (.string (bs [])) := HX.out.cell 2
        go_wp2
        go_ret
        exact ⟨rfl, HB.out⟩
      · have ts : (s == []) = false := by rw [beq_eq_false_iff_ne]; exact hs
        have hv : vaB ⟨0, 0, s⟩ = false := by rw [vaB_zero, ts]; rfl
        rw [hv]; clear hv
        have hb0 := ((Below.refl w.heap.size w).alloc (Nat.le_refl _) (.cells #[.int .i64 0, .int .i64 0, .string (bs s)] 23))
        have h_HX := (Bx.new w #[.int .i64 0, .int .i64 0, .string (bs s)] 23)
        have HB := Lib.hid hb0; have HX := Lib.hid h_HX
        clear hb0 h_HX
        go_enter Tryd.func14, Tryd.ntmps14
        go_upto_region 1 with (fail)
        generalize hW0 : w.alloc (.cells #[.int .i64 0, .int .i64 0, .string (bs s)] 23) = v0 at HB HX ⊢
        clear hW0
        have x0 : v0.cell? ⟨w.heap.size, 0, none⟩ = some (.int .i64 0) := HX.out.cell 0
        have x1 : v0.cell? ⟨w.heap.size, 1, none⟩ = some (.int .i64 0) := HX.out.cell 1
        have x2 : v0.cell? ⟨w.heap.size, 2, none⟩ = some (.string (bs s)) := HX.out.cell 2
        go_wp2
        go_ret
        exact ⟨rfl, HB.out⟩
    · have tn : (n == 0) = false := by rw [beq_eq_false_iff_ne]; exact hn
      have hv : vaB ⟨0, n, s⟩ = false := by rw [vaB_zero, decide_eq_false hn]; rfl
      rw [hv]; clear hv
      have hb0 := ((Below.refl w.heap.size w).alloc (Nat.le_refl _) (.cells #[.int .i64 0, .int .i64 n, .string (bs s)] 23))
      have h_HX := (Bx.new w #[.int .i64 0, .int .i64 n, .string (bs s)] 23)
      have HB := Lib.hid hb0; have HX := Lib.hid h_HX
      clear hb0 h_HX
      go_enter Tryd.func14, Tryd.ntmps14
      go_upto_region 1 with (fail)
      generalize hW0 : w.alloc (.cells #[.int .i64 0, .int .i64 n, .string (bs s)] 23) = v0 at HB HX ⊢
      clear hW0
      have x0 : v0.cell? ⟨w.heap.size, 0, none⟩ = some (.int .i64 0) := HX.out.cell 0
      have x1 : v0.cell? ⟨w.heap.size, 1, none⟩ = some (.int .i64 n) := HX.out.cell 1
      have x2 : v0.cell? ⟨w.heap.size, 2, none⟩ = some (.string (bs s)) := HX.out.cell 2
      go_wp2
      go_ret
      exact ⟨rfl, HB.out⟩
  by_cases h1 : k = 1
  · subst h1
    obtain ⟨ts, hts⟩ : ∃ t, (s == []) = t := ⟨_, rfl⟩
    have hv : vaB ⟨1, n, s⟩ = ts := by rw [vaB_one, hts]
    rw [hv]; clear hv
    have hb0 := ((Below.refl w.heap.size w).alloc (Nat.le_refl _) (.cells #[.int .i64 1, .int .i64 n, .string (bs s)] 23))
    have h_HX := (Bx.new w #[.int .i64 1, .int .i64 n, .string (bs s)] 23)
    have HB := Lib.hid hb0; have HX := Lib.hid h_HX
    clear hb0 h_HX
    go_enter Tryd.func14, Tryd.ntmps14
    go_upto_region 1 with (fail)
    generalize hW0 : w.alloc (.cells #[.int .i64 1, .int .i64 n, .string (bs s)] 23) = v0 at HB HX ⊢
    clear hW0
    have x0 : v0.cell? ⟨w.heap.size, 0, none⟩ = some (.int .i64 1) := HX.out.cell 0
    have x1 : v0.cell? ⟨w.heap.size, 1, none⟩ = some (.int .i64 n) := HX.out.cell 1
    have x2 : v0.cell? ⟨w.heap.size, 2, none⟩ = some (.string (bs s)) := HX.out.cell 2
    go_wp2
    go_ret
    exact ⟨rfl, HB.out⟩
  have t0 : (k == 0) = false := by rw [beq_eq_false_iff_ne]; exact h0
  have t1 : (k == 1) = false := by rw [beq_eq_false_iff_ne]; exact h1
  by_cases h2 : k = 2
  · subst h2
    by_cases hn : n = 0
    · subst hn
      obtain ⟨tp, htp⟩ : ∃ t, plB s = t := ⟨_, rfl⟩
      have HP := Lib.hid htp
      have hv : vaB ⟨2, 0, s⟩ = tp := by rw [vaB_two, htp]; rfl
      rw [hv]; clear hv
      have hb0 := ((Below.refl w.heap.size w).alloc (Nat.le_refl _) (.cells #[.int .i64 2, .int .i64 0, .string (bs s)] 23))
      have h_HX := (Bx.new w #[.int .i64 2, .int .i64 0, .string (bs s)] 23)
      have HB := Lib.hid hb0; have HX := Lib.hid h_HX
      clear hb0 h_HX
      go_enter Tryd.func14, Tryd.ntmps14
      go_upto_region 1 with (fail)
      generalize hW0 : w.alloc (.cells #[.int .i64 2, .int .i64 0, .string (bs s)] 23) = v0 at HB HX ⊢
      clear hW0
      have x0 : v0.cell? ⟨w.heap.size, 0, none⟩ = some (.int .i64 2) := HX.out.cell 0
      have x1 : v0.cell? ⟨w.heap.size, 1, none⟩ = some (.int .i64 0) := HX.out.cell 1
      have x2 : v0.cell? ⟨w.heap.size, 2, none⟩ = some (.string (bs s)) := HX.out.cell 2
      go_wp2_with fail
      refine (plain_any s _ hl).mono ?_
      rw [HP.out]
      rintro er w1 ⟨rfl, rfl⟩
      go_wp2_with fail
      go_ret
      exact ⟨rfl, HB.out⟩
    · have tn : (n == 0) = false := by rw [beq_eq_false_iff_ne]; exact hn
      have hv : vaB ⟨2, n, s⟩ = false := by rw [vaB_two, decide_eq_false hn]; rfl
      rw [hv]; clear hv
      have hb0 := ((Below.refl w.heap.size w).alloc (Nat.le_refl _) (.cells #[.int .i64 2, .int .i64 n, .string (bs s)] 23))
      have h_HX := (Bx.new w #[.int .i64 2, .int .i64 n, .string (bs s)] 23)
      have HB := Lib.hid hb0; have HX := Lib.hid h_HX
      clear hb0 h_HX
      go_enter Tryd.func14, Tryd.ntmps14
      go_upto_region 1 with (fail)
      generalize hW0 : w.alloc (.cells #[.int .i64 2, .int .i64 n, .string (bs s)] 23) = v0 at HB HX ⊢
      clear hW0
      have x0 : v0.cell? ⟨w.heap.size, 0, none⟩ = some (.int .i64 2) := HX.out.cell 0
      have x1 : v0.cell? ⟨w.heap.size, 1, none⟩ = some (.int .i64 n) := HX.out.cell 1
      have x2 : v0.cell? ⟨w.heap.size, 2, none⟩ = some (.string (bs s)) := HX.out.cell 2
      go_wp2
      go_ret
      exact ⟨rfl, HB.out⟩
  have t2 : (k == 2) = false := by rw [beq_eq_false_iff_ne]; exact h2
  have hv : vaB ⟨k, n, s⟩ = false := vaB_else k n s h0 h1 h2
  rw [hv]; clear hv h0 h1 h2
  have hb0 := ((Below.refl w.heap.size w).alloc (Nat.le_refl _) (.cells #[.int .i64 k, .int .i64 n, .string (bs s)] 23))
  have h_HX := (Bx.new w #[.int .i64 k, .int .i64 n, .string (bs s)] 23)
  have HB := Lib.hid hb0; have HX := Lib.hid h_HX
  clear hb0 h_HX
  go_enter Tryd.func14, Tryd.ntmps14
  go_upto_region 1 with (fail)
  generalize hW0 : w.alloc (.cells #[.int .i64 k, .int .i64 n, .string (bs s)] 23) = v0 at HB HX ⊢
  clear hW0
  have x0 : v0.cell? ⟨w.heap.size, 0, none⟩ = some (.int .i64 k) := HX.out.cell 0
  have x1 : v0.cell? ⟨w.heap.size, 1, none⟩ = some (.int .i64 n) := HX.out.cell 1
  have x2 : v0.cell? ⟨w.heap.size, 2, none⟩ = some (.string (bs s)) := HX.out.cell 2
  go_wp2
  go_ret
  exact ⟨rfl, HB.out⟩
set_option maxRecDepth 100000 in
set_option maxHeartbeats 4000000 in
theorem RVValid_any (v : Vl) (hl : v.s.length ≤ 9223372036854775807) (w : World) :
    Calls Tryd.prog 15 #[.agg (vV v)] w fun e w' => e = .returned (.bool (vaB v)) ∧ Below w.heap.size w w' := by
  obtain ⟨k, n, s⟩ := v
  simp only at hl
  simp only [vV]
  by_cases h0 : k = 0
  · subst h0
    by_cases hn : n = 0
    · subst hn
      by_cases hs : s = []
      · subst hs
        have hv : vaB ⟨0, 0, []⟩ = true := by rfl
        rw [hv]; clear hv
        have hb0 := ((Below.refl w.heap.size w).alloc (Nat.le_refl _) (.cells #[.int .i64 0, .int .i64 0, .string (bs [])] 23))
        have h_HX := (Bx.new w #[.int .i64 0, .int .i64 0, .string (bs [])] 23)
        have HB := Lib.hid hb0; have HX := Lib.hid h_HX
        clear hb0 h_HX
        go_enter Tryd.func15, Tryd.ntmps15
        go_upto_region 1 with (fail)
        generalize hW0 : w.alloc (.cells #[.int .i64 0, .int .i64 0, .string (bs [])] 23) = v0 at HB HX ⊢
        clear hW0
        have x0 : v0.cell? ⟨w.heap.size, 0, none⟩ = some (.int .i64 0) := HX.out.cell 0
        have x1 : v0.cell? ⟨w.heap.size, 1, none⟩ = some (.int .i64 0) := HX.out.cell 1
        have x2 : v0.cell? ⟨w.heap.size, 2, none⟩ = some (.string (bs [])) := HX.out.cell 2
        go_wp2
        go_ret
        exact ⟨rfl, HB.out⟩
      · have ts : (s == []) = false := by rw [beq_eq_false_iff_ne]; exact hs
        have hv : vaB ⟨0, 0, s⟩ = false := by rw [vaB_zero, ts]; rfl
        rw [hv]; clear hv
        have hb0 := ((Below.refl w.heap.size w).alloc (Nat.le_refl _) (.cells #[.int .i64 0, .int .i64 0, .string (bs s)] 23))
        have h_HX := (Bx.new w #[.int .i64 0, .int .i64 0, .string (bs s)] 23)
        have HB := Lib.hid hb0; have HX := Lib.hid h_HX
        clear hb0 h_HX
        go_enter Tryd.func15, Tryd.ntmps15
        go_upto_region 1 with (fail)
        generalize hW0 : w.alloc (.cells #[.int .i64 0, .int .i64 0, .string (bs s)] 23) = v0 at HB HX ⊢
        clear hW0
        have x0 : v0.cell? ⟨w.heap.size, 0, none⟩ = some (.int .i64 0) := HX.out.cell 0
        have x1 : v0.cell? ⟨w.heap.size, 1, none⟩ = some (.int .i64 0) := HX.out.cell 1
        have x2 : v0.cell? ⟨w.heap.size, 2, none⟩ = some (.string (bs s)) := HX.out.cell 2
        go_wp2
        go_ret
        exact ⟨rfl, HB.out⟩
    · have tn : (n == 0) = false := by rw [beq_eq_false_iff_ne]; exact hn
      have hv : vaB ⟨0, n, s⟩ = false := by rw [vaB_zero, decide_eq_false hn]; rfl
      rw [hv]; clear hv
      have hb0 := ((Below.refl w.heap.size w).alloc (Nat.le_refl _) (.cells #[.int .i64 0, .int .i64 n, .string (bs s)] 23))
      have h_HX := (Bx.new w #[.int .i64 0, .int .i64 n, .string (bs s)] 23)
      have HB := Lib.hid hb0; have HX := Lib.hid h_HX
      clear hb0 h_HX
      go_enter Tryd.func15, Tryd.ntmps15
      go_upto_region 1 with (fail)
      generalize hW0 : w.alloc (.cells #[.int .i64 0, .int .i64 n, .string (bs s)] 23) = v0 at HB HX ⊢
      clear hW0
      have x0 : v0.cell? ⟨w.heap.size, 0, none⟩ = some (.int .i64 0) := HX.out.cell 0
      have x1 : v0.cell? ⟨w.heap.size, 1, none⟩ = some (.int .i64 n) := HX.out.cell 1
      have x2 : v0.cell? ⟨w.heap.size, 2, none⟩ = some (.string (bs s)) := HX.out.cell 2
      go_wp2
      go_ret
      exact ⟨rfl, HB.out⟩
  by_cases h1 : k = 1
  · subst h1
    obtain ⟨ts, hts⟩ : ∃ t, (s == []) = t := ⟨_, rfl⟩
    have hv : vaB ⟨1, n, s⟩ = ts := by rw [vaB_one, hts]
    rw [hv]; clear hv
    have hb0 := ((Below.refl w.heap.size w).alloc (Nat.le_refl _) (.cells #[.int .i64 1, .int .i64 n, .string (bs s)] 23))
    have h_HX := (Bx.new w #[.int .i64 1, .int .i64 n, .string (bs s)] 23)
    have HB := Lib.hid hb0; have HX := Lib.hid h_HX
    clear hb0 h_HX
    go_enter Tryd.func15, Tryd.ntmps15
    go_upto_region 1 with (fail)
    generalize hW0 : w.alloc (.cells #[.int .i64 1, .int .i64 n, .string (bs s)] 23) = v0 at HB HX ⊢
    clear hW0
    have x0 : v0.cell? ⟨w.heap.size, 0, none⟩ = some (.int .i64 1) := HX.out.cell 0
    have x1 : v0.cell? ⟨w.heap.size, 1, none⟩ = some (.int .i64 n) := HX.out.cell 1
    have x2 : v0.cell? ⟨w.heap.size, 2, none⟩ = some (.string (bs s)) := HX.out.cell 2
    go_wp2
    go_ret
    exact ⟨rfl, HB.out⟩
  have t0 : (k == 0) = false := by rw [beq_eq_false_iff_ne]; exact h0
  have t1 : (k == 1) = false := by rw [beq_eq_false_iff_ne]; exact h1
  by_cases h2 : k = 2
  · subst h2
    by_cases hn : n = 0
    · subst hn
      obtain ⟨tp, htp⟩ : ∃ t, plB s = t := ⟨_, rfl⟩
      have HP := Lib.hid htp
      have hv : vaB ⟨2, 0, s⟩ = tp := by rw [vaB_two, htp]; rfl
      rw [hv]; clear hv
      have hb0 := ((Below.refl w.heap.size w).alloc (Nat.le_refl _) (.cells #[.int .i64 2, .int .i64 0, .string (bs s)] 23))
      have h_HX := (Bx.new w #[.int .i64 2, .int .i64 0, .string (bs s)] 23)
      have HB := Lib.hid hb0; have HX := Lib.hid h_HX
      clear hb0 h_HX
      go_enter Tryd.func15, Tryd.ntmps15
      go_upto_region 1 with (fail)
      generalize hW0 : w.alloc (.cells #[.int .i64 2, .int .i64 0, .string (bs s)] 23) = v0 at HB HX ⊢
      clear hW0
      have x0 : v0.cell? ⟨w.heap.size, 0, none⟩ = some (.int .i64 2) := HX.out.cell 0
      have x1 : v0.cell? ⟨w.heap.size, 1, none⟩ = some (.int .i64 0) := HX.out.cell 1
      have x2 : v0.cell? ⟨w.heap.size, 2, none⟩ = some (.string (bs s)) := HX.out.cell 2
      go_wp2_with fail
      refine (RPlain_any s _ hl).mono ?_
      rw [HP.out]
      rintro er w1 ⟨rfl, rfl⟩
      go_wp2_with fail
      go_ret
      exact ⟨rfl, HB.out⟩
    · have tn : (n == 0) = false := by rw [beq_eq_false_iff_ne]; exact hn
      have hv : vaB ⟨2, n, s⟩ = false := by rw [vaB_two, decide_eq_false hn]; rfl
      rw [hv]; clear hv
      have hb0 := ((Below.refl w.heap.size w).alloc (Nat.le_refl _) (.cells #[.int .i64 2, .int .i64 n, .string (bs s)] 23))
      have h_HX := (Bx.new w #[.int .i64 2, .int .i64 n, .string (bs s)] 23)
      have HB := Lib.hid hb0; have HX := Lib.hid h_HX
      clear hb0 h_HX
      go_enter Tryd.func15, Tryd.ntmps15
      go_upto_region 1 with (fail)
      generalize hW0 : w.alloc (.cells #[.int .i64 2, .int .i64 n, .string (bs s)] 23) = v0 at HB HX ⊢
      clear hW0
      have x0 : v0.cell? ⟨w.heap.size, 0, none⟩ = some (.int .i64 2) := HX.out.cell 0
      have x1 : v0.cell? ⟨w.heap.size, 1, none⟩ = some (.int .i64 n) := HX.out.cell 1
      have x2 : v0.cell? ⟨w.heap.size, 2, none⟩ = some (.string (bs s)) := HX.out.cell 2
      go_wp2
      go_ret
      exact ⟨rfl, HB.out⟩
  have t2 : (k == 2) = false := by rw [beq_eq_false_iff_ne]; exact h2
  have hv : vaB ⟨k, n, s⟩ = false := vaB_else k n s h0 h1 h2
  rw [hv]; clear hv h0 h1 h2
  have hb0 := ((Below.refl w.heap.size w).alloc (Nat.le_refl _) (.cells #[.int .i64 k, .int .i64 n, .string (bs s)] 23))
  have h_HX := (Bx.new w #[.int .i64 k, .int .i64 n, .string (bs s)] 23)
  have HB := Lib.hid hb0; have HX := Lib.hid h_HX
  clear hb0 h_HX
  go_enter Tryd.func15, Tryd.ntmps15
  go_upto_region 1 with (fail)
  generalize hW0 : w.alloc (.cells #[.int .i64 k, .int .i64 n, .string (bs s)] 23) = v0 at HB HX ⊢
  clear hW0
  have x0 : v0.cell? ⟨w.heap.size, 0, none⟩ = some (.int .i64 k) := HX.out.cell 0
  have x1 : v0.cell? ⟨w.heap.size, 1, none⟩ = some (.int .i64 n) := HX.out.cell 1
  have x2 : v0.cell? ⟨w.heap.size, 2, none⟩ = some (.string (bs s)) := HX.out.cell 2
  go_wp2
  go_ret
  exact ⟨rfl, HB.out⟩
set_option maxRecDepth 100000 in
set_option maxHeartbeats 4000000 in
theorem VInt_any (n : Int) (w : World) :
    Calls Tryd.prog 16 #[.int .i64 n] w fun e w' => e = .returned (.agg (vV (intV5 n))) ∧ Below w.heap.size w w' := by
  go_enter Tryd.func16, Tryd.ntmps16
  go_wp2
  refine bodyPost_ret (v := .agg (vV (intV5 n))) (by simp [results, Tryd.results16, go_sem]; rfl) rfl ?_
  exact ⟨rfl, (Below.refl _ _).alloc (Nat.le_refl _) _⟩
set_option maxRecDepth 100000 in
set_option maxHeartbeats 4000000 in
theorem RVInt_any (n : Int) (w : World) :
    Calls Tryd.prog 17 #[.int .i64 n] w fun e w' => e = .returned (.agg (vV (intV5 n))) ∧ Below w.heap.size w w' := by
  go_enter Tryd.func17, Tryd.ntmps17
  go_wp2
  refine bodyPost_ret (v := .agg (vV (intV5 n))) (by simp [results, Tryd.results17, go_sem]; rfl) rfl ?_
  exact ⟨rfl, (Below.refl _ _).alloc (Nat.le_refl _) _⟩
set_option maxRecDepth 100000 in
set_option maxHeartbeats 4000000 in
theorem VStr_any (l : List UInt8) (hl : l.length ≤ 9223372036854775807) (w : World) :
    Calls Tryd.prog 12 #[.string (bs l)] w fun e w' => e = .returned (.tuple #[.agg (vV (strV5 l).1), .int .i64 (strV5 l).2]) ∧ Below w.heap.size w w' := by
  cases hp : plB l with
  | false =>
    have hr : strV5 l = (v00, 1) := by unfold strV5; rw [if_neg (by rw [hp]; simp)]
    rw [hr]; clear hr
    have HP := Lib.hid hp; clear hp
    go_enter Tryd.func12, Tryd.ntmps12
    go_wp2_with fail
    refine (plain_any l _ hl).mono ?_
    rw [HP.out]
    rintro er w1 ⟨rfl, rfl⟩
    go_wp2
    refine bodyPost_ret (v := .tuple #[.agg (vV v00), .int .i64 1]) (by simp [results, Tryd.results12, go_sem]; rfl) rfl ?_
    exact ⟨rfl, (Below.refl _ _).alloc (Nat.le_refl _) _⟩
  | true =>
    have hr : strV5 l = (⟨2, 0, l⟩, 0) := by unfold strV5; rw [if_pos hp]
    rw [hr]; clear hr
    have HP := Lib.hid hp; clear hp
    go_enter Tryd.func12, Tryd.ntmps12
    go_wp2_with fail
    refine (plain_any l _ hl).mono ?_
    rw [HP.out]
    rintro er w1 ⟨rfl, rfl⟩
    go_wp2
    refine bodyPost_ret (v := .tuple #[.agg (vV ⟨2, 0, l⟩), .int .i64 0]) (by simp [results, Tryd.results12, go_sem]; rfl) rfl ?_
    exact ⟨rfl, (Below.refl _ _).alloc (Nat.le_refl _) _⟩
set_option maxRecDepth 100000 in
set_option maxHeartbeats 4000000 in
theorem RVStr_any (l : List UInt8) (hl : l.length ≤ 9223372036854775807) (w : World) :
    Calls Tryd.prog 13 #[.string (bs l)] w fun e w' => e = .returned (.tuple #[.agg (vV (strV5 l).1), .int .i64 (strV5 l).2]) ∧ Below w.heap.size w w' := by
  cases hp : plB l with
  | false =>
    have hr : strV5 l = (v00, 1) := by unfold strV5; rw [if_neg (by rw [hp]; simp)]
    rw [hr]; clear hr
    have HP := Lib.hid hp; clear hp
    go_enter Tryd.func13, Tryd.ntmps13
    go_wp2_with fail
    refine (RPlain_any l _ hl).mono ?_
    rw [HP.out]
    rintro er w1 ⟨rfl, rfl⟩
    go_wp2
    refine bodyPost_ret (v := .tuple #[.agg (vV v00), .int .i64 1]) (by simp [results, Tryd.results13, go_sem]; rfl) rfl ?_
    exact ⟨rfl, (Below.refl _ _).alloc (Nat.le_refl _) _⟩
  | true =>
    have hr : strV5 l = (⟨2, 0, l⟩, 0) := by unfold strV5; rw [if_pos hp]
    rw [hr]; clear hr
    have HP := Lib.hid hp; clear hp
    go_enter Tryd.func13, Tryd.ntmps13
    go_wp2_with fail
    refine (RPlain_any l _ hl).mono ?_
    rw [HP.out]
    rintro er w1 ⟨rfl, rfl⟩
    go_wp2
    refine bodyPost_ret (v := .tuple #[.agg (vV ⟨2, 0, l⟩), .int .i64 0]) (by simp [results, Tryd.results13, go_sem]; rfl) rfl ?_
    exact ⟨rfl, (Below.refl _ _).alloc (Nat.le_refl _) _⟩
end Go.Proofs.YtmffdoblpkjmjaaDoor
