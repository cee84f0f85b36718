/- The walks of the reference's less and Compare. No conditions. -/
import Derived.Test.YtmffdoblpkjmjaaDoorValC
namespace Go.Proofs.YtmffdoblpkjmjaaDoor
open Go.RowKit

def lessV (a b : Vl) : Bool := if a.k = b.k then (if a.n = b.n then Op.bytesLess a.s b.s else decide (a.n < b.n)) else decide (a.k < b.k)
theorem bytes_cmp : ∀ s t : List UInt8, Lib.compareBytes s t = if Op.bytesLess s t = true then -1 else if Op.bytesLess t s = true then 1 else 0
  | [], [] => rfl
  | [], _ :: _ => rfl
  | _ :: _, [] => rfl
  | a :: s, b :: t => by
    have ih := bytes_cmp s t
    simp only [Lib.compareBytes, Op.bytesLess]
    by_cases h1 : a < b
    · simp [h1]
    · by_cases h2 : b < a
      · have : ¬ a = b := by intro e; subst e; exact h1 h2
        simp [h1, h2, this]
      · have : a = b := UInt8.le_antisymm (UInt8.not_lt.1 h2) (UInt8.not_lt.1 h1)
        subst this
        simp [h1, ih]
theorem int_cmp (x y : Int) : Lib.compareInt x y = if x < y then -1 else if y < x then 1 else 0 := rfl
theorem cmp_less (a b : Vl) : cmpV a b = if lessV a b = true then -1 else if lessV b a = true then 1 else 0 := by
  by_cases hk : a.k = b.k
  · by_cases hn : a.n = b.n
    · have e1 : lessV a b = Op.bytesLess a.s b.s := by unfold lessV; rw [if_pos hk, if_pos hn]
      have e2 : lessV b a = Op.bytesLess b.s a.s := by unfold lessV; rw [if_pos hk.symm, if_pos hn.symm]
      rw [e1, e2]; unfold cmpV; rw [if_pos hk, if_pos hn, bytes_cmp]
    · have e1 : lessV a b = decide (a.n < b.n) := by unfold lessV; rw [if_pos hk, if_neg hn]
      have e2 : lessV b a = decide (b.n < a.n) := by unfold lessV; rw [if_pos hk.symm, if_neg (fun e => hn e.symm)]
      rw [e1, e2]; unfold cmpV; rw [if_pos hk, if_neg hn, int_cmp]; simp only [decide_eq_true_eq]
  · have e1 : lessV a b = decide (a.k < b.k) := by unfold lessV; rw [if_neg hk]
    have e2 : lessV b a = decide (b.k < a.k) := by unfold lessV; rw [if_neg (fun e => hk e.symm)]
    rw [e1, e2]; unfold cmpV; rw [if_neg hk, int_cmp]; simp only [decide_eq_true_eq]

set_option maxRecDepth 100000 in
set_option maxHeartbeats 4000000 in
theorem less_any (a b : Vl) (w : World) :
    Calls Tryd.prog 33 #[.agg (vV a), .agg (vV b)] w fun e w' => e = .returned (.bool (lessV a b)) ∧ Below w.heap.size w w' := by
  simp only [vV]
  by_cases hk : a.k = b.k
  rotate_left
  · have hr : lessV a b = decide (a.k < b.k) := by unfold lessV; rw [if_neg hk]
    rw [hr]; clear hr
    have t1 : (a.k != b.k) = true := by rw [bne_iff_ne]; exact hk
    have HK := Lib.hid hk; clear hk
    have hb0 := (((Below.refl w.heap.size w).alloc (Nat.le_refl _) (.cells #[.int .i64 a.k, .int .i64 a.n, .string (bs a.s)] 23)).alloc (by simp) (.cells #[.int .i64 b.k, .int .i64 b.n, .string (bs b.s)] 23))
    have h_HX := ((Bx.new w #[.int .i64 a.k, .int .i64 a.n, .string (bs a.s)] 23).alloc (.cells #[.int .i64 b.k, .int .i64 b.n, .string (bs b.s)] 23))
    have h_HY := (Bx.new (w.alloc (.cells #[.int .i64 a.k, .int .i64 a.n, .string (bs a.s)] 23)) #[.int .i64 b.k, .int .i64 b.n, .string (bs b.s)] 23)
    rw [show (w.alloc (.cells #[.int .i64 a.k, .int .i64 a.n, .string (bs a.s)] 23)).heap.size = w.heap.size + 1 by simp] at h_HY
    have HB := Lib.hid hb0; have HX := Lib.hid h_HX; have HY := Lib.hid h_HY
    clear hb0 h_HX h_HY
    go_enter Tryd.func33, Tryd.ntmps33
    go_upto_region 1 with (fail)
    generalize hW0 : (w.alloc (.cells #[.int .i64 a.k, .int .i64 a.n, .string (bs a.s)] 23)).alloc (.cells #[.int .i64 b.k, .int .i64 b.n, .string (bs b.s)] 23) = v0 at HB HX HY ⊢
    clear hW0
    have x0 : v0.cell? ⟨w.heap.size, 0, none⟩ = some (.int .i64 a.k) := HX.out.cell 0
    have x1 : v0.cell? ⟨w.heap.size, 1, none⟩ = some (.int .i64 a.n) := HX.out.cell 1
    have x2 : v0.cell? ⟨w.heap.size, 2, none⟩ = some (.string (bs a.s)) := HX.out.cell 2
    have y0 : v0.cell? ⟨(w.heap.size + 1), 0, none⟩ = some (.int .i64 b.k) := HY.out.cell 0
    have y1 : v0.cell? ⟨(w.heap.size + 1), 1, none⟩ = some (.int .i64 b.n) := HY.out.cell 1
    have y2 : v0.cell? ⟨(w.heap.size + 1), 2, none⟩ = some (.string (bs b.s)) := HY.out.cell 2
    go_wp2
    go_ret
    exact ⟨rfl, HB.out⟩
  have t1 : (a.k != b.k) = false := by rw [hk]; simp
  have HK := Lib.hid hk; clear hk
  by_cases hn : a.n = b.n
  rotate_left
  · have hr : lessV a b = decide (a.n < b.n) := by unfold lessV; rw [if_pos HK.out, if_neg hn]
    rw [hr]; clear hr
    have t2 : (a.n != b.n) = true := by rw [bne_iff_ne]; exact hn
    have HN := Lib.hid hn; clear hn
    have hb0 := (((Below.refl w.heap.size w).alloc (Nat.le_refl _) (.cells #[.int .i64 a.k, .int .i64 a.n, .string (bs a.s)] 23)).alloc (by simp) (.cells #[.int .i64 b.k, .int .i64 b.n, .string (bs b.s)] 23))
    have h_HX := ((Bx.new w #[.int .i64 a.k, .int .i64 a.n, .string (bs a.s)] 23).alloc (.cells #[.int .i64 b.k, .int .i64 b.n, .string (bs b.s)] 23))
    have h_HY := (Bx.new (w.alloc (.cells #[.int .i64 a.k, .int .i64 a.n, .string (bs a.s)] 23)) #[.int .i64 b.k, .int .i64 b.n, .string (bs b.s)] 23)
    rw [show (w.alloc (.cells #[.int .i64 a.k, .int .i64 a.n, .string (bs a.s)] 23)).heap.size = w.heap.size + 1 by simp] at h_HY
    have HB := Lib.hid hb0; have HX := Lib.hid h_HX; have HY := Lib.hid h_HY
    clear hb0 h_HX h_HY
    go_enter Tryd.func33, Tryd.ntmps33
    go_upto_region 1 with (fail)
    generalize hW0 : (w.alloc (.cells #[.int .i64 a.k, .int .i64 a.n, .string (bs a.s)] 23)).alloc (.cells #[.int .i64 b.k, .int .i64 b.n, .string (bs b.s)] 23) = v0 at HB HX HY ⊢
    clear hW0
    have x0 : v0.cell? ⟨w.heap.size, 0, none⟩ = some (.int .i64 a.k) := HX.out.cell 0
    have x1 : v0.cell? ⟨w.heap.size, 1, none⟩ = some (.int .i64 a.n) := HX.out.cell 1
    have x2 : v0.cell? ⟨w.heap.size, 2, none⟩ = some (.string (bs a.s)) := HX.out.cell 2
    have y0 : v0.cell? ⟨(w.heap.size + 1), 0, none⟩ = some (.int .i64 b.k) := HY.out.cell 0
    have y1 : v0.cell? ⟨(w.heap.size + 1), 1, none⟩ = some (.int .i64 b.n) := HY.out.cell 1
    have y2 : v0.cell? ⟨(w.heap.size + 1), 2, none⟩ = some (.string (bs b.s)) := HY.out.cell 2
    go_wp2
    go_ret
    exact ⟨rfl, HB.out⟩
  have hr : lessV a b = Op.bytesLess a.s b.s := by unfold lessV; rw [if_pos HK.out, if_pos hn]
  rw [hr]; clear hr
  have t2 : (a.n != b.n) = false := by rw [hn]; simp
  have HN := Lib.hid hn; clear hn
  have hb0 := (((Below.refl w.heap.size w).alloc (Nat.le_refl _) (.cells #[.int .i64 a.k, .int .i64 a.n, .string (bs a.s)] 23)).alloc (by simp) (.cells #[.int .i64 b.k, .int .i64 b.n, .string (bs b.s)] 23))
  have h_HX := ((Bx.new w #[.int .i64 a.k, .int .i64 a.n, .string (bs a.s)] 23).alloc (.cells #[.int .i64 b.k, .int .i64 b.n, .string (bs b.s)] 23))
  have h_HY := (Bx.new (w.alloc (.cells #[.int .i64 a.k, .int .i64 a.n, .string (bs a.s)] 23)) #[.int .i64 b.k, .int .i64 b.n, .string (bs b.s)] 23)
  rw [show (w.alloc (.cells #[.int .i64 a.k, .int .i64 a.n, .string (bs a.s)] 23)).heap.size = w.heap.size + 1 by simp] at h_HY
  have HB := Lib.hid hb0; have HX := Lib.hid h_HX; have HY := Lib.hid h_HY
  clear hb0 h_HX h_HY
  go_enter Tryd.func33, Tryd.ntmps33
  go_upto_region 1 with (fail)
  generalize hW0 : (w.alloc (.cells #[.int .i64 a.k, .int .i64 a.n, .string (bs a.s)] 23)).alloc (.cells #[.int .i64 b.k, .int .i64 b.n, .string (bs b.s)] 23) = v0 at HB HX HY ⊢
  clear hW0
  have x0 : v0.cell? ⟨w.heap.size, 0, none⟩ = some (.int .i64 a.k) := HX.out.cell 0
  have x1 : v0.cell? ⟨w.heap.size, 1, none⟩ = some (.int .i64 a.n) := HX.out.cell 1
  have x2 : v0.cell? ⟨w.heap.size, 2, none⟩ = some (.string (bs a.s)) := HX.out.cell 2
  have y0 : v0.cell? ⟨(w.heap.size + 1), 0, none⟩ = some (.int .i64 b.k) := HY.out.cell 0
  have y1 : v0.cell? ⟨(w.heap.size + 1), 1, none⟩ = some (.int .i64 b.n) := HY.out.cell 1
  have y2 : v0.cell? ⟨(w.heap.size + 1), 2, none⟩ = some (.string (bs b.s)) := HY.out.cell 2
  go_wp2
  go_ret
  exact ⟨rfl, HB.out⟩
set_option maxRecDepth 100000 in
set_option maxHeartbeats 4000000 in
theorem RVCompare_any (a b : Vl) (w : World) :
    Calls Tryd.prog 19 #[.agg (vV a), .agg (vV b)] w fun e w' => e = .returned (.int .i64 (cmpV a b)) ∧ Below w.heap.size w w' := by
  rw [cmp_less]
  obtain ⟨t1, h1⟩ : ∃ t, lessV a b = t := ⟨_, rfl⟩
  obtain ⟨t2, h2⟩ : ∃ t, lessV b a = t := ⟨_, rfl⟩
  rw [h1, h2]
  have H1 := Lib.hid h1; have H2 := Lib.hid h2; clear h1 h2
  simp only [vV]
  have hb0 := (((Below.refl w.heap.size w).alloc (Nat.le_refl _) (.cells #[.int .i64 a.k, .int .i64 a.n, .string (bs a.s)] 23)).alloc (by simp) (.cells #[.int .i64 b.k, .int .i64 b.n, .string (bs b.s)] 23))
  have h_HX := ((Bx.new w #[.int .i64 a.k, .int .i64 a.n, .string (bs a.s)] 23).alloc (.cells #[.int .i64 b.k, .int .i64 b.n, .string (bs b.s)] 23))
  have h_HY := (Bx.new (w.alloc (.cells #[.int .i64 a.k, .int .i64 a.n, .string (bs a.s)] 23)) #[.int .i64 b.k, .int .i64 b.n, .string (bs b.s)] 23)
  rw [show (w.alloc (.cells #[.int .i64 a.k, .int .i64 a.n, .string (bs a.s)] 23)).heap.size = w.heap.size + 1 by simp] at h_HY
  have HB := Lib.hid hb0; have HX := Lib.hid h_HX; have HY := Lib.hid h_HY
  clear hb0 h_HX h_HY
  go_enter Tryd.func19, Tryd.ntmps19
  go_upto_region 1 with (fail)
  generalize hW0 : (w.alloc (.cells #[.int .i64 a.k, .int .i64 a.n, .string (bs a.s)] 23)).alloc (.cells #[.int .i64 b.k, .int .i64 b.n, .string (bs b.s)] 23) = v0 at HB HX HY ⊢
  clear hW0
  have x0 : v0.cell? ⟨w.heap.size, 0, none⟩ = some (.int .i64 a.k) := HX.out.cell 0
  have x1 : v0.cell? ⟨w.heap.size, 1, none⟩ = some (.int .i64 a.n) := HX.out.cell 1
  have x2 : v0.cell? ⟨w.heap.size, 2, none⟩ = some (.string (bs a.s)) := HX.out.cell 2
  have y0 : v0.cell? ⟨(w.heap.size + 1), 0, none⟩ = some (.int .i64 b.k) := HY.out.cell 0
  have y1 : v0.cell? ⟨(w.heap.size + 1), 1, none⟩ = some (.int .i64 b.n) := HY.out.cell 1
  have y2 : v0.cell? ⟨(w.heap.size + 1), 2, none⟩ = some (.string (bs b.s)) := HY.out.cell 2
  go_wp2_with fail
  refine (less_any a b _).mono ?_
  rw [H1.out]
  rintro er w1 ⟨rfl, hb1⟩
  have HX := Lib.hid (HX.out.call hb1); have HY := Lib.hid (HY.out.call hb1); have HB := Lib.hid (btrans HB.out HB.out.size hb1); clear hb1
  clear x0 x1 x2
  clear y0 y1 y2
  cases t1 with
  | true => go_wp2; go_ret; exact ⟨rfl, HB.out⟩
  | false =>
    have x0 : w1.cell? ⟨w.heap.size, 0, none⟩ = some (.int .i64 a.k) := HX.out.cell 0
    have x1 : w1.cell? ⟨w.heap.size, 1, none⟩ = some (.int .i64 a.n) := HX.out.cell 1
    have x2 : w1.cell? ⟨w.heap.size, 2, none⟩ = some (.string (bs a.s)) := HX.out.cell 2
    have y0 : w1.cell? ⟨(w.heap.size + 1), 0, none⟩ = some (.int .i64 b.k) := HY.out.cell 0
    have y1 : w1.cell? ⟨(w.heap.size + 1), 1, none⟩ = some (.int .i64 b.n) := HY.out.cell 1
    have y2 : w1.cell? ⟨(w.heap.size + 1), 2, none⟩ = some (.string (bs b.s)) := HY.out.cell 2
    go_wp2_with fail
    refine (less_any b a _).mono ?_
    rw [H2.out]
    rintro er w2 ⟨rfl, hb1⟩
    clear x0 x1 x2
    clear y0 y1 y2
    cases t2 with
    | true => go_wp2; go_ret; exact ⟨rfl, btrans HB.out HB.out.size hb1⟩
    | false => go_wp2; go_ret; exact ⟨rfl, btrans HB.out HB.out.size hb1⟩
end Go.Proofs.YtmffdoblpkjmjaaDoor
