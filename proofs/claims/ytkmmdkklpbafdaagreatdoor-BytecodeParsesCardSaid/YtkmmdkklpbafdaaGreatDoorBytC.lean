/- The walks of layer 16's validInstr and of the reference's fields. No conditions. -/
import Derived.Test.YtkmmdkklpbafdaaGreatDoorBytB
namespace Go.Proofs.YtkmmdkklpbafdaaGreatDoor
open Go.RowKit

theorem inR_lo {a sl : Int} (h : ¬ 0 ≤ a) : inR a sl = false := by unfold inR; rw [decide_eq_false h]; rfl
theorem inR_hi {a sl : Int} (h : ¬ a < sl) : inR a sl = false := by unfold inR; rw [decide_eq_false h, Bool.and_false]
theorem inR_ok {a sl : Int} (h : 0 ≤ a) (h2 : a < sl) : inR a sl = true := by unfold inR; rw [decide_eq_true h, decide_eq_true h2]; rfl

set_option maxRecDepth 100000 in
set_option maxHeartbeats 8000000 in
theorem slot_any (b : Nat) (a sl : Int) (w : World) (c1 : w.cell? ⟨b, 1, none⟩ = some (.int .i64 sl)) :
    Calls Tryz.prog 61 #[.int .i64 a, .pointer (some ⟨b, 0, none⟩)] w fun e w' => e = .returned (.bool (inR a sl)) ∧ w' = w := by
  by_cases h1 : 0 ≤ a
  rotate_left
  · rw [inR_lo h1]
    go_enter Tryz.func61, Tryz.ntmps61
    go_wp2
    go_ret
    exact ⟨rfl, rfl⟩
  by_cases h2 : a < sl
  rotate_left
  · rw [inR_hi h2]
    go_enter Tryz.func61, Tryz.ntmps61
    go_wp2
    go_ret
    exact ⟨rfl, rfl⟩
  rw [inR_ok h1 h2]
  go_enter Tryz.func61, Tryz.ntmps61
  go_wp2
  go_ret
  exact ⟨rfl, rfl⟩
theorem insS_1 {sl n a b m : Int} {s : List UInt8} (h : unuS ⟨1, a, b, m, s⟩ = true) : insS sl n ⟨1, a, b, m, s⟩ = true := by unfold insS; rw [h]; simp
theorem insS_2 {sl n a b m : Int} {s : List UInt8} (h : unuS ⟨2, a, b, m, s⟩ = true) : insS sl n ⟨2, a, b, m, s⟩ = plainS s := by unfold insS; rw [h]; simp
theorem insS_3 {sl n a b m : Int} {s : List UInt8} (h : unuS ⟨3, a, b, m, s⟩ = true) : insS sl n ⟨3, a, b, m, s⟩ = inR a sl := by unfold insS; rw [h]; simp
theorem insS_4 {sl n a b m : Int} {s : List UInt8} (h : unuS ⟨4, a, b, m, s⟩ = true) : insS sl n ⟨4, a, b, m, s⟩ = inR a sl := by unfold insS; rw [h]; simp
theorem insS_5 {sl n a b m : Int} {s : List UInt8} (h : unuS ⟨5, a, b, m, s⟩ = true) : insS sl n ⟨5, a, b, m, s⟩ = decide (1 ≤ arS a) := by unfold insS; rw [h]; simp
theorem insS_6 {sl n a b m : Int} {s : List UInt8} (h : unuS ⟨6, a, b, m, s⟩ = true) : insS sl n ⟨6, a, b, m, s⟩ = inR a n := by unfold insS; rw [h]; simp
theorem insS_7 {sl n a b m : Int} {s : List UInt8} (h : unuS ⟨7, a, b, m, s⟩ = true) : insS sl n ⟨7, a, b, m, s⟩ = inR a n := by unfold insS; rw [h]; simp
theorem insS_8 {sl n a b m : Int} {s : List UInt8} (h : unuS ⟨8, a, b, m, s⟩ = true) : insS sl n ⟨8, a, b, m, s⟩ = true := by unfold insS; rw [h]; simp
theorem insS_9 {sl n a b m : Int} {s : List UInt8} (h : unuS ⟨9, a, b, m, s⟩ = true) : insS sl n ⟨9, a, b, m, s⟩ = true := by unfold insS; rw [h]; simp
theorem insS_10 {sl n a b m : Int} {s : List UInt8} (h : unuS ⟨10, a, b, m, s⟩ = true) : insS sl n ⟨10, a, b, m, s⟩ = true := by unfold insS; rw [h]; simp
theorem insS_11 {sl n a b m : Int} {s : List UInt8} (h : unuS ⟨11, a, b, m, s⟩ = true) : insS sl n ⟨11, a, b, m, s⟩ = inR a 1000 := by unfold insS; rw [h]; simp
theorem insS_12 {sl n a b m : Int} {s : List UInt8} (h : unuS ⟨12, a, b, m, s⟩ = true) : insS sl n ⟨12, a, b, m, s⟩ = (inR a sl && (inR b sl && (decide (1 ≤ m) && decide (m ≤ 16)))) := by unfold insS; rw [h]; simp
theorem insS_13 {sl n a b m : Int} {s : List UInt8} (h : unuS ⟨13, a, b, m, s⟩ = true) : insS sl n ⟨13, a, b, m, s⟩ = true := by unfold insS; rw [h]; simp
theorem insS_14 {sl n a b m : Int} {s : List UInt8} (h : unuS ⟨14, a, b, m, s⟩ = true) : insS sl n ⟨14, a, b, m, s⟩ = true := by unfold insS; rw [h]; simp
theorem insS_un {sl n : Int} {x : Ins} (h : unuS x = false) : insS sl n x = false := by unfold insS; rw [h]; simp
theorem insS_lo {sl n : Int} {x : Ins} (h : x.op < 1) : insS sl n x = false := by unfold insS; rw [decide_eq_false (show ¬ 1 ≤ x.op by omega)]; rfl
theorem insS_hi {sl n : Int} {x : Ins} (h : 14 < x.op) : insS sl n x = false := by unfold insS; rw [decide_eq_false (show ¬ x.op ≤ 14 by omega), Bool.and_false]; rfl
set_option maxRecDepth 100000 in
set_option maxHeartbeats 16000000 in
theorem validInstr_any (pa ia : Option Addr) (pn pc n ic : Nat) (sl : Int) (x : Ins) (hl : x.s.length ≤ 9223372036854775807) (w : World) (hB : LaidB w) :
    Calls Tryz.prog 30 #[.agg #[.slice pa pn pc, .int .i64 sl, .slice ia n ic], .agg (insV x)] w fun e w' => e = .returned (.bool (insS sl (n : Int) x)) ∧ Below w.heap.size w w' := by
  obtain ⟨op, a, b, m, s⟩ := x
  simp only at hl
  simp only [insV]
  by_cases h1 : op < 1
  · have hr : insS sl (n : Int) ⟨op, a, b, m, s⟩ = false := insS_lo h1
    rw [hr]; clear hr
    have HN := Lib.hid (nameS_out (op := op) (.inl h1))
    have hb0 := (((Below.refl w.heap.size w).alloc (Nat.le_refl _) (.cells #[.slice pa pn pc, .int .i64 sl, .slice ia n ic] 25)).alloc (by simp) (.cells #[.int .i64 op, .int .i64 a, .int .i64 b, .int .i64 m, .string (bs s)] 39))
    have h_HC := ((Bx.new w #[.slice pa pn pc, .int .i64 sl, .slice ia n ic] 25).alloc (.cells #[.int .i64 op, .int .i64 a, .int .i64 b, .int .i64 m, .string (bs s)] 39))
    have h_HX := (Bx.new (w.alloc (.cells #[.slice pa pn pc, .int .i64 sl, .slice ia n ic] 25)) #[.int .i64 op, .int .i64 a, .int .i64 b, .int .i64 m, .string (bs s)] 39)
    rw [show (w.alloc (.cells #[.slice pa pn pc, .int .i64 sl, .slice ia n ic] 25)).heap.size = w.heap.size + 1 by simp] at h_HX
    have HB := Lib.hid hb0; have HC := Lib.hid h_HC; have HX := Lib.hid h_HX
    clear hb0 h_HC h_HX
    go_enter Tryz.func30, Tryz.ntmps30
    go_upto_region 1 with (fail)
    generalize hW0 : (w.alloc (.cells #[.slice pa pn pc, .int .i64 sl, .slice ia n ic] 25)).alloc (.cells #[.int .i64 op, .int .i64 a, .int .i64 b, .int .i64 m, .string (bs s)] 39) = v0 at HB HC HX ⊢
    clear hW0
    have c0 : v0.cell? ⟨w.heap.size, 0, none⟩ = some (.slice pa pn pc) := HC.out.cell 0
    have c1 : v0.cell? ⟨w.heap.size, 1, none⟩ = some (.int .i64 sl) := HC.out.cell 1
    have c2 : v0.cell? ⟨w.heap.size, 2, none⟩ = some (.slice ia n ic) := HC.out.cell 2
    have x0 : v0.cell? ⟨(w.heap.size + 1), 0, none⟩ = some (.int .i64 op) := HX.out.cell 0
    have x1 : v0.cell? ⟨(w.heap.size + 1), 1, none⟩ = some (.int .i64 a) := HX.out.cell 1
    have x2 : v0.cell? ⟨(w.heap.size + 1), 2, none⟩ = some (.int .i64 b) := HX.out.cell 2
    have x3 : v0.cell? ⟨(w.heap.size + 1), 3, none⟩ = some (.int .i64 m) := HX.out.cell 3
    have x4 : v0.cell? ⟨(w.heap.size + 1), 4, none⟩ = some (.string (bs s)) := HX.out.cell 4
    go_wp2_with fail
    refine (Name_any op _ (hB.below HB.out)).mono ?_
    rw [HN.out]
    rintro er w1 ⟨rfl, hb1⟩
    clear c0 c1 c2
    clear x0 x1 x2 x3 x4
    have HC := Lib.hid (HC.out.call hb1); have HX := Lib.hid (HX.out.call hb1); have HB := Lib.hid (btrans HB.out HB.out.size hb1); clear hb1
    have c0 : w1.cell? ⟨w.heap.size, 0, none⟩ = some (.slice pa pn pc) := HC.out.cell 0
    have c1 : w1.cell? ⟨w.heap.size, 1, none⟩ = some (.int .i64 sl) := HC.out.cell 1
    have c2 : w1.cell? ⟨w.heap.size, 2, none⟩ = some (.slice ia n ic) := HC.out.cell 2
    have x0 : w1.cell? ⟨(w.heap.size + 1), 0, none⟩ = some (.int .i64 op) := HX.out.cell 0
    have x1 : w1.cell? ⟨(w.heap.size + 1), 1, none⟩ = some (.int .i64 a) := HX.out.cell 1
    have x2 : w1.cell? ⟨(w.heap.size + 1), 2, none⟩ = some (.int .i64 b) := HX.out.cell 2
    have x3 : w1.cell? ⟨(w.heap.size + 1), 3, none⟩ = some (.int .i64 m) := HX.out.cell 3
    have x4 : w1.cell? ⟨(w.heap.size + 1), 4, none⟩ = some (.string (bs s)) := HX.out.cell 4
    go_wp2
    go_ret
    exact ⟨rfl, HB.out⟩
  by_cases h2 : 14 < op
  · have hr : insS sl (n : Int) ⟨op, a, b, m, s⟩ = false := insS_hi h2
    rw [hr]; clear hr
    have HN := Lib.hid (nameS_out (op := op) (.inr h2))
    have hb0 := (((Below.refl w.heap.size w).alloc (Nat.le_refl _) (.cells #[.slice pa pn pc, .int .i64 sl, .slice ia n ic] 25)).alloc (by simp) (.cells #[.int .i64 op, .int .i64 a, .int .i64 b, .int .i64 m, .string (bs s)] 39))
    have h_HC := ((Bx.new w #[.slice pa pn pc, .int .i64 sl, .slice ia n ic] 25).alloc (.cells #[.int .i64 op, .int .i64 a, .int .i64 b, .int .i64 m, .string (bs s)] 39))
    have h_HX := (Bx.new (w.alloc (.cells #[.slice pa pn pc, .int .i64 sl, .slice ia n ic] 25)) #[.int .i64 op, .int .i64 a, .int .i64 b, .int .i64 m, .string (bs s)] 39)
    rw [show (w.alloc (.cells #[.slice pa pn pc, .int .i64 sl, .slice ia n ic] 25)).heap.size = w.heap.size + 1 by simp] at h_HX
    have HB := Lib.hid hb0; have HC := Lib.hid h_HC; have HX := Lib.hid h_HX
    clear hb0 h_HC h_HX
    go_enter Tryz.func30, Tryz.ntmps30
    go_upto_region 1 with (fail)
    generalize hW0 : (w.alloc (.cells #[.slice pa pn pc, .int .i64 sl, .slice ia n ic] 25)).alloc (.cells #[.int .i64 op, .int .i64 a, .int .i64 b, .int .i64 m, .string (bs s)] 39) = v0 at HB HC HX ⊢
    clear hW0
    have c0 : v0.cell? ⟨w.heap.size, 0, none⟩ = some (.slice pa pn pc) := HC.out.cell 0
    have c1 : v0.cell? ⟨w.heap.size, 1, none⟩ = some (.int .i64 sl) := HC.out.cell 1
    have c2 : v0.cell? ⟨w.heap.size, 2, none⟩ = some (.slice ia n ic) := HC.out.cell 2
    have x0 : v0.cell? ⟨(w.heap.size + 1), 0, none⟩ = some (.int .i64 op) := HX.out.cell 0
    have x1 : v0.cell? ⟨(w.heap.size + 1), 1, none⟩ = some (.int .i64 a) := HX.out.cell 1
    have x2 : v0.cell? ⟨(w.heap.size + 1), 2, none⟩ = some (.int .i64 b) := HX.out.cell 2
    have x3 : v0.cell? ⟨(w.heap.size + 1), 3, none⟩ = some (.int .i64 m) := HX.out.cell 3
    have x4 : v0.cell? ⟨(w.heap.size + 1), 4, none⟩ = some (.string (bs s)) := HX.out.cell 4
    go_wp2_with fail
    refine (Name_any op _ (hB.below HB.out)).mono ?_
    rw [HN.out]
    rintro er w1 ⟨rfl, hb1⟩
    clear c0 c1 c2
    clear x0 x1 x2 x3 x4
    have HC := Lib.hid (HC.out.call hb1); have HX := Lib.hid (HX.out.call hb1); have HB := Lib.hid (btrans HB.out HB.out.size hb1); clear hb1
    have c0 : w1.cell? ⟨w.heap.size, 0, none⟩ = some (.slice pa pn pc) := HC.out.cell 0
    have c1 : w1.cell? ⟨w.heap.size, 1, none⟩ = some (.int .i64 sl) := HC.out.cell 1
    have c2 : w1.cell? ⟨w.heap.size, 2, none⟩ = some (.slice ia n ic) := HC.out.cell 2
    have x0 : w1.cell? ⟨(w.heap.size + 1), 0, none⟩ = some (.int .i64 op) := HX.out.cell 0
    have x1 : w1.cell? ⟨(w.heap.size + 1), 1, none⟩ = some (.int .i64 a) := HX.out.cell 1
    have x2 : w1.cell? ⟨(w.heap.size + 1), 2, none⟩ = some (.int .i64 b) := HX.out.cell 2
    have x3 : w1.cell? ⟨(w.heap.size + 1), 3, none⟩ = some (.int .i64 m) := HX.out.cell 3
    have x4 : w1.cell? ⟨(w.heap.size + 1), 4, none⟩ = some (.string (bs s)) := HX.out.cell 4
    go_wp2
    go_ret
    exact ⟨rfl, HB.out⟩
  obtain ⟨nm, hnm⟩ : ∃ nm, nameS op = nm := ⟨_, rfl⟩
  have tn : (nm == []) = false := by rw [beq_eq_false_iff_ne, ← hnm]; exact nameS_ne (by omega) (by omega)
  have HN := Lib.hid hnm; clear hnm
  obtain ⟨u, hu⟩ : ∃ u, unuS ⟨op, a, b, m, s⟩ = u := ⟨_, rfl⟩
  cases u
  · have hr : insS sl (n : Int) ⟨op, a, b, m, s⟩ = false := insS_un hu
    rw [hr]; clear hr
    have HU := Lib.hid hu; clear hu
    have hb0 := (((Below.refl w.heap.size w).alloc (Nat.le_refl _) (.cells #[.slice pa pn pc, .int .i64 sl, .slice ia n ic] 25)).alloc (by simp) (.cells #[.int .i64 op, .int .i64 a, .int .i64 b, .int .i64 m, .string (bs s)] 39))
    have h_HC := ((Bx.new w #[.slice pa pn pc, .int .i64 sl, .slice ia n ic] 25).alloc (.cells #[.int .i64 op, .int .i64 a, .int .i64 b, .int .i64 m, .string (bs s)] 39))
    have h_HX := (Bx.new (w.alloc (.cells #[.slice pa pn pc, .int .i64 sl, .slice ia n ic] 25)) #[.int .i64 op, .int .i64 a, .int .i64 b, .int .i64 m, .string (bs s)] 39)
    rw [show (w.alloc (.cells #[.slice pa pn pc, .int .i64 sl, .slice ia n ic] 25)).heap.size = w.heap.size + 1 by simp] at h_HX
    have HB := Lib.hid hb0; have HC := Lib.hid h_HC; have HX := Lib.hid h_HX
    clear hb0 h_HC h_HX
    go_enter Tryz.func30, Tryz.ntmps30
    go_upto_region 1 with (fail)
    generalize hW0 : (w.alloc (.cells #[.slice pa pn pc, .int .i64 sl, .slice ia n ic] 25)).alloc (.cells #[.int .i64 op, .int .i64 a, .int .i64 b, .int .i64 m, .string (bs s)] 39) = v0 at HB HC HX ⊢
    clear hW0
    have c0 : v0.cell? ⟨w.heap.size, 0, none⟩ = some (.slice pa pn pc) := HC.out.cell 0
    have c1 : v0.cell? ⟨w.heap.size, 1, none⟩ = some (.int .i64 sl) := HC.out.cell 1
    have c2 : v0.cell? ⟨w.heap.size, 2, none⟩ = some (.slice ia n ic) := HC.out.cell 2
    have x0 : v0.cell? ⟨(w.heap.size + 1), 0, none⟩ = some (.int .i64 op) := HX.out.cell 0
    have x1 : v0.cell? ⟨(w.heap.size + 1), 1, none⟩ = some (.int .i64 a) := HX.out.cell 1
    have x2 : v0.cell? ⟨(w.heap.size + 1), 2, none⟩ = some (.int .i64 b) := HX.out.cell 2
    have x3 : v0.cell? ⟨(w.heap.size + 1), 3, none⟩ = some (.int .i64 m) := HX.out.cell 3
    have x4 : v0.cell? ⟨(w.heap.size + 1), 4, none⟩ = some (.string (bs s)) := HX.out.cell 4
    go_wp2_with fail
    refine (Name_any op _ (hB.below HB.out)).mono ?_
    rw [HN.out]
    rintro er w1 ⟨rfl, hb1⟩
    clear c0 c1 c2
    clear x0 x1 x2 x3 x4
    have HC := Lib.hid (HC.out.call hb1); have HX := Lib.hid (HX.out.call hb1); have HB := Lib.hid (btrans HB.out HB.out.size hb1); clear hb1
    have c0 : w1.cell? ⟨w.heap.size, 0, none⟩ = some (.slice pa pn pc) := HC.out.cell 0
    have c1 : w1.cell? ⟨w.heap.size, 1, none⟩ = some (.int .i64 sl) := HC.out.cell 1
    have c2 : w1.cell? ⟨w.heap.size, 2, none⟩ = some (.slice ia n ic) := HC.out.cell 2
    have x0 : w1.cell? ⟨(w.heap.size + 1), 0, none⟩ = some (.int .i64 op) := HX.out.cell 0
    have x1 : w1.cell? ⟨(w.heap.size + 1), 1, none⟩ = some (.int .i64 a) := HX.out.cell 1
    have x2 : w1.cell? ⟨(w.heap.size + 1), 2, none⟩ = some (.int .i64 b) := HX.out.cell 2
    have x3 : w1.cell? ⟨(w.heap.size + 1), 3, none⟩ = some (.int .i64 m) := HX.out.cell 3
    have x4 : w1.cell? ⟨(w.heap.size + 1), 4, none⟩ = some (.string (bs s)) := HX.out.cell 4
    go_wp2_with fail
    refine (unused_any ⟨op, a, b, m, s⟩ (by show 1 ≤ op; omega) (by show op ≤ 14; omega) _).mono ?_
    rw [HU.out]
    rintro er w2 ⟨rfl, hb1⟩
    clear c0 c1 c2
    clear x0 x1 x2 x3 x4
    have HC := Lib.hid (HC.out.call hb1); have HX := Lib.hid (HX.out.call hb1); have HB := Lib.hid (btrans HB.out HB.out.size hb1); clear hb1
    have c0 : w2.cell? ⟨w.heap.size, 0, none⟩ = some (.slice pa pn pc) := HC.out.cell 0
    have c1 : w2.cell? ⟨w.heap.size, 1, none⟩ = some (.int .i64 sl) := HC.out.cell 1
    have c2 : w2.cell? ⟨w.heap.size, 2, none⟩ = some (.slice ia n ic) := HC.out.cell 2
    have x0 : w2.cell? ⟨(w.heap.size + 1), 0, none⟩ = some (.int .i64 op) := HX.out.cell 0
    have x1 : w2.cell? ⟨(w.heap.size + 1), 1, none⟩ = some (.int .i64 a) := HX.out.cell 1
    have x2 : w2.cell? ⟨(w.heap.size + 1), 2, none⟩ = some (.int .i64 b) := HX.out.cell 2
    have x3 : w2.cell? ⟨(w.heap.size + 1), 3, none⟩ = some (.int .i64 m) := HX.out.cell 3
    have x4 : w2.cell? ⟨(w.heap.size + 1), 4, none⟩ = some (.string (bs s)) := HX.out.cell 4
    go_wp2
    go_ret
    exact ⟨rfl, HB.out⟩
  have hop : op = 1 ∨ op = 2 ∨ op = 3 ∨ op = 4 ∨ op = 5 ∨ op = 6 ∨ op = 7 ∨ op = 8 ∨ op = 9 ∨ op = 10 ∨ op = 11 ∨ op = 12 ∨ op = 13 ∨ op = 14 := by omega
  clear h1 h2
  rcases hop with rfl | rfl | rfl | rfl | rfl | rfl | rfl | rfl | rfl | rfl | rfl | rfl | rfl | rfl
  · have HU := Lib.hid hu; clear hu
    obtain ⟨V, hV⟩ : ∃ V, insS sl (n : Int) ⟨1, a, b, m, s⟩ = V := ⟨_, rfl⟩
    rw [hV]
    have HV := Lib.hid hV; clear hV
    have hmf : ∀ (fn : Fn) (first cap : Array Value) (w : World), (Instr.makeFunc fn first cap).run Tryz.prog w = .ok (.func fn first cap) w := fun _ _ _ _ => rfl
    have hb0 := (((Below.refl w.heap.size w).alloc (Nat.le_refl _) (.cells #[.slice pa pn pc, .int .i64 sl, .slice ia n ic] 25)).alloc (by simp) (.cells #[.int .i64 1, .int .i64 a, .int .i64 b, .int .i64 m, .string (bs s)] 39))
    have h_HC := ((Bx.new w #[.slice pa pn pc, .int .i64 sl, .slice ia n ic] 25).alloc (.cells #[.int .i64 1, .int .i64 a, .int .i64 b, .int .i64 m, .string (bs s)] 39))
    have h_HX := (Bx.new (w.alloc (.cells #[.slice pa pn pc, .int .i64 sl, .slice ia n ic] 25)) #[.int .i64 1, .int .i64 a, .int .i64 b, .int .i64 m, .string (bs s)] 39)
    rw [show (w.alloc (.cells #[.slice pa pn pc, .int .i64 sl, .slice ia n ic] 25)).heap.size = w.heap.size + 1 by simp] at h_HX
    have HB := Lib.hid hb0; have HC := Lib.hid h_HC; have HX := Lib.hid h_HX
    clear hb0 h_HC h_HX
    go_enter Tryz.func30, Tryz.ntmps30
    go_upto_region 1 with (fail)
    generalize hW0 : (w.alloc (.cells #[.slice pa pn pc, .int .i64 sl, .slice ia n ic] 25)).alloc (.cells #[.int .i64 1, .int .i64 a, .int .i64 b, .int .i64 m, .string (bs s)] 39) = v0 at HB HC HX ⊢
    clear hW0
    have c0 : v0.cell? ⟨w.heap.size, 0, none⟩ = some (.slice pa pn pc) := HC.out.cell 0
    have c1 : v0.cell? ⟨w.heap.size, 1, none⟩ = some (.int .i64 sl) := HC.out.cell 1
    have c2 : v0.cell? ⟨w.heap.size, 2, none⟩ = some (.slice ia n ic) := HC.out.cell 2
    have x0 : v0.cell? ⟨(w.heap.size + 1), 0, none⟩ = some (.int .i64 1) := HX.out.cell 0
    have x1 : v0.cell? ⟨(w.heap.size + 1), 1, none⟩ = some (.int .i64 a) := HX.out.cell 1
    have x2 : v0.cell? ⟨(w.heap.size + 1), 2, none⟩ = some (.int .i64 b) := HX.out.cell 2
    have x3 : v0.cell? ⟨(w.heap.size + 1), 3, none⟩ = some (.int .i64 m) := HX.out.cell 3
    have x4 : v0.cell? ⟨(w.heap.size + 1), 4, none⟩ = some (.string (bs s)) := HX.out.cell 4
    go_wp2_with fail
    refine (Name_any 1 _ (hB.below HB.out)).mono ?_
    rw [HN.out]
    rintro er w1 ⟨rfl, hb1⟩
    clear c0 c1 c2
    clear x0 x1 x2 x3 x4
    have HC := Lib.hid (HC.out.call hb1); have HX := Lib.hid (HX.out.call hb1); have HB := Lib.hid (btrans HB.out HB.out.size hb1); clear hb1
    have c0 : w1.cell? ⟨w.heap.size, 0, none⟩ = some (.slice pa pn pc) := HC.out.cell 0
    have c1 : w1.cell? ⟨w.heap.size, 1, none⟩ = some (.int .i64 sl) := HC.out.cell 1
    have c2 : w1.cell? ⟨w.heap.size, 2, none⟩ = some (.slice ia n ic) := HC.out.cell 2
    have x0 : w1.cell? ⟨(w.heap.size + 1), 0, none⟩ = some (.int .i64 1) := HX.out.cell 0
    have x1 : w1.cell? ⟨(w.heap.size + 1), 1, none⟩ = some (.int .i64 a) := HX.out.cell 1
    have x2 : w1.cell? ⟨(w.heap.size + 1), 2, none⟩ = some (.int .i64 b) := HX.out.cell 2
    have x3 : w1.cell? ⟨(w.heap.size + 1), 3, none⟩ = some (.int .i64 m) := HX.out.cell 3
    have x4 : w1.cell? ⟨(w.heap.size + 1), 4, none⟩ = some (.string (bs s)) := HX.out.cell 4
    go_wp2_with fail
    refine (unused_any ⟨1, a, b, m, s⟩ (by show (1 : Int) ≤ 1; decide) (by show (1 : Int) ≤ 14; decide) _).mono ?_
    rw [HU.out]
    rintro er w2 ⟨rfl, hb1⟩
    clear c0 c1 c2
    clear x0 x1 x2 x3 x4
    have HC := Lib.hid (HC.out.call hb1); have HX := Lib.hid (HX.out.call hb1); have HB := Lib.hid (btrans HB.out HB.out.size hb1); clear hb1
    have c0 : w2.cell? ⟨w.heap.size, 0, none⟩ = some (.slice pa pn pc) := HC.out.cell 0
    have c1 : w2.cell? ⟨w.heap.size, 1, none⟩ = some (.int .i64 sl) := HC.out.cell 1
    have c2 : w2.cell? ⟨w.heap.size, 2, none⟩ = some (.slice ia n ic) := HC.out.cell 2
    have x0 : w2.cell? ⟨(w.heap.size + 1), 0, none⟩ = some (.int .i64 1) := HX.out.cell 0
    have x1 : w2.cell? ⟨(w.heap.size + 1), 1, none⟩ = some (.int .i64 a) := HX.out.cell 1
    have x2 : w2.cell? ⟨(w.heap.size + 1), 2, none⟩ = some (.int .i64 b) := HX.out.cell 2
    have x3 : w2.cell? ⟨(w.heap.size + 1), 3, none⟩ = some (.int .i64 m) := HX.out.cell 3
    have x4 : w2.cell? ⟨(w.heap.size + 1), 4, none⟩ = some (.string (bs s)) := HX.out.cell 4
    have HF := Lib.hid (show V = true by rw [← HV.out]; rw [insS_1 HU.out])
    go_wp2
    go_ret
    exact ⟨by rw [HF.out] <;> rfl, HB.out⟩
  · have HU := Lib.hid hu; clear hu
    obtain ⟨V, hV⟩ : ∃ V, insS sl (n : Int) ⟨2, a, b, m, s⟩ = V := ⟨_, rfl⟩
    rw [hV]
    have HV := Lib.hid hV; clear hV
    have hmf : ∀ (fn : Fn) (first cap : Array Value) (w : World), (Instr.makeFunc fn first cap).run Tryz.prog w = .ok (.func fn first cap) w := fun _ _ _ _ => rfl
    have hb0 := (((Below.refl w.heap.size w).alloc (Nat.le_refl _) (.cells #[.slice pa pn pc, .int .i64 sl, .slice ia n ic] 25)).alloc (by simp) (.cells #[.int .i64 2, .int .i64 a, .int .i64 b, .int .i64 m, .string (bs s)] 39))
    have h_HC := ((Bx.new w #[.slice pa pn pc, .int .i64 sl, .slice ia n ic] 25).alloc (.cells #[.int .i64 2, .int .i64 a, .int .i64 b, .int .i64 m, .string (bs s)] 39))
    have h_HX := (Bx.new (w.alloc (.cells #[.slice pa pn pc, .int .i64 sl, .slice ia n ic] 25)) #[.int .i64 2, .int .i64 a, .int .i64 b, .int .i64 m, .string (bs s)] 39)
    rw [show (w.alloc (.cells #[.slice pa pn pc, .int .i64 sl, .slice ia n ic] 25)).heap.size = w.heap.size + 1 by simp] at h_HX
    have HB := Lib.hid hb0; have HC := Lib.hid h_HC; have HX := Lib.hid h_HX
    clear hb0 h_HC h_HX
    go_enter Tryz.func30, Tryz.ntmps30
    go_upto_region 1 with (fail)
    generalize hW0 : (w.alloc (.cells #[.slice pa pn pc, .int .i64 sl, .slice ia n ic] 25)).alloc (.cells #[.int .i64 2, .int .i64 a, .int .i64 b, .int .i64 m, .string (bs s)] 39) = v0 at HB HC HX ⊢
    clear hW0
    have c0 : v0.cell? ⟨w.heap.size, 0, none⟩ = some (.slice pa pn pc) := HC.out.cell 0
    have c1 : v0.cell? ⟨w.heap.size, 1, none⟩ = some (.int .i64 sl) := HC.out.cell 1
    have c2 : v0.cell? ⟨w.heap.size, 2, none⟩ = some (.slice ia n ic) := HC.out.cell 2
    have x0 : v0.cell? ⟨(w.heap.size + 1), 0, none⟩ = some (.int .i64 2) := HX.out.cell 0
    have x1 : v0.cell? ⟨(w.heap.size + 1), 1, none⟩ = some (.int .i64 a) := HX.out.cell 1
    have x2 : v0.cell? ⟨(w.heap.size + 1), 2, none⟩ = some (.int .i64 b) := HX.out.cell 2
    have x3 : v0.cell? ⟨(w.heap.size + 1), 3, none⟩ = some (.int .i64 m) := HX.out.cell 3
    have x4 : v0.cell? ⟨(w.heap.size + 1), 4, none⟩ = some (.string (bs s)) := HX.out.cell 4
    go_wp2_with fail
    refine (Name_any 2 _ (hB.below HB.out)).mono ?_
    rw [HN.out]
    rintro er w1 ⟨rfl, hb1⟩
    clear c0 c1 c2
    clear x0 x1 x2 x3 x4
    have HC := Lib.hid (HC.out.call hb1); have HX := Lib.hid (HX.out.call hb1); have HB := Lib.hid (btrans HB.out HB.out.size hb1); clear hb1
    have c0 : w1.cell? ⟨w.heap.size, 0, none⟩ = some (.slice pa pn pc) := HC.out.cell 0
    have c1 : w1.cell? ⟨w.heap.size, 1, none⟩ = some (.int .i64 sl) := HC.out.cell 1
    have c2 : w1.cell? ⟨w.heap.size, 2, none⟩ = some (.slice ia n ic) := HC.out.cell 2
    have x0 : w1.cell? ⟨(w.heap.size + 1), 0, none⟩ = some (.int .i64 2) := HX.out.cell 0
    have x1 : w1.cell? ⟨(w.heap.size + 1), 1, none⟩ = some (.int .i64 a) := HX.out.cell 1
    have x2 : w1.cell? ⟨(w.heap.size + 1), 2, none⟩ = some (.int .i64 b) := HX.out.cell 2
    have x3 : w1.cell? ⟨(w.heap.size + 1), 3, none⟩ = some (.int .i64 m) := HX.out.cell 3
    have x4 : w1.cell? ⟨(w.heap.size + 1), 4, none⟩ = some (.string (bs s)) := HX.out.cell 4
    go_wp2_with fail
    refine (unused_any ⟨2, a, b, m, s⟩ (by show (1 : Int) ≤ 2; decide) (by show (2 : Int) ≤ 14; decide) _).mono ?_
    rw [HU.out]
    rintro er w2 ⟨rfl, hb1⟩
    clear c0 c1 c2
    clear x0 x1 x2 x3 x4
    have HC := Lib.hid (HC.out.call hb1); have HX := Lib.hid (HX.out.call hb1); have HB := Lib.hid (btrans HB.out HB.out.size hb1); clear hb1
    have c0 : w2.cell? ⟨w.heap.size, 0, none⟩ = some (.slice pa pn pc) := HC.out.cell 0
    have c1 : w2.cell? ⟨w.heap.size, 1, none⟩ = some (.int .i64 sl) := HC.out.cell 1
    have c2 : w2.cell? ⟨w.heap.size, 2, none⟩ = some (.slice ia n ic) := HC.out.cell 2
    have x0 : w2.cell? ⟨(w.heap.size + 1), 0, none⟩ = some (.int .i64 2) := HX.out.cell 0
    have x1 : w2.cell? ⟨(w.heap.size + 1), 1, none⟩ = some (.int .i64 a) := HX.out.cell 1
    have x2 : w2.cell? ⟨(w.heap.size + 1), 2, none⟩ = some (.int .i64 b) := HX.out.cell 2
    have x3 : w2.cell? ⟨(w.heap.size + 1), 3, none⟩ = some (.int .i64 m) := HX.out.cell 3
    have x4 : w2.cell? ⟨(w.heap.size + 1), 4, none⟩ = some (.string (bs s)) := HX.out.cell 4
    obtain ⟨R, hR⟩ : ∃ R, plainS s = R := ⟨_, rfl⟩
    have HR := Lib.hid hR; clear hR
    have HF := Lib.hid (show V = R by rw [← HV.out, insS_2 HU.out]; exact HR.out)
    go_wp2_with fail
    refine (bplain_any s hl _).mono ?_
    rw [HR.out]
    rintro er w3 ⟨rfl, rfl⟩
    go_wp2
    go_ret
    exact ⟨by rw [HF.out] <;> rfl, HB.out⟩
  · have HU := Lib.hid hu; clear hu
    obtain ⟨V, hV⟩ : ∃ V, insS sl (n : Int) ⟨3, a, b, m, s⟩ = V := ⟨_, rfl⟩
    rw [hV]
    have HV := Lib.hid hV; clear hV
    have hmf : ∀ (fn : Fn) (first cap : Array Value) (w : World), (Instr.makeFunc fn first cap).run Tryz.prog w = .ok (.func fn first cap) w := fun _ _ _ _ => rfl
    have hb0 := (((Below.refl w.heap.size w).alloc (Nat.le_refl _) (.cells #[.slice pa pn pc, .int .i64 sl, .slice ia n ic] 25)).alloc (by simp) (.cells #[.int .i64 3, .int .i64 a, .int .i64 b, .int .i64 m, .string (bs s)] 39))
    have h_HC := ((Bx.new w #[.slice pa pn pc, .int .i64 sl, .slice ia n ic] 25).alloc (.cells #[.int .i64 3, .int .i64 a, .int .i64 b, .int .i64 m, .string (bs s)] 39))
    have h_HX := (Bx.new (w.alloc (.cells #[.slice pa pn pc, .int .i64 sl, .slice ia n ic] 25)) #[.int .i64 3, .int .i64 a, .int .i64 b, .int .i64 m, .string (bs s)] 39)
    rw [show (w.alloc (.cells #[.slice pa pn pc, .int .i64 sl, .slice ia n ic] 25)).heap.size = w.heap.size + 1 by simp] at h_HX
    have HB := Lib.hid hb0; have HC := Lib.hid h_HC; have HX := Lib.hid h_HX
    clear hb0 h_HC h_HX
    go_enter Tryz.func30, Tryz.ntmps30
    go_upto_region 1 with (fail)
    generalize hW0 : (w.alloc (.cells #[.slice pa pn pc, .int .i64 sl, .slice ia n ic] 25)).alloc (.cells #[.int .i64 3, .int .i64 a, .int .i64 b, .int .i64 m, .string (bs s)] 39) = v0 at HB HC HX ⊢
    clear hW0
    have c0 : v0.cell? ⟨w.heap.size, 0, none⟩ = some (.slice pa pn pc) := HC.out.cell 0
    have c1 : v0.cell? ⟨w.heap.size, 1, none⟩ = some (.int .i64 sl) := HC.out.cell 1
    have c2 : v0.cell? ⟨w.heap.size, 2, none⟩ = some (.slice ia n ic) := HC.out.cell 2
    have x0 : v0.cell? ⟨(w.heap.size + 1), 0, none⟩ = some (.int .i64 3) := HX.out.cell 0
    have x1 : v0.cell? ⟨(w.heap.size + 1), 1, none⟩ = some (.int .i64 a) := HX.out.cell 1
    have x2 : v0.cell? ⟨(w.heap.size + 1), 2, none⟩ = some (.int .i64 b) := HX.out.cell 2
    have x3 : v0.cell? ⟨(w.heap.size + 1), 3, none⟩ = some (.int .i64 m) := HX.out.cell 3
    have x4 : v0.cell? ⟨(w.heap.size + 1), 4, none⟩ = some (.string (bs s)) := HX.out.cell 4
    go_wp2_with fail
    refine (Name_any 3 _ (hB.below HB.out)).mono ?_
    rw [HN.out]
    rintro er w1 ⟨rfl, hb1⟩
    clear c0 c1 c2
    clear x0 x1 x2 x3 x4
    have HC := Lib.hid (HC.out.call hb1); have HX := Lib.hid (HX.out.call hb1); have HB := Lib.hid (btrans HB.out HB.out.size hb1); clear hb1
    have c0 : w1.cell? ⟨w.heap.size, 0, none⟩ = some (.slice pa pn pc) := HC.out.cell 0
    have c1 : w1.cell? ⟨w.heap.size, 1, none⟩ = some (.int .i64 sl) := HC.out.cell 1
    have c2 : w1.cell? ⟨w.heap.size, 2, none⟩ = some (.slice ia n ic) := HC.out.cell 2
    have x0 : w1.cell? ⟨(w.heap.size + 1), 0, none⟩ = some (.int .i64 3) := HX.out.cell 0
    have x1 : w1.cell? ⟨(w.heap.size + 1), 1, none⟩ = some (.int .i64 a) := HX.out.cell 1
    have x2 : w1.cell? ⟨(w.heap.size + 1), 2, none⟩ = some (.int .i64 b) := HX.out.cell 2
    have x3 : w1.cell? ⟨(w.heap.size + 1), 3, none⟩ = some (.int .i64 m) := HX.out.cell 3
    have x4 : w1.cell? ⟨(w.heap.size + 1), 4, none⟩ = some (.string (bs s)) := HX.out.cell 4
    go_wp2_with fail
    refine (unused_any ⟨3, a, b, m, s⟩ (by show (1 : Int) ≤ 3; decide) (by show (3 : Int) ≤ 14; decide) _).mono ?_
    rw [HU.out]
    rintro er w2 ⟨rfl, hb1⟩
    clear c0 c1 c2
    clear x0 x1 x2 x3 x4
    have HC := Lib.hid (HC.out.call hb1); have HX := Lib.hid (HX.out.call hb1); have HB := Lib.hid (btrans HB.out HB.out.size hb1); clear hb1
    have c0 : w2.cell? ⟨w.heap.size, 0, none⟩ = some (.slice pa pn pc) := HC.out.cell 0
    have c1 : w2.cell? ⟨w.heap.size, 1, none⟩ = some (.int .i64 sl) := HC.out.cell 1
    have c2 : w2.cell? ⟨w.heap.size, 2, none⟩ = some (.slice ia n ic) := HC.out.cell 2
    have x0 : w2.cell? ⟨(w.heap.size + 1), 0, none⟩ = some (.int .i64 3) := HX.out.cell 0
    have x1 : w2.cell? ⟨(w.heap.size + 1), 1, none⟩ = some (.int .i64 a) := HX.out.cell 1
    have x2 : w2.cell? ⟨(w.heap.size + 1), 2, none⟩ = some (.int .i64 b) := HX.out.cell 2
    have x3 : w2.cell? ⟨(w.heap.size + 1), 3, none⟩ = some (.int .i64 m) := HX.out.cell 3
    have x4 : w2.cell? ⟨(w.heap.size + 1), 4, none⟩ = some (.string (bs s)) := HX.out.cell 4
    obtain ⟨R, hR⟩ : ∃ R, inR a sl = R := ⟨_, rfl⟩
    have HR := Lib.hid hR; clear hR
    have HF := Lib.hid (show V = R by rw [← HV.out, insS_3 HU.out]; exact HR.out)
    go_wp2_with fail
    refine (slot_any w.heap.size a sl _ c1).mono ?_
    rw [HR.out]
    rintro er w3 ⟨rfl, rfl⟩
    go_wp2
    go_ret
    exact ⟨by rw [HF.out] <;> rfl, HB.out⟩
  · have HU := Lib.hid hu; clear hu
    obtain ⟨V, hV⟩ : ∃ V, insS sl (n : Int) ⟨4, a, b, m, s⟩ = V := ⟨_, rfl⟩
    rw [hV]
    have HV := Lib.hid hV; clear hV
    have hmf : ∀ (fn : Fn) (first cap : Array Value) (w : World), (Instr.makeFunc fn first cap).run Tryz.prog w = .ok (.func fn first cap) w := fun _ _ _ _ => rfl
    have hb0 := (((Below.refl w.heap.size w).alloc (Nat.le_refl _) (.cells #[.slice pa pn pc, .int .i64 sl, .slice ia n ic] 25)).alloc (by simp) (.cells #[.int .i64 4, .int .i64 a, .int .i64 b, .int .i64 m, .string (bs s)] 39))
    have h_HC := ((Bx.new w #[.slice pa pn pc, .int .i64 sl, .slice ia n ic] 25).alloc (.cells #[.int .i64 4, .int .i64 a, .int .i64 b, .int .i64 m, .string (bs s)] 39))
    have h_HX := (Bx.new (w.alloc (.cells #[.slice pa pn pc, .int .i64 sl, .slice ia n ic] 25)) #[.int .i64 4, .int .i64 a, .int .i64 b, .int .i64 m, .string (bs s)] 39)
    rw [show (w.alloc (.cells #[.slice pa pn pc, .int .i64 sl, .slice ia n ic] 25)).heap.size = w.heap.size + 1 by simp] at h_HX
    have HB := Lib.hid hb0; have HC := Lib.hid h_HC; have HX := Lib.hid h_HX
    clear hb0 h_HC h_HX
    go_enter Tryz.func30, Tryz.ntmps30
    go_upto_region 1 with (fail)
    generalize hW0 : (w.alloc (.cells #[.slice pa pn pc, .int .i64 sl, .slice ia n ic] 25)).alloc (.cells #[.int .i64 4, .int .i64 a, .int .i64 b, .int .i64 m, .string (bs s)] 39) = v0 at HB HC HX ⊢
    clear hW0
    have c0 : v0.cell? ⟨w.heap.size, 0, none⟩ = some (.slice pa pn pc) := HC.out.cell 0
    have c1 : v0.cell? ⟨w.heap.size, 1, none⟩ = some (.int .i64 sl) := HC.out.cell 1
    have c2 : v0.cell? ⟨w.heap.size, 2, none⟩ = some (.slice ia n ic) := HC.out.cell 2
    have x0 : v0.cell? ⟨(w.heap.size + 1), 0, none⟩ = some (.int .i64 4) := HX.out.cell 0
    have x1 : v0.cell? ⟨(w.heap.size + 1), 1, none⟩ = some (.int .i64 a) := HX.out.cell 1
    have x2 : v0.cell? ⟨(w.heap.size + 1), 2, none⟩ = some (.int .i64 b) := HX.out.cell 2
    have x3 : v0.cell? ⟨(w.heap.size + 1), 3, none⟩ = some (.int .i64 m) := HX.out.cell 3
    have x4 : v0.cell? ⟨(w.heap.size + 1), 4, none⟩ = some (.string (bs s)) := HX.out.cell 4
    go_wp2_with fail
    refine (Name_any 4 _ (hB.below HB.out)).mono ?_
    rw [HN.out]
    rintro er w1 ⟨rfl, hb1⟩
    clear c0 c1 c2
    clear x0 x1 x2 x3 x4
    have HC := Lib.hid (HC.out.call hb1); have HX := Lib.hid (HX.out.call hb1); have HB := Lib.hid (btrans HB.out HB.out.size hb1); clear hb1
    have c0 : w1.cell? ⟨w.heap.size, 0, none⟩ = some (.slice pa pn pc) := HC.out.cell 0
    have c1 : w1.cell? ⟨w.heap.size, 1, none⟩ = some (.int .i64 sl) := HC.out.cell 1
    have c2 : w1.cell? ⟨w.heap.size, 2, none⟩ = some (.slice ia n ic) := HC.out.cell 2
    have x0 : w1.cell? ⟨(w.heap.size + 1), 0, none⟩ = some (.int .i64 4) := HX.out.cell 0
    have x1 : w1.cell? ⟨(w.heap.size + 1), 1, none⟩ = some (.int .i64 a) := HX.out.cell 1
    have x2 : w1.cell? ⟨(w.heap.size + 1), 2, none⟩ = some (.int .i64 b) := HX.out.cell 2
    have x3 : w1.cell? ⟨(w.heap.size + 1), 3, none⟩ = some (.int .i64 m) := HX.out.cell 3
    have x4 : w1.cell? ⟨(w.heap.size + 1), 4, none⟩ = some (.string (bs s)) := HX.out.cell 4
    go_wp2_with fail
    refine (unused_any ⟨4, a, b, m, s⟩ (by show (1 : Int) ≤ 4; decide) (by show (4 : Int) ≤ 14; decide) _).mono ?_
    rw [HU.out]
    rintro er w2 ⟨rfl, hb1⟩
    clear c0 c1 c2
    clear x0 x1 x2 x3 x4
    have HC := Lib.hid (HC.out.call hb1); have HX := Lib.hid (HX.out.call hb1); have HB := Lib.hid (btrans HB.out HB.out.size hb1); clear hb1
    have c0 : w2.cell? ⟨w.heap.size, 0, none⟩ = some (.slice pa pn pc) := HC.out.cell 0
    have c1 : w2.cell? ⟨w.heap.size, 1, none⟩ = some (.int .i64 sl) := HC.out.cell 1
    have c2 : w2.cell? ⟨w.heap.size, 2, none⟩ = some (.slice ia n ic) := HC.out.cell 2
    have x0 : w2.cell? ⟨(w.heap.size + 1), 0, none⟩ = some (.int .i64 4) := HX.out.cell 0
    have x1 : w2.cell? ⟨(w.heap.size + 1), 1, none⟩ = some (.int .i64 a) := HX.out.cell 1
    have x2 : w2.cell? ⟨(w.heap.size + 1), 2, none⟩ = some (.int .i64 b) := HX.out.cell 2
    have x3 : w2.cell? ⟨(w.heap.size + 1), 3, none⟩ = some (.int .i64 m) := HX.out.cell 3
    have x4 : w2.cell? ⟨(w.heap.size + 1), 4, none⟩ = some (.string (bs s)) := HX.out.cell 4
    obtain ⟨R, hR⟩ : ∃ R, inR a sl = R := ⟨_, rfl⟩
    have HR := Lib.hid hR; clear hR
    have HF := Lib.hid (show V = R by rw [← HV.out, insS_4 HU.out]; exact HR.out)
    go_wp2_with fail
    refine (slot_any w.heap.size a sl _ c1).mono ?_
    rw [HR.out]
    rintro er w3 ⟨rfl, rfl⟩
    go_wp2
    go_ret
    exact ⟨by rw [HF.out] <;> rfl, HB.out⟩
  · have HU := Lib.hid hu; clear hu
    obtain ⟨V, hV⟩ : ∃ V, insS sl (n : Int) ⟨5, a, b, m, s⟩ = V := ⟨_, rfl⟩
    rw [hV]
    have HV := Lib.hid hV; clear hV
    have hmf : ∀ (fn : Fn) (first cap : Array Value) (w : World), (Instr.makeFunc fn first cap).run Tryz.prog w = .ok (.func fn first cap) w := fun _ _ _ _ => rfl
    have hb0 := (((Below.refl w.heap.size w).alloc (Nat.le_refl _) (.cells #[.slice pa pn pc, .int .i64 sl, .slice ia n ic] 25)).alloc (by simp) (.cells #[.int .i64 5, .int .i64 a, .int .i64 b, .int .i64 m, .string (bs s)] 39))
    have h_HC := ((Bx.new w #[.slice pa pn pc, .int .i64 sl, .slice ia n ic] 25).alloc (.cells #[.int .i64 5, .int .i64 a, .int .i64 b, .int .i64 m, .string (bs s)] 39))
    have h_HX := (Bx.new (w.alloc (.cells #[.slice pa pn pc, .int .i64 sl, .slice ia n ic] 25)) #[.int .i64 5, .int .i64 a, .int .i64 b, .int .i64 m, .string (bs s)] 39)
    rw [show (w.alloc (.cells #[.slice pa pn pc, .int .i64 sl, .slice ia n ic] 25)).heap.size = w.heap.size + 1 by simp] at h_HX
    have HB := Lib.hid hb0; have HC := Lib.hid h_HC; have HX := Lib.hid h_HX
    clear hb0 h_HC h_HX
    go_enter Tryz.func30, Tryz.ntmps30
    go_upto_region 1 with (fail)
    generalize hW0 : (w.alloc (.cells #[.slice pa pn pc, .int .i64 sl, .slice ia n ic] 25)).alloc (.cells #[.int .i64 5, .int .i64 a, .int .i64 b, .int .i64 m, .string (bs s)] 39) = v0 at HB HC HX ⊢
    clear hW0
    have c0 : v0.cell? ⟨w.heap.size, 0, none⟩ = some (.slice pa pn pc) := HC.out.cell 0
    have c1 : v0.cell? ⟨w.heap.size, 1, none⟩ = some (.int .i64 sl) := HC.out.cell 1
    have c2 : v0.cell? ⟨w.heap.size, 2, none⟩ = some (.slice ia n ic) := HC.out.cell 2
    have x0 : v0.cell? ⟨(w.heap.size + 1), 0, none⟩ = some (.int .i64 5) := HX.out.cell 0
    have x1 : v0.cell? ⟨(w.heap.size + 1), 1, none⟩ = some (.int .i64 a) := HX.out.cell 1
    have x2 : v0.cell? ⟨(w.heap.size + 1), 2, none⟩ = some (.int .i64 b) := HX.out.cell 2
    have x3 : v0.cell? ⟨(w.heap.size + 1), 3, none⟩ = some (.int .i64 m) := HX.out.cell 3
    have x4 : v0.cell? ⟨(w.heap.size + 1), 4, none⟩ = some (.string (bs s)) := HX.out.cell 4
    go_wp2_with fail
    refine (Name_any 5 _ (hB.below HB.out)).mono ?_
    rw [HN.out]
    rintro er w1 ⟨rfl, hb1⟩
    clear c0 c1 c2
    clear x0 x1 x2 x3 x4
    have HC := Lib.hid (HC.out.call hb1); have HX := Lib.hid (HX.out.call hb1); have HB := Lib.hid (btrans HB.out HB.out.size hb1); clear hb1
    have c0 : w1.cell? ⟨w.heap.size, 0, none⟩ = some (.slice pa pn pc) := HC.out.cell 0
    have c1 : w1.cell? ⟨w.heap.size, 1, none⟩ = some (.int .i64 sl) := HC.out.cell 1
    have c2 : w1.cell? ⟨w.heap.size, 2, none⟩ = some (.slice ia n ic) := HC.out.cell 2
    have x0 : w1.cell? ⟨(w.heap.size + 1), 0, none⟩ = some (.int .i64 5) := HX.out.cell 0
    have x1 : w1.cell? ⟨(w.heap.size + 1), 1, none⟩ = some (.int .i64 a) := HX.out.cell 1
    have x2 : w1.cell? ⟨(w.heap.size + 1), 2, none⟩ = some (.int .i64 b) := HX.out.cell 2
    have x3 : w1.cell? ⟨(w.heap.size + 1), 3, none⟩ = some (.int .i64 m) := HX.out.cell 3
    have x4 : w1.cell? ⟨(w.heap.size + 1), 4, none⟩ = some (.string (bs s)) := HX.out.cell 4
    go_wp2_with fail
    refine (unused_any ⟨5, a, b, m, s⟩ (by show (1 : Int) ≤ 5; decide) (by show (5 : Int) ≤ 14; decide) _).mono ?_
    rw [HU.out]
    rintro er w2 ⟨rfl, hb1⟩
    clear c0 c1 c2
    clear x0 x1 x2 x3 x4
    have HC := Lib.hid (HC.out.call hb1); have HX := Lib.hid (HX.out.call hb1); have HB := Lib.hid (btrans HB.out HB.out.size hb1); clear hb1
    have c0 : w2.cell? ⟨w.heap.size, 0, none⟩ = some (.slice pa pn pc) := HC.out.cell 0
    have c1 : w2.cell? ⟨w.heap.size, 1, none⟩ = some (.int .i64 sl) := HC.out.cell 1
    have c2 : w2.cell? ⟨w.heap.size, 2, none⟩ = some (.slice ia n ic) := HC.out.cell 2
    have x0 : w2.cell? ⟨(w.heap.size + 1), 0, none⟩ = some (.int .i64 5) := HX.out.cell 0
    have x1 : w2.cell? ⟨(w.heap.size + 1), 1, none⟩ = some (.int .i64 a) := HX.out.cell 1
    have x2 : w2.cell? ⟨(w.heap.size + 1), 2, none⟩ = some (.int .i64 b) := HX.out.cell 2
    have x3 : w2.cell? ⟨(w.heap.size + 1), 3, none⟩ = some (.int .i64 m) := HX.out.cell 3
    have x4 : w2.cell? ⟨(w.heap.size + 1), 4, none⟩ = some (.string (bs s)) := HX.out.cell 4
    obtain ⟨R, hR⟩ : ∃ R, arS a = R := ⟨_, rfl⟩
    have HR := Lib.hid hR; clear hR
    by_cases h3 : 1 ≤ R
    · skip
      have HF := Lib.hid (show V = true by rw [← HV.out, insS_5 HU.out]; rw [HR.out]; exact decide_eq_true h3)
      go_wp2_with fail
      refine (Arity_any a _).mono ?_
      rw [HR.out]
      rintro er w3 ⟨rfl, rfl⟩
      go_wp2
      go_ret
      exact ⟨by rw [HF.out] <;> rfl, HB.out⟩
    have HF := Lib.hid (show V = decide (1 ≤ R) by rw [← HV.out, insS_5 HU.out]; rw [HR.out])
    go_wp2_with fail
    refine (Arity_any a _).mono ?_
    rw [HR.out]
    rintro er w3 ⟨rfl, rfl⟩
    go_wp2
    go_ret
    exact ⟨by rw [HF.out] <;> rfl, HB.out⟩
  · have HU := Lib.hid hu; clear hu
    obtain ⟨V, hV⟩ : ∃ V, insS sl (n : Int) ⟨6, a, b, m, s⟩ = V := ⟨_, rfl⟩
    rw [hV]
    have HV := Lib.hid hV; clear hV
    have hmf : ∀ (fn : Fn) (first cap : Array Value) (w : World), (Instr.makeFunc fn first cap).run Tryz.prog w = .ok (.func fn first cap) w := fun _ _ _ _ => rfl
    have hb0 := (((Below.refl w.heap.size w).alloc (Nat.le_refl _) (.cells #[.slice pa pn pc, .int .i64 sl, .slice ia n ic] 25)).alloc (by simp) (.cells #[.int .i64 6, .int .i64 a, .int .i64 b, .int .i64 m, .string (bs s)] 39))
    have h_HC := ((Bx.new w #[.slice pa pn pc, .int .i64 sl, .slice ia n ic] 25).alloc (.cells #[.int .i64 6, .int .i64 a, .int .i64 b, .int .i64 m, .string (bs s)] 39))
    have h_HX := (Bx.new (w.alloc (.cells #[.slice pa pn pc, .int .i64 sl, .slice ia n ic] 25)) #[.int .i64 6, .int .i64 a, .int .i64 b, .int .i64 m, .string (bs s)] 39)
    rw [show (w.alloc (.cells #[.slice pa pn pc, .int .i64 sl, .slice ia n ic] 25)).heap.size = w.heap.size + 1 by simp] at h_HX
    have HB := Lib.hid hb0; have HC := Lib.hid h_HC; have HX := Lib.hid h_HX
    clear hb0 h_HC h_HX
    go_enter Tryz.func30, Tryz.ntmps30
    go_upto_region 1 with (fail)
    generalize hW0 : (w.alloc (.cells #[.slice pa pn pc, .int .i64 sl, .slice ia n ic] 25)).alloc (.cells #[.int .i64 6, .int .i64 a, .int .i64 b, .int .i64 m, .string (bs s)] 39) = v0 at HB HC HX ⊢
    clear hW0
    have c0 : v0.cell? ⟨w.heap.size, 0, none⟩ = some (.slice pa pn pc) := HC.out.cell 0
    have c1 : v0.cell? ⟨w.heap.size, 1, none⟩ = some (.int .i64 sl) := HC.out.cell 1
    have c2 : v0.cell? ⟨w.heap.size, 2, none⟩ = some (.slice ia n ic) := HC.out.cell 2
    have x0 : v0.cell? ⟨(w.heap.size + 1), 0, none⟩ = some (.int .i64 6) := HX.out.cell 0
    have x1 : v0.cell? ⟨(w.heap.size + 1), 1, none⟩ = some (.int .i64 a) := HX.out.cell 1
    have x2 : v0.cell? ⟨(w.heap.size + 1), 2, none⟩ = some (.int .i64 b) := HX.out.cell 2
    have x3 : v0.cell? ⟨(w.heap.size + 1), 3, none⟩ = some (.int .i64 m) := HX.out.cell 3
    have x4 : v0.cell? ⟨(w.heap.size + 1), 4, none⟩ = some (.string (bs s)) := HX.out.cell 4
    go_wp2_with fail
    refine (Name_any 6 _ (hB.below HB.out)).mono ?_
    rw [HN.out]
    rintro er w1 ⟨rfl, hb1⟩
    clear c0 c1 c2
    clear x0 x1 x2 x3 x4
    have HC := Lib.hid (HC.out.call hb1); have HX := Lib.hid (HX.out.call hb1); have HB := Lib.hid (btrans HB.out HB.out.size hb1); clear hb1
    have c0 : w1.cell? ⟨w.heap.size, 0, none⟩ = some (.slice pa pn pc) := HC.out.cell 0
    have c1 : w1.cell? ⟨w.heap.size, 1, none⟩ = some (.int .i64 sl) := HC.out.cell 1
    have c2 : w1.cell? ⟨w.heap.size, 2, none⟩ = some (.slice ia n ic) := HC.out.cell 2
    have x0 : w1.cell? ⟨(w.heap.size + 1), 0, none⟩ = some (.int .i64 6) := HX.out.cell 0
    have x1 : w1.cell? ⟨(w.heap.size + 1), 1, none⟩ = some (.int .i64 a) := HX.out.cell 1
    have x2 : w1.cell? ⟨(w.heap.size + 1), 2, none⟩ = some (.int .i64 b) := HX.out.cell 2
    have x3 : w1.cell? ⟨(w.heap.size + 1), 3, none⟩ = some (.int .i64 m) := HX.out.cell 3
    have x4 : w1.cell? ⟨(w.heap.size + 1), 4, none⟩ = some (.string (bs s)) := HX.out.cell 4
    go_wp2_with fail
    refine (unused_any ⟨6, a, b, m, s⟩ (by show (1 : Int) ≤ 6; decide) (by show (6 : Int) ≤ 14; decide) _).mono ?_
    rw [HU.out]
    rintro er w2 ⟨rfl, hb1⟩
    clear c0 c1 c2
    clear x0 x1 x2 x3 x4
    have HC := Lib.hid (HC.out.call hb1); have HX := Lib.hid (HX.out.call hb1); have HB := Lib.hid (btrans HB.out HB.out.size hb1); clear hb1
    have c0 : w2.cell? ⟨w.heap.size, 0, none⟩ = some (.slice pa pn pc) := HC.out.cell 0
    have c1 : w2.cell? ⟨w.heap.size, 1, none⟩ = some (.int .i64 sl) := HC.out.cell 1
    have c2 : w2.cell? ⟨w.heap.size, 2, none⟩ = some (.slice ia n ic) := HC.out.cell 2
    have x0 : w2.cell? ⟨(w.heap.size + 1), 0, none⟩ = some (.int .i64 6) := HX.out.cell 0
    have x1 : w2.cell? ⟨(w.heap.size + 1), 1, none⟩ = some (.int .i64 a) := HX.out.cell 1
    have x2 : w2.cell? ⟨(w.heap.size + 1), 2, none⟩ = some (.int .i64 b) := HX.out.cell 2
    have x3 : w2.cell? ⟨(w.heap.size + 1), 3, none⟩ = some (.int .i64 m) := HX.out.cell 3
    have x4 : w2.cell? ⟨(w.heap.size + 1), 4, none⟩ = some (.string (bs s)) := HX.out.cell 4
    by_cases h3 : 0 ≤ a
    rotate_left
    · skip
      have HF := Lib.hid (show V = false by rw [← HV.out]; rw [insS_6 HU.out]; exact inR_lo h3)
      go_wp2
      go_ret
      exact ⟨by rw [HF.out] <;> rfl, HB.out⟩
    by_cases h4 : a < (n : Int)
    rotate_left
    · skip
      have HF := Lib.hid (show V = decide (a < (n : Int)) by rw [← HV.out]; rw [insS_6 HU.out]; exact (inR_hi h4).trans (decide_eq_false h4).symm)
      go_wp2
      go_ret
      exact ⟨by rw [HF.out] <;> rfl, HB.out⟩
    have HF := Lib.hid (show V = true by rw [← HV.out]; rw [insS_6 HU.out]; exact inR_ok h3 h4)
    go_wp2
    go_ret
    exact ⟨by rw [HF.out] <;> rfl, HB.out⟩
  · have HU := Lib.hid hu; clear hu
    obtain ⟨V, hV⟩ : ∃ V, insS sl (n : Int) ⟨7, a, b, m, s⟩ = V := ⟨_, rfl⟩
    rw [hV]
    have HV := Lib.hid hV; clear hV
    have hmf : ∀ (fn : Fn) (first cap : Array Value) (w : World), (Instr.makeFunc fn first cap).run Tryz.prog w = .ok (.func fn first cap) w := fun _ _ _ _ => rfl
    have hb0 := (((Below.refl w.heap.size w).alloc (Nat.le_refl _) (.cells #[.slice pa pn pc, .int .i64 sl, .slice ia n ic] 25)).alloc (by simp) (.cells #[.int .i64 7, .int .i64 a, .int .i64 b, .int .i64 m, .string (bs s)] 39))
    have h_HC := ((Bx.new w #[.slice pa pn pc, .int .i64 sl, .slice ia n ic] 25).alloc (.cells #[.int .i64 7, .int .i64 a, .int .i64 b, .int .i64 m, .string (bs s)] 39))
    have h_HX := (Bx.new (w.alloc (.cells #[.slice pa pn pc, .int .i64 sl, .slice ia n ic] 25)) #[.int .i64 7, .int .i64 a, .int .i64 b, .int .i64 m, .string (bs s)] 39)
    rw [show (w.alloc (.cells #[.slice pa pn pc, .int .i64 sl, .slice ia n ic] 25)).heap.size = w.heap.size + 1 by simp] at h_HX
    have HB := Lib.hid hb0; have HC := Lib.hid h_HC; have HX := Lib.hid h_HX
    clear hb0 h_HC h_HX
    go_enter Tryz.func30, Tryz.ntmps30
    go_upto_region 1 with (fail)
    generalize hW0 : (w.alloc (.cells #[.slice pa pn pc, .int .i64 sl, .slice ia n ic] 25)).alloc (.cells #[.int .i64 7, .int .i64 a, .int .i64 b, .int .i64 m, .string (bs s)] 39) = v0 at HB HC HX ⊢
    clear hW0
    have c0 : v0.cell? ⟨w.heap.size, 0, none⟩ = some (.slice pa pn pc) := HC.out.cell 0
    have c1 : v0.cell? ⟨w.heap.size, 1, none⟩ = some (.int .i64 sl) := HC.out.cell 1
    have c2 : v0.cell? ⟨w.heap.size, 2, none⟩ = some (.slice ia n ic) := HC.out.cell 2
    have x0 : v0.cell? ⟨(w.heap.size + 1), 0, none⟩ = some (.int .i64 7) := HX.out.cell 0
    have x1 : v0.cell? ⟨(w.heap.size + 1), 1, none⟩ = some (.int .i64 a) := HX.out.cell 1
    have x2 : v0.cell? ⟨(w.heap.size + 1), 2, none⟩ = some (.int .i64 b) := HX.out.cell 2
    have x3 : v0.cell? ⟨(w.heap.size + 1), 3, none⟩ = some (.int .i64 m) := HX.out.cell 3
    have x4 : v0.cell? ⟨(w.heap.size + 1), 4, none⟩ = some (.string (bs s)) := HX.out.cell 4
    go_wp2_with fail
    refine (Name_any 7 _ (hB.below HB.out)).mono ?_
    rw [HN.out]
    rintro er w1 ⟨rfl, hb1⟩
    clear c0 c1 c2
    clear x0 x1 x2 x3 x4
    have HC := Lib.hid (HC.out.call hb1); have HX := Lib.hid (HX.out.call hb1); have HB := Lib.hid (btrans HB.out HB.out.size hb1); clear hb1
    have c0 : w1.cell? ⟨w.heap.size, 0, none⟩ = some (.slice pa pn pc) := HC.out.cell 0
    have c1 : w1.cell? ⟨w.heap.size, 1, none⟩ = some (.int .i64 sl) := HC.out.cell 1
    have c2 : w1.cell? ⟨w.heap.size, 2, none⟩ = some (.slice ia n ic) := HC.out.cell 2
    have x0 : w1.cell? ⟨(w.heap.size + 1), 0, none⟩ = some (.int .i64 7) := HX.out.cell 0
    have x1 : w1.cell? ⟨(w.heap.size + 1), 1, none⟩ = some (.int .i64 a) := HX.out.cell 1
    have x2 : w1.cell? ⟨(w.heap.size + 1), 2, none⟩ = some (.int .i64 b) := HX.out.cell 2
    have x3 : w1.cell? ⟨(w.heap.size + 1), 3, none⟩ = some (.int .i64 m) := HX.out.cell 3
    have x4 : w1.cell? ⟨(w.heap.size + 1), 4, none⟩ = some (.string (bs s)) := HX.out.cell 4
    go_wp2_with fail
    refine (unused_any ⟨7, a, b, m, s⟩ (by show (1 : Int) ≤ 7; decide) (by show (7 : Int) ≤ 14; decide) _).mono ?_
    rw [HU.out]
    rintro er w2 ⟨rfl, hb1⟩
    clear c0 c1 c2
    clear x0 x1 x2 x3 x4
    have HC := Lib.hid (HC.out.call hb1); have HX := Lib.hid (HX.out.call hb1); have HB := Lib.hid (btrans HB.out HB.out.size hb1); clear hb1
    have c0 : w2.cell? ⟨w.heap.size, 0, none⟩ = some (.slice pa pn pc) := HC.out.cell 0
    have c1 : w2.cell? ⟨w.heap.size, 1, none⟩ = some (.int .i64 sl) := HC.out.cell 1
    have c2 : w2.cell? ⟨w.heap.size, 2, none⟩ = some (.slice ia n ic) := HC.out.cell 2
    have x0 : w2.cell? ⟨(w.heap.size + 1), 0, none⟩ = some (.int .i64 7) := HX.out.cell 0
    have x1 : w2.cell? ⟨(w.heap.size + 1), 1, none⟩ = some (.int .i64 a) := HX.out.cell 1
    have x2 : w2.cell? ⟨(w.heap.size + 1), 2, none⟩ = some (.int .i64 b) := HX.out.cell 2
    have x3 : w2.cell? ⟨(w.heap.size + 1), 3, none⟩ = some (.int .i64 m) := HX.out.cell 3
    have x4 : w2.cell? ⟨(w.heap.size + 1), 4, none⟩ = some (.string (bs s)) := HX.out.cell 4
    by_cases h3 : 0 ≤ a
    rotate_left
    · skip
      have HF := Lib.hid (show V = false by rw [← HV.out]; rw [insS_7 HU.out]; exact inR_lo h3)
      go_wp2
      go_ret
      exact ⟨by rw [HF.out] <;> rfl, HB.out⟩
    by_cases h4 : a < (n : Int)
    rotate_left
    · skip
      have HF := Lib.hid (show V = decide (a < (n : Int)) by rw [← HV.out]; rw [insS_7 HU.out]; exact (inR_hi h4).trans (decide_eq_false h4).symm)
      go_wp2
      go_ret
      exact ⟨by rw [HF.out] <;> rfl, HB.out⟩
    have HF := Lib.hid (show V = true by rw [← HV.out]; rw [insS_7 HU.out]; exact inR_ok h3 h4)
    go_wp2
    go_ret
    exact ⟨by rw [HF.out] <;> rfl, HB.out⟩
  · have HU := Lib.hid hu; clear hu
    obtain ⟨V, hV⟩ : ∃ V, insS sl (n : Int) ⟨8, a, b, m, s⟩ = V := ⟨_, rfl⟩
    rw [hV]
    have HV := Lib.hid hV; clear hV
    have hmf : ∀ (fn : Fn) (first cap : Array Value) (w : World), (Instr.makeFunc fn first cap).run Tryz.prog w = .ok (.func fn first cap) w := fun _ _ _ _ => rfl
    have hb0 := (((Below.refl w.heap.size w).alloc (Nat.le_refl _) (.cells #[.slice pa pn pc, .int .i64 sl, .slice ia n ic] 25)).alloc (by simp) (.cells #[.int .i64 8, .int .i64 a, .int .i64 b, .int .i64 m, .string (bs s)] 39))
    have h_HC := ((Bx.new w #[.slice pa pn pc, .int .i64 sl, .slice ia n ic] 25).alloc (.cells #[.int .i64 8, .int .i64 a, .int .i64 b, .int .i64 m, .string (bs s)] 39))
    have h_HX := (Bx.new (w.alloc (.cells #[.slice pa pn pc, .int .i64 sl, .slice ia n ic] 25)) #[.int .i64 8, .int .i64 a, .int .i64 b, .int .i64 m, .string (bs s)] 39)
    rw [show (w.alloc (.cells #[.slice pa pn pc, .int .i64 sl, .slice ia n ic] 25)).heap.size = w.heap.size + 1 by simp] at h_HX
    have HB := Lib.hid hb0; have HC := Lib.hid h_HC; have HX := Lib.hid h_HX
    clear hb0 h_HC h_HX
    go_enter Tryz.func30, Tryz.ntmps30
    go_upto_region 1 with (fail)
    generalize hW0 : (w.alloc (.cells #[.slice pa pn pc, .int .i64 sl, .slice ia n ic] 25)).alloc (.cells #[.int .i64 8, .int .i64 a, .int .i64 b, .int .i64 m, .string (bs s)] 39) = v0 at HB HC HX ⊢
    clear hW0
    have c0 : v0.cell? ⟨w.heap.size, 0, none⟩ = some (.slice pa pn pc) := HC.out.cell 0
    have c1 : v0.cell? ⟨w.heap.size, 1, none⟩ = some (.int .i64 sl) := HC.out.cell 1
    have c2 : v0.cell? ⟨w.heap.size, 2, none⟩ = some (.slice ia n ic) := HC.out.cell 2
    have x0 : v0.cell? ⟨(w.heap.size + 1), 0, none⟩ = some (.int .i64 8) := HX.out.cell 0
    have x1 : v0.cell? ⟨(w.heap.size + 1), 1, none⟩ = some (.int .i64 a) := HX.out.cell 1
    have x2 : v0.cell? ⟨(w.heap.size + 1), 2, none⟩ = some (.int .i64 b) := HX.out.cell 2
    have x3 : v0.cell? ⟨(w.heap.size + 1), 3, none⟩ = some (.int .i64 m) := HX.out.cell 3
    have x4 : v0.cell? ⟨(w.heap.size + 1), 4, none⟩ = some (.string (bs s)) := HX.out.cell 4
    go_wp2_with fail
    refine (Name_any 8 _ (hB.below HB.out)).mono ?_
    rw [HN.out]
    rintro er w1 ⟨rfl, hb1⟩
    clear c0 c1 c2
    clear x0 x1 x2 x3 x4
    have HC := Lib.hid (HC.out.call hb1); have HX := Lib.hid (HX.out.call hb1); have HB := Lib.hid (btrans HB.out HB.out.size hb1); clear hb1
    have c0 : w1.cell? ⟨w.heap.size, 0, none⟩ = some (.slice pa pn pc) := HC.out.cell 0
    have c1 : w1.cell? ⟨w.heap.size, 1, none⟩ = some (.int .i64 sl) := HC.out.cell 1
    have c2 : w1.cell? ⟨w.heap.size, 2, none⟩ = some (.slice ia n ic) := HC.out.cell 2
    have x0 : w1.cell? ⟨(w.heap.size + 1), 0, none⟩ = some (.int .i64 8) := HX.out.cell 0
    have x1 : w1.cell? ⟨(w.heap.size + 1), 1, none⟩ = some (.int .i64 a) := HX.out.cell 1
    have x2 : w1.cell? ⟨(w.heap.size + 1), 2, none⟩ = some (.int .i64 b) := HX.out.cell 2
    have x3 : w1.cell? ⟨(w.heap.size + 1), 3, none⟩ = some (.int .i64 m) := HX.out.cell 3
    have x4 : w1.cell? ⟨(w.heap.size + 1), 4, none⟩ = some (.string (bs s)) := HX.out.cell 4
    go_wp2_with fail
    refine (unused_any ⟨8, a, b, m, s⟩ (by show (1 : Int) ≤ 8; decide) (by show (8 : Int) ≤ 14; decide) _).mono ?_
    rw [HU.out]
    rintro er w2 ⟨rfl, hb1⟩
    clear c0 c1 c2
    clear x0 x1 x2 x3 x4
    have HC := Lib.hid (HC.out.call hb1); have HX := Lib.hid (HX.out.call hb1); have HB := Lib.hid (btrans HB.out HB.out.size hb1); clear hb1
    have c0 : w2.cell? ⟨w.heap.size, 0, none⟩ = some (.slice pa pn pc) := HC.out.cell 0
    have c1 : w2.cell? ⟨w.heap.size, 1, none⟩ = some (.int .i64 sl) := HC.out.cell 1
    have c2 : w2.cell? ⟨w.heap.size, 2, none⟩ = some (.slice ia n ic) := HC.out.cell 2
    have x0 : w2.cell? ⟨(w.heap.size + 1), 0, none⟩ = some (.int .i64 8) := HX.out.cell 0
    have x1 : w2.cell? ⟨(w.heap.size + 1), 1, none⟩ = some (.int .i64 a) := HX.out.cell 1
    have x2 : w2.cell? ⟨(w.heap.size + 1), 2, none⟩ = some (.int .i64 b) := HX.out.cell 2
    have x3 : w2.cell? ⟨(w.heap.size + 1), 3, none⟩ = some (.int .i64 m) := HX.out.cell 3
    have x4 : w2.cell? ⟨(w.heap.size + 1), 4, none⟩ = some (.string (bs s)) := HX.out.cell 4
    have HF := Lib.hid (show V = true by rw [← HV.out]; rw [insS_8 HU.out])
    go_wp2
    go_ret
    exact ⟨by rw [HF.out] <;> rfl, HB.out⟩
  · have HU := Lib.hid hu; clear hu
    obtain ⟨V, hV⟩ : ∃ V, insS sl (n : Int) ⟨9, a, b, m, s⟩ = V := ⟨_, rfl⟩
    rw [hV]
    have HV := Lib.hid hV; clear hV
    have hmf : ∀ (fn : Fn) (first cap : Array Value) (w : World), (Instr.makeFunc fn first cap).run Tryz.prog w = .ok (.func fn first cap) w := fun _ _ _ _ => rfl
    have hb0 := (((Below.refl w.heap.size w).alloc (Nat.le_refl _) (.cells #[.slice pa pn pc, .int .i64 sl, .slice ia n ic] 25)).alloc (by simp) (.cells #[.int .i64 9, .int .i64 a, .int .i64 b, .int .i64 m, .string (bs s)] 39))
    have h_HC := ((Bx.new w #[.slice pa pn pc, .int .i64 sl, .slice ia n ic] 25).alloc (.cells #[.int .i64 9, .int .i64 a, .int .i64 b, .int .i64 m, .string (bs s)] 39))
    have h_HX := (Bx.new (w.alloc (.cells #[.slice pa pn pc, .int .i64 sl, .slice ia n ic] 25)) #[.int .i64 9, .int .i64 a, .int .i64 b, .int .i64 m, .string (bs s)] 39)
    rw [show (w.alloc (.cells #[.slice pa pn pc, .int .i64 sl, .slice ia n ic] 25)).heap.size = w.heap.size + 1 by simp] at h_HX
    have HB := Lib.hid hb0; have HC := Lib.hid h_HC; have HX := Lib.hid h_HX
    clear hb0 h_HC h_HX
    go_enter Tryz.func30, Tryz.ntmps30
    go_upto_region 1 with (fail)
    generalize hW0 : (w.alloc (.cells #[.slice pa pn pc, .int .i64 sl, .slice ia n ic] 25)).alloc (.cells #[.int .i64 9, .int .i64 a, .int .i64 b, .int .i64 m, .string (bs s)] 39) = v0 at HB HC HX ⊢
    clear hW0
    have c0 : v0.cell? ⟨w.heap.size, 0, none⟩ = some (.slice pa pn pc) := HC.out.cell 0
    have c1 : v0.cell? ⟨w.heap.size, 1, none⟩ = some (.int .i64 sl) := HC.out.cell 1
    have c2 : v0.cell? ⟨w.heap.size, 2, none⟩ = some (.slice ia n ic) := HC.out.cell 2
    have x0 : v0.cell? ⟨(w.heap.size + 1), 0, none⟩ = some (.int .i64 9) := HX.out.cell 0
    have x1 : v0.cell? ⟨(w.heap.size + 1), 1, none⟩ = some (.int .i64 a) := HX.out.cell 1
    have x2 : v0.cell? ⟨(w.heap.size + 1), 2, none⟩ = some (.int .i64 b) := HX.out.cell 2
    have x3 : v0.cell? ⟨(w.heap.size + 1), 3, none⟩ = some (.int .i64 m) := HX.out.cell 3
    have x4 : v0.cell? ⟨(w.heap.size + 1), 4, none⟩ = some (.string (bs s)) := HX.out.cell 4
    go_wp2_with fail
    refine (Name_any 9 _ (hB.below HB.out)).mono ?_
    rw [HN.out]
    rintro er w1 ⟨rfl, hb1⟩
    clear c0 c1 c2
    clear x0 x1 x2 x3 x4
    have HC := Lib.hid (HC.out.call hb1); have HX := Lib.hid (HX.out.call hb1); have HB := Lib.hid (btrans HB.out HB.out.size hb1); clear hb1
    have c0 : w1.cell? ⟨w.heap.size, 0, none⟩ = some (.slice pa pn pc) := HC.out.cell 0
    have c1 : w1.cell? ⟨w.heap.size, 1, none⟩ = some (.int .i64 sl) := HC.out.cell 1
    have c2 : w1.cell? ⟨w.heap.size, 2, none⟩ = some (.slice ia n ic) := HC.out.cell 2
    have x0 : w1.cell? ⟨(w.heap.size + 1), 0, none⟩ = some (.int .i64 9) := HX.out.cell 0
    have x1 : w1.cell? ⟨(w.heap.size + 1), 1, none⟩ = some (.int .i64 a) := HX.out.cell 1
    have x2 : w1.cell? ⟨(w.heap.size + 1), 2, none⟩ = some (.int .i64 b) := HX.out.cell 2
    have x3 : w1.cell? ⟨(w.heap.size + 1), 3, none⟩ = some (.int .i64 m) := HX.out.cell 3
    have x4 : w1.cell? ⟨(w.heap.size + 1), 4, none⟩ = some (.string (bs s)) := HX.out.cell 4
    go_wp2_with fail
    refine (unused_any ⟨9, a, b, m, s⟩ (by show (1 : Int) ≤ 9; decide) (by show (9 : Int) ≤ 14; decide) _).mono ?_
    rw [HU.out]
    rintro er w2 ⟨rfl, hb1⟩
    clear c0 c1 c2
    clear x0 x1 x2 x3 x4
    have HC := Lib.hid (HC.out.call hb1); have HX := Lib.hid (HX.out.call hb1); have HB := Lib.hid (btrans HB.out HB.out.size hb1); clear hb1
    have c0 : w2.cell? ⟨w.heap.size, 0, none⟩ = some (.slice pa pn pc) := HC.out.cell 0
    have c1 : w2.cell? ⟨w.heap.size, 1, none⟩ = some (.int .i64 sl) := HC.out.cell 1
    have c2 : w2.cell? ⟨w.heap.size, 2, none⟩ = some (.slice ia n ic) := HC.out.cell 2
    have x0 : w2.cell? ⟨(w.heap.size + 1), 0, none⟩ = some (.int .i64 9) := HX.out.cell 0
    have x1 : w2.cell? ⟨(w.heap.size + 1), 1, none⟩ = some (.int .i64 a) := HX.out.cell 1
    have x2 : w2.cell? ⟨(w.heap.size + 1), 2, none⟩ = some (.int .i64 b) := HX.out.cell 2
    have x3 : w2.cell? ⟨(w.heap.size + 1), 3, none⟩ = some (.int .i64 m) := HX.out.cell 3
    have x4 : w2.cell? ⟨(w.heap.size + 1), 4, none⟩ = some (.string (bs s)) := HX.out.cell 4
    have HF := Lib.hid (show V = true by rw [← HV.out]; rw [insS_9 HU.out])
    go_wp2
    go_ret
    exact ⟨by rw [HF.out] <;> rfl, HB.out⟩
  · have HU := Lib.hid hu; clear hu
    obtain ⟨V, hV⟩ : ∃ V, insS sl (n : Int) ⟨10, a, b, m, s⟩ = V := ⟨_, rfl⟩
    rw [hV]
    have HV := Lib.hid hV; clear hV
    have hmf : ∀ (fn : Fn) (first cap : Array Value) (w : World), (Instr.makeFunc fn first cap).run Tryz.prog w = .ok (.func fn first cap) w := fun _ _ _ _ => rfl
    have hb0 := (((Below.refl w.heap.size w).alloc (Nat.le_refl _) (.cells #[.slice pa pn pc, .int .i64 sl, .slice ia n ic] 25)).alloc (by simp) (.cells #[.int .i64 10, .int .i64 a, .int .i64 b, .int .i64 m, .string (bs s)] 39))
    have h_HC := ((Bx.new w #[.slice pa pn pc, .int .i64 sl, .slice ia n ic] 25).alloc (.cells #[.int .i64 10, .int .i64 a, .int .i64 b, .int .i64 m, .string (bs s)] 39))
    have h_HX := (Bx.new (w.alloc (.cells #[.slice pa pn pc, .int .i64 sl, .slice ia n ic] 25)) #[.int .i64 10, .int .i64 a, .int .i64 b, .int .i64 m, .string (bs s)] 39)
    rw [show (w.alloc (.cells #[.slice pa pn pc, .int .i64 sl, .slice ia n ic] 25)).heap.size = w.heap.size + 1 by simp] at h_HX
    have HB := Lib.hid hb0; have HC := Lib.hid h_HC; have HX := Lib.hid h_HX
    clear hb0 h_HC h_HX
    go_enter Tryz.func30, Tryz.ntmps30
    go_upto_region 1 with (fail)
    generalize hW0 : (w.alloc (.cells #[.slice pa pn pc, .int .i64 sl, .slice ia n ic] 25)).alloc (.cells #[.int .i64 10, .int .i64 a, .int .i64 b, .int .i64 m, .string (bs s)] 39) = v0 at HB HC HX ⊢
    clear hW0
    have c0 : v0.cell? ⟨w.heap.size, 0, none⟩ = some (.slice pa pn pc) := HC.out.cell 0
    have c1 : v0.cell? ⟨w.heap.size, 1, none⟩ = some (.int .i64 sl) := HC.out.cell 1
    have c2 : v0.cell? ⟨w.heap.size, 2, none⟩ = some (.slice ia n ic) := HC.out.cell 2
    have x0 : v0.cell? ⟨(w.heap.size + 1), 0, none⟩ = some (.int .i64 10) := HX.out.cell 0
    have x1 : v0.cell? ⟨(w.heap.size + 1), 1, none⟩ = some (.int .i64 a) := HX.out.cell 1
    have x2 : v0.cell? ⟨(w.heap.size + 1), 2, none⟩ = some (.int .i64 b) := HX.out.cell 2
    have x3 : v0.cell? ⟨(w.heap.size + 1), 3, none⟩ = some (.int .i64 m) := HX.out.cell 3
    have x4 : v0.cell? ⟨(w.heap.size + 1), 4, none⟩ = some (.string (bs s)) := HX.out.cell 4
    go_wp2_with fail
    refine (Name_any 10 _ (hB.below HB.out)).mono ?_
    rw [HN.out]
    rintro er w1 ⟨rfl, hb1⟩
    clear c0 c1 c2
    clear x0 x1 x2 x3 x4
    have HC := Lib.hid (HC.out.call hb1); have HX := Lib.hid (HX.out.call hb1); have HB := Lib.hid (btrans HB.out HB.out.size hb1); clear hb1
    have c0 : w1.cell? ⟨w.heap.size, 0, none⟩ = some (.slice pa pn pc) := HC.out.cell 0
    have c1 : w1.cell? ⟨w.heap.size, 1, none⟩ = some (.int .i64 sl) := HC.out.cell 1
    have c2 : w1.cell? ⟨w.heap.size, 2, none⟩ = some (.slice ia n ic) := HC.out.cell 2
    have x0 : w1.cell? ⟨(w.heap.size + 1), 0, none⟩ = some (.int .i64 10) := HX.out.cell 0
    have x1 : w1.cell? ⟨(w.heap.size + 1), 1, none⟩ = some (.int .i64 a) := HX.out.cell 1
    have x2 : w1.cell? ⟨(w.heap.size + 1), 2, none⟩ = some (.int .i64 b) := HX.out.cell 2
    have x3 : w1.cell? ⟨(w.heap.size + 1), 3, none⟩ = some (.int .i64 m) := HX.out.cell 3
    have x4 : w1.cell? ⟨(w.heap.size + 1), 4, none⟩ = some (.string (bs s)) := HX.out.cell 4
    go_wp2_with fail
    refine (unused_any ⟨10, a, b, m, s⟩ (by show (1 : Int) ≤ 10; decide) (by show (10 : Int) ≤ 14; decide) _).mono ?_
    rw [HU.out]
    rintro er w2 ⟨rfl, hb1⟩
    clear c0 c1 c2
    clear x0 x1 x2 x3 x4
    have HC := Lib.hid (HC.out.call hb1); have HX := Lib.hid (HX.out.call hb1); have HB := Lib.hid (btrans HB.out HB.out.size hb1); clear hb1
    have c0 : w2.cell? ⟨w.heap.size, 0, none⟩ = some (.slice pa pn pc) := HC.out.cell 0
    have c1 : w2.cell? ⟨w.heap.size, 1, none⟩ = some (.int .i64 sl) := HC.out.cell 1
    have c2 : w2.cell? ⟨w.heap.size, 2, none⟩ = some (.slice ia n ic) := HC.out.cell 2
    have x0 : w2.cell? ⟨(w.heap.size + 1), 0, none⟩ = some (.int .i64 10) := HX.out.cell 0
    have x1 : w2.cell? ⟨(w.heap.size + 1), 1, none⟩ = some (.int .i64 a) := HX.out.cell 1
    have x2 : w2.cell? ⟨(w.heap.size + 1), 2, none⟩ = some (.int .i64 b) := HX.out.cell 2
    have x3 : w2.cell? ⟨(w.heap.size + 1), 3, none⟩ = some (.int .i64 m) := HX.out.cell 3
    have x4 : w2.cell? ⟨(w.heap.size + 1), 4, none⟩ = some (.string (bs s)) := HX.out.cell 4
    have HF := Lib.hid (show V = true by rw [← HV.out]; rw [insS_10 HU.out])
    go_wp2
    go_ret
    exact ⟨by rw [HF.out] <;> rfl, HB.out⟩
  · have HU := Lib.hid hu; clear hu
    obtain ⟨V, hV⟩ : ∃ V, insS sl (n : Int) ⟨11, a, b, m, s⟩ = V := ⟨_, rfl⟩
    rw [hV]
    have HV := Lib.hid hV; clear hV
    have hmf : ∀ (fn : Fn) (first cap : Array Value) (w : World), (Instr.makeFunc fn first cap).run Tryz.prog w = .ok (.func fn first cap) w := fun _ _ _ _ => rfl
    have hb0 := (((Below.refl w.heap.size w).alloc (Nat.le_refl _) (.cells #[.slice pa pn pc, .int .i64 sl, .slice ia n ic] 25)).alloc (by simp) (.cells #[.int .i64 11, .int .i64 a, .int .i64 b, .int .i64 m, .string (bs s)] 39))
    have h_HC := ((Bx.new w #[.slice pa pn pc, .int .i64 sl, .slice ia n ic] 25).alloc (.cells #[.int .i64 11, .int .i64 a, .int .i64 b, .int .i64 m, .string (bs s)] 39))
    have h_HX := (Bx.new (w.alloc (.cells #[.slice pa pn pc, .int .i64 sl, .slice ia n ic] 25)) #[.int .i64 11, .int .i64 a, .int .i64 b, .int .i64 m, .string (bs s)] 39)
    rw [show (w.alloc (.cells #[.slice pa pn pc, .int .i64 sl, .slice ia n ic] 25)).heap.size = w.heap.size + 1 by simp] at h_HX
    have HB := Lib.hid hb0; have HC := Lib.hid h_HC; have HX := Lib.hid h_HX
    clear hb0 h_HC h_HX
    go_enter Tryz.func30, Tryz.ntmps30
    go_upto_region 1 with (fail)
    generalize hW0 : (w.alloc (.cells #[.slice pa pn pc, .int .i64 sl, .slice ia n ic] 25)).alloc (.cells #[.int .i64 11, .int .i64 a, .int .i64 b, .int .i64 m, .string (bs s)] 39) = v0 at HB HC HX ⊢
    clear hW0
    have c0 : v0.cell? ⟨w.heap.size, 0, none⟩ = some (.slice pa pn pc) := HC.out.cell 0
    have c1 : v0.cell? ⟨w.heap.size, 1, none⟩ = some (.int .i64 sl) := HC.out.cell 1
    have c2 : v0.cell? ⟨w.heap.size, 2, none⟩ = some (.slice ia n ic) := HC.out.cell 2
    have x0 : v0.cell? ⟨(w.heap.size + 1), 0, none⟩ = some (.int .i64 11) := HX.out.cell 0
    have x1 : v0.cell? ⟨(w.heap.size + 1), 1, none⟩ = some (.int .i64 a) := HX.out.cell 1
    have x2 : v0.cell? ⟨(w.heap.size + 1), 2, none⟩ = some (.int .i64 b) := HX.out.cell 2
    have x3 : v0.cell? ⟨(w.heap.size + 1), 3, none⟩ = some (.int .i64 m) := HX.out.cell 3
    have x4 : v0.cell? ⟨(w.heap.size + 1), 4, none⟩ = some (.string (bs s)) := HX.out.cell 4
    go_wp2_with fail
    refine (Name_any 11 _ (hB.below HB.out)).mono ?_
    rw [HN.out]
    rintro er w1 ⟨rfl, hb1⟩
    clear c0 c1 c2
    clear x0 x1 x2 x3 x4
    have HC := Lib.hid (HC.out.call hb1); have HX := Lib.hid (HX.out.call hb1); have HB := Lib.hid (btrans HB.out HB.out.size hb1); clear hb1
    have c0 : w1.cell? ⟨w.heap.size, 0, none⟩ = some (.slice pa pn pc) := HC.out.cell 0
    have c1 : w1.cell? ⟨w.heap.size, 1, none⟩ = some (.int .i64 sl) := HC.out.cell 1
    have c2 : w1.cell? ⟨w.heap.size, 2, none⟩ = some (.slice ia n ic) := HC.out.cell 2
    have x0 : w1.cell? ⟨(w.heap.size + 1), 0, none⟩ = some (.int .i64 11) := HX.out.cell 0
    have x1 : w1.cell? ⟨(w.heap.size + 1), 1, none⟩ = some (.int .i64 a) := HX.out.cell 1
    have x2 : w1.cell? ⟨(w.heap.size + 1), 2, none⟩ = some (.int .i64 b) := HX.out.cell 2
    have x3 : w1.cell? ⟨(w.heap.size + 1), 3, none⟩ = some (.int .i64 m) := HX.out.cell 3
    have x4 : w1.cell? ⟨(w.heap.size + 1), 4, none⟩ = some (.string (bs s)) := HX.out.cell 4
    go_wp2_with fail
    refine (unused_any ⟨11, a, b, m, s⟩ (by show (1 : Int) ≤ 11; decide) (by show (11 : Int) ≤ 14; decide) _).mono ?_
    rw [HU.out]
    rintro er w2 ⟨rfl, hb1⟩
    clear c0 c1 c2
    clear x0 x1 x2 x3 x4
    have HC := Lib.hid (HC.out.call hb1); have HX := Lib.hid (HX.out.call hb1); have HB := Lib.hid (btrans HB.out HB.out.size hb1); clear hb1
    have c0 : w2.cell? ⟨w.heap.size, 0, none⟩ = some (.slice pa pn pc) := HC.out.cell 0
    have c1 : w2.cell? ⟨w.heap.size, 1, none⟩ = some (.int .i64 sl) := HC.out.cell 1
    have c2 : w2.cell? ⟨w.heap.size, 2, none⟩ = some (.slice ia n ic) := HC.out.cell 2
    have x0 : w2.cell? ⟨(w.heap.size + 1), 0, none⟩ = some (.int .i64 11) := HX.out.cell 0
    have x1 : w2.cell? ⟨(w.heap.size + 1), 1, none⟩ = some (.int .i64 a) := HX.out.cell 1
    have x2 : w2.cell? ⟨(w.heap.size + 1), 2, none⟩ = some (.int .i64 b) := HX.out.cell 2
    have x3 : w2.cell? ⟨(w.heap.size + 1), 3, none⟩ = some (.int .i64 m) := HX.out.cell 3
    have x4 : w2.cell? ⟨(w.heap.size + 1), 4, none⟩ = some (.string (bs s)) := HX.out.cell 4
    by_cases h3 : 0 ≤ a
    rotate_left
    · skip
      have HF := Lib.hid (show V = false by rw [← HV.out]; rw [insS_11 HU.out]; exact inR_lo h3)
      go_wp2
      go_ret
      exact ⟨by rw [HF.out] <;> rfl, HB.out⟩
    by_cases h4 : a ≤ 999
    rotate_left
    · skip
      have HF := Lib.hid (show V = decide (a ≤ 999) by rw [← HV.out]; rw [insS_11 HU.out]; exact (inR_hi (by omega)).trans (decide_eq_false h4).symm)
      go_wp2
      go_ret
      exact ⟨by rw [HF.out] <;> rfl, HB.out⟩
    have HF := Lib.hid (show V = true by rw [← HV.out]; rw [insS_11 HU.out]; exact inR_ok h3 (by omega))
    go_wp2
    go_ret
    exact ⟨by rw [HF.out] <;> rfl, HB.out⟩
  · have HU := Lib.hid hu; clear hu
    obtain ⟨V, hV⟩ : ∃ V, insS sl (n : Int) ⟨12, a, b, m, s⟩ = V := ⟨_, rfl⟩
    rw [hV]
    have HV := Lib.hid hV; clear hV
    have hmf : ∀ (fn : Fn) (first cap : Array Value) (w : World), (Instr.makeFunc fn first cap).run Tryz.prog w = .ok (.func fn first cap) w := fun _ _ _ _ => rfl
    have hb0 := (((Below.refl w.heap.size w).alloc (Nat.le_refl _) (.cells #[.slice pa pn pc, .int .i64 sl, .slice ia n ic] 25)).alloc (by simp) (.cells #[.int .i64 12, .int .i64 a, .int .i64 b, .int .i64 m, .string (bs s)] 39))
    have h_HC := ((Bx.new w #[.slice pa pn pc, .int .i64 sl, .slice ia n ic] 25).alloc (.cells #[.int .i64 12, .int .i64 a, .int .i64 b, .int .i64 m, .string (bs s)] 39))
    have h_HX := (Bx.new (w.alloc (.cells #[.slice pa pn pc, .int .i64 sl, .slice ia n ic] 25)) #[.int .i64 12, .int .i64 a, .int .i64 b, .int .i64 m, .string (bs s)] 39)
    rw [show (w.alloc (.cells #[.slice pa pn pc, .int .i64 sl, .slice ia n ic] 25)).heap.size = w.heap.size + 1 by simp] at h_HX
    have HB := Lib.hid hb0; have HC := Lib.hid h_HC; have HX := Lib.hid h_HX
    clear hb0 h_HC h_HX
    go_enter Tryz.func30, Tryz.ntmps30
    go_upto_region 1 with (fail)
    generalize hW0 : (w.alloc (.cells #[.slice pa pn pc, .int .i64 sl, .slice ia n ic] 25)).alloc (.cells #[.int .i64 12, .int .i64 a, .int .i64 b, .int .i64 m, .string (bs s)] 39) = v0 at HB HC HX ⊢
    clear hW0
    have c0 : v0.cell? ⟨w.heap.size, 0, none⟩ = some (.slice pa pn pc) := HC.out.cell 0
    have c1 : v0.cell? ⟨w.heap.size, 1, none⟩ = some (.int .i64 sl) := HC.out.cell 1
    have c2 : v0.cell? ⟨w.heap.size, 2, none⟩ = some (.slice ia n ic) := HC.out.cell 2
    have x0 : v0.cell? ⟨(w.heap.size + 1), 0, none⟩ = some (.int .i64 12) := HX.out.cell 0
    have x1 : v0.cell? ⟨(w.heap.size + 1), 1, none⟩ = some (.int .i64 a) := HX.out.cell 1
    have x2 : v0.cell? ⟨(w.heap.size + 1), 2, none⟩ = some (.int .i64 b) := HX.out.cell 2
    have x3 : v0.cell? ⟨(w.heap.size + 1), 3, none⟩ = some (.int .i64 m) := HX.out.cell 3
    have x4 : v0.cell? ⟨(w.heap.size + 1), 4, none⟩ = some (.string (bs s)) := HX.out.cell 4
    go_wp2_with fail
    refine (Name_any 12 _ (hB.below HB.out)).mono ?_
    rw [HN.out]
    rintro er w1 ⟨rfl, hb1⟩
    clear c0 c1 c2
    clear x0 x1 x2 x3 x4
    have HC := Lib.hid (HC.out.call hb1); have HX := Lib.hid (HX.out.call hb1); have HB := Lib.hid (btrans HB.out HB.out.size hb1); clear hb1
    have c0 : w1.cell? ⟨w.heap.size, 0, none⟩ = some (.slice pa pn pc) := HC.out.cell 0
    have c1 : w1.cell? ⟨w.heap.size, 1, none⟩ = some (.int .i64 sl) := HC.out.cell 1
    have c2 : w1.cell? ⟨w.heap.size, 2, none⟩ = some (.slice ia n ic) := HC.out.cell 2
    have x0 : w1.cell? ⟨(w.heap.size + 1), 0, none⟩ = some (.int .i64 12) := HX.out.cell 0
    have x1 : w1.cell? ⟨(w.heap.size + 1), 1, none⟩ = some (.int .i64 a) := HX.out.cell 1
    have x2 : w1.cell? ⟨(w.heap.size + 1), 2, none⟩ = some (.int .i64 b) := HX.out.cell 2
    have x3 : w1.cell? ⟨(w.heap.size + 1), 3, none⟩ = some (.int .i64 m) := HX.out.cell 3
    have x4 : w1.cell? ⟨(w.heap.size + 1), 4, none⟩ = some (.string (bs s)) := HX.out.cell 4
    go_wp2_with fail
    refine (unused_any ⟨12, a, b, m, s⟩ (by show (1 : Int) ≤ 12; decide) (by show (12 : Int) ≤ 14; decide) _).mono ?_
    rw [HU.out]
    rintro er w2 ⟨rfl, hb1⟩
    clear c0 c1 c2
    clear x0 x1 x2 x3 x4
    have HC := Lib.hid (HC.out.call hb1); have HX := Lib.hid (HX.out.call hb1); have HB := Lib.hid (btrans HB.out HB.out.size hb1); clear hb1
    have c0 : w2.cell? ⟨w.heap.size, 0, none⟩ = some (.slice pa pn pc) := HC.out.cell 0
    have c1 : w2.cell? ⟨w.heap.size, 1, none⟩ = some (.int .i64 sl) := HC.out.cell 1
    have c2 : w2.cell? ⟨w.heap.size, 2, none⟩ = some (.slice ia n ic) := HC.out.cell 2
    have x0 : w2.cell? ⟨(w.heap.size + 1), 0, none⟩ = some (.int .i64 12) := HX.out.cell 0
    have x1 : w2.cell? ⟨(w.heap.size + 1), 1, none⟩ = some (.int .i64 a) := HX.out.cell 1
    have x2 : w2.cell? ⟨(w.heap.size + 1), 2, none⟩ = some (.int .i64 b) := HX.out.cell 2
    have x3 : w2.cell? ⟨(w.heap.size + 1), 3, none⟩ = some (.int .i64 m) := HX.out.cell 3
    have x4 : w2.cell? ⟨(w.heap.size + 1), 4, none⟩ = some (.string (bs s)) := HX.out.cell 4
    obtain ⟨R, hR⟩ : ∃ R, inR a sl = R := ⟨_, rfl⟩
    obtain ⟨Q, hQ⟩ : ∃ R, inR b sl = R := ⟨_, rfl⟩
    have HR := Lib.hid hR; have HQ := Lib.hid hQ; clear hR hQ
    cases R
    · skip
      have HF := Lib.hid (show V = false by rw [← HV.out, insS_12 HU.out]; rw [HR.out]; rfl)
      go_wp2_with fail
      refine (slot_any w.heap.size a sl _ c1).mono ?_
      rw [HR.out]
      rintro er w3 ⟨rfl, rfl⟩
      go_wp2
      go_ret
      exact ⟨by rw [HF.out] <;> rfl, HB.out⟩
    cases Q
    · skip
      have HF := Lib.hid (show V = false by rw [← HV.out, insS_12 HU.out]; rw [HR.out, HQ.out]; rfl)
      go_wp2_with fail
      refine (slot_any w.heap.size a sl _ c1).mono ?_
      rw [HR.out]
      rintro er w3 ⟨rfl, rfl⟩
      go_wp2_with fail
      refine (slot_any w.heap.size b sl _ c1).mono ?_
      rw [HQ.out]
      rintro er w4 ⟨rfl, rfl⟩
      go_wp2
      go_ret
      exact ⟨by rw [HF.out] <;> rfl, HB.out⟩
    by_cases h3 : 1 ≤ m
    rotate_left
    · skip
      have HF := Lib.hid (show V = false by rw [← HV.out, insS_12 HU.out]; rw [HR.out, HQ.out, decide_eq_false h3]; rfl)
      go_wp2_with fail
      refine (slot_any w.heap.size a sl _ c1).mono ?_
      rw [HR.out]
      rintro er w3 ⟨rfl, rfl⟩
      go_wp2_with fail
      refine (slot_any w.heap.size b sl _ c1).mono ?_
      rw [HQ.out]
      rintro er w4 ⟨rfl, rfl⟩
      go_wp2
      go_ret
      exact ⟨by rw [HF.out] <;> rfl, HB.out⟩
    by_cases h4 : m ≤ 16
    rotate_left
    · skip
      have HF := Lib.hid (show V = decide (m ≤ 16) by rw [← HV.out, insS_12 HU.out]; rw [HR.out, HQ.out, decide_eq_true h3]; rfl)
      go_wp2_with fail
      refine (slot_any w.heap.size a sl _ c1).mono ?_
      rw [HR.out]
      rintro er w3 ⟨rfl, rfl⟩
      go_wp2_with fail
      refine (slot_any w.heap.size b sl _ c1).mono ?_
      rw [HQ.out]
      rintro er w4 ⟨rfl, rfl⟩
      go_wp2
      go_ret
      exact ⟨by rw [HF.out] <;> rfl, HB.out⟩
    have HF := Lib.hid (show V = true by rw [← HV.out, insS_12 HU.out]; rw [HR.out, HQ.out, decide_eq_true h3, decide_eq_true h4]; rfl)
    go_wp2_with fail
    refine (slot_any w.heap.size a sl _ c1).mono ?_
    rw [HR.out]
    rintro er w3 ⟨rfl, rfl⟩
    go_wp2_with fail
    refine (slot_any w.heap.size b sl _ c1).mono ?_
    rw [HQ.out]
    rintro er w4 ⟨rfl, rfl⟩
    go_wp2
    go_ret
    exact ⟨by rw [HF.out] <;> rfl, HB.out⟩
  · have HU := Lib.hid hu; clear hu
    obtain ⟨V, hV⟩ : ∃ V, insS sl (n : Int) ⟨13, a, b, m, s⟩ = V := ⟨_, rfl⟩
    rw [hV]
    have HV := Lib.hid hV; clear hV
    have hmf : ∀ (fn : Fn) (first cap : Array Value) (w : World), (Instr.makeFunc fn first cap).run Tryz.prog w = .ok (.func fn first cap) w := fun _ _ _ _ => rfl
    have hb0 := (((Below.refl w.heap.size w).alloc (Nat.le_refl _) (.cells #[.slice pa pn pc, .int .i64 sl, .slice ia n ic] 25)).alloc (by simp) (.cells #[.int .i64 13, .int .i64 a, .int .i64 b, .int .i64 m, .string (bs s)] 39))
    have h_HC := ((Bx.new w #[.slice pa pn pc, .int .i64 sl, .slice ia n ic] 25).alloc (.cells #[.int .i64 13, .int .i64 a, .int .i64 b, .int .i64 m, .string (bs s)] 39))
    have h_HX := (Bx.new (w.alloc (.cells #[.slice pa pn pc, .int .i64 sl, .slice ia n ic] 25)) #[.int .i64 13, .int .i64 a, .int .i64 b, .int .i64 m, .string (bs s)] 39)
    rw [show (w.alloc (.cells #[.slice pa pn pc, .int .i64 sl, .slice ia n ic] 25)).heap.size = w.heap.size + 1 by simp] at h_HX
    have HB := Lib.hid hb0; have HC := Lib.hid h_HC; have HX := Lib.hid h_HX
    clear hb0 h_HC h_HX
    go_enter Tryz.func30, Tryz.ntmps30
    go_upto_region 1 with (fail)
    generalize hW0 : (w.alloc (.cells #[.slice pa pn pc, .int .i64 sl, .slice ia n ic] 25)).alloc (.cells #[.int .i64 13, .int .i64 a, .int .i64 b, .int .i64 m, .string (bs s)] 39) = v0 at HB HC HX ⊢
    clear hW0
    have c0 : v0.cell? ⟨w.heap.size, 0, none⟩ = some (.slice pa pn pc) := HC.out.cell 0
    have c1 : v0.cell? ⟨w.heap.size, 1, none⟩ = some (.int .i64 sl) := HC.out.cell 1
    have c2 : v0.cell? ⟨w.heap.size, 2, none⟩ = some (.slice ia n ic) := HC.out.cell 2
    have x0 : v0.cell? ⟨(w.heap.size + 1), 0, none⟩ = some (.int .i64 13) := HX.out.cell 0
    have x1 : v0.cell? ⟨(w.heap.size + 1), 1, none⟩ = some (.int .i64 a) := HX.out.cell 1
    have x2 : v0.cell? ⟨(w.heap.size + 1), 2, none⟩ = some (.int .i64 b) := HX.out.cell 2
    have x3 : v0.cell? ⟨(w.heap.size + 1), 3, none⟩ = some (.int .i64 m) := HX.out.cell 3
    have x4 : v0.cell? ⟨(w.heap.size + 1), 4, none⟩ = some (.string (bs s)) := HX.out.cell 4
    go_wp2_with fail
    refine (Name_any 13 _ (hB.below HB.out)).mono ?_
    rw [HN.out]
    rintro er w1 ⟨rfl, hb1⟩
    clear c0 c1 c2
    clear x0 x1 x2 x3 x4
    have HC := Lib.hid (HC.out.call hb1); have HX := Lib.hid (HX.out.call hb1); have HB := Lib.hid (btrans HB.out HB.out.size hb1); clear hb1
    have c0 : w1.cell? ⟨w.heap.size, 0, none⟩ = some (.slice pa pn pc) := HC.out.cell 0
    have c1 : w1.cell? ⟨w.heap.size, 1, none⟩ = some (.int .i64 sl) := HC.out.cell 1
    have c2 : w1.cell? ⟨w.heap.size, 2, none⟩ = some (.slice ia n ic) := HC.out.cell 2
    have x0 : w1.cell? ⟨(w.heap.size + 1), 0, none⟩ = some (.int .i64 13) := HX.out.cell 0
    have x1 : w1.cell? ⟨(w.heap.size + 1), 1, none⟩ = some (.int .i64 a) := HX.out.cell 1
    have x2 : w1.cell? ⟨(w.heap.size + 1), 2, none⟩ = some (.int .i64 b) := HX.out.cell 2
    have x3 : w1.cell? ⟨(w.heap.size + 1), 3, none⟩ = some (.int .i64 m) := HX.out.cell 3
    have x4 : w1.cell? ⟨(w.heap.size + 1), 4, none⟩ = some (.string (bs s)) := HX.out.cell 4
    go_wp2_with fail
    refine (unused_any ⟨13, a, b, m, s⟩ (by show (1 : Int) ≤ 13; decide) (by show (13 : Int) ≤ 14; decide) _).mono ?_
    rw [HU.out]
    rintro er w2 ⟨rfl, hb1⟩
    clear c0 c1 c2
    clear x0 x1 x2 x3 x4
    have HC := Lib.hid (HC.out.call hb1); have HX := Lib.hid (HX.out.call hb1); have HB := Lib.hid (btrans HB.out HB.out.size hb1); clear hb1
    have c0 : w2.cell? ⟨w.heap.size, 0, none⟩ = some (.slice pa pn pc) := HC.out.cell 0
    have c1 : w2.cell? ⟨w.heap.size, 1, none⟩ = some (.int .i64 sl) := HC.out.cell 1
    have c2 : w2.cell? ⟨w.heap.size, 2, none⟩ = some (.slice ia n ic) := HC.out.cell 2
    have x0 : w2.cell? ⟨(w.heap.size + 1), 0, none⟩ = some (.int .i64 13) := HX.out.cell 0
    have x1 : w2.cell? ⟨(w.heap.size + 1), 1, none⟩ = some (.int .i64 a) := HX.out.cell 1
    have x2 : w2.cell? ⟨(w.heap.size + 1), 2, none⟩ = some (.int .i64 b) := HX.out.cell 2
    have x3 : w2.cell? ⟨(w.heap.size + 1), 3, none⟩ = some (.int .i64 m) := HX.out.cell 3
    have x4 : w2.cell? ⟨(w.heap.size + 1), 4, none⟩ = some (.string (bs s)) := HX.out.cell 4
    have HF := Lib.hid (show V = true by rw [← HV.out]; rw [insS_13 HU.out])
    go_wp2
    go_ret
    exact ⟨by rw [HF.out] <;> rfl, HB.out⟩
  · have HU := Lib.hid hu; clear hu
    obtain ⟨V, hV⟩ : ∃ V, insS sl (n : Int) ⟨14, a, b, m, s⟩ = V := ⟨_, rfl⟩
    rw [hV]
    have HV := Lib.hid hV; clear hV
    have hmf : ∀ (fn : Fn) (first cap : Array Value) (w : World), (Instr.makeFunc fn first cap).run Tryz.prog w = .ok (.func fn first cap) w := fun _ _ _ _ => rfl
    have hb0 := (((Below.refl w.heap.size w).alloc (Nat.le_refl _) (.cells #[.slice pa pn pc, .int .i64 sl, .slice ia n ic] 25)).alloc (by simp) (.cells #[.int .i64 14, .int .i64 a, .int .i64 b, .int .i64 m, .string (bs s)] 39))
    have h_HC := ((Bx.new w #[.slice pa pn pc, .int .i64 sl, .slice ia n ic] 25).alloc (.cells #[.int .i64 14, .int .i64 a, .int .i64 b, .int .i64 m, .string (bs s)] 39))
    have h_HX := (Bx.new (w.alloc (.cells #[.slice pa pn pc, .int .i64 sl, .slice ia n ic] 25)) #[.int .i64 14, .int .i64 a, .int .i64 b, .int .i64 m, .string (bs s)] 39)
    rw [show (w.alloc (.cells #[.slice pa pn pc, .int .i64 sl, .slice ia n ic] 25)).heap.size = w.heap.size + 1 by simp] at h_HX
    have HB := Lib.hid hb0; have HC := Lib.hid h_HC; have HX := Lib.hid h_HX
    clear hb0 h_HC h_HX
    go_enter Tryz.func30, Tryz.ntmps30
    go_upto_region 1 with (fail)
    generalize hW0 : (w.alloc (.cells #[.slice pa pn pc, .int .i64 sl, .slice ia n ic] 25)).alloc (.cells #[.int .i64 14, .int .i64 a, .int .i64 b, .int .i64 m, .string (bs s)] 39) = v0 at HB HC HX ⊢
    clear hW0
    have c0 : v0.cell? ⟨w.heap.size, 0, none⟩ = some (.slice pa pn pc) := HC.out.cell 0
    have c1 : v0.cell? ⟨w.heap.size, 1, none⟩ = some (.int .i64 sl) := HC.out.cell 1
    have c2 : v0.cell? ⟨w.heap.size, 2, none⟩ = some (.slice ia n ic) := HC.out.cell 2
    have x0 : v0.cell? ⟨(w.heap.size + 1), 0, none⟩ = some (.int .i64 14) := HX.out.cell 0
    have x1 : v0.cell? ⟨(w.heap.size + 1), 1, none⟩ = some (.int .i64 a) := HX.out.cell 1
    have x2 : v0.cell? ⟨(w.heap.size + 1), 2, none⟩ = some (.int .i64 b) := HX.out.cell 2
    have x3 : v0.cell? ⟨(w.heap.size + 1), 3, none⟩ = some (.int .i64 m) := HX.out.cell 3
    have x4 : v0.cell? ⟨(w.heap.size + 1), 4, none⟩ = some (.string (bs s)) := HX.out.cell 4
    go_wp2_with fail
    refine (Name_any 14 _ (hB.below HB.out)).mono ?_
    rw [HN.out]
    rintro er w1 ⟨rfl, hb1⟩
    clear c0 c1 c2
    clear x0 x1 x2 x3 x4
    have HC := Lib.hid (HC.out.call hb1); have HX := Lib.hid (HX.out.call hb1); have HB := Lib.hid (btrans HB.out HB.out.size hb1); clear hb1
    have c0 : w1.cell? ⟨w.heap.size, 0, none⟩ = some (.slice pa pn pc) := HC.out.cell 0
    have c1 : w1.cell? ⟨w.heap.size, 1, none⟩ = some (.int .i64 sl) := HC.out.cell 1
    have c2 : w1.cell? ⟨w.heap.size, 2, none⟩ = some (.slice ia n ic) := HC.out.cell 2
    have x0 : w1.cell? ⟨(w.heap.size + 1), 0, none⟩ = some (.int .i64 14) := HX.out.cell 0
    have x1 : w1.cell? ⟨(w.heap.size + 1), 1, none⟩ = some (.int .i64 a) := HX.out.cell 1
    have x2 : w1.cell? ⟨(w.heap.size + 1), 2, none⟩ = some (.int .i64 b) := HX.out.cell 2
    have x3 : w1.cell? ⟨(w.heap.size + 1), 3, none⟩ = some (.int .i64 m) := HX.out.cell 3
    have x4 : w1.cell? ⟨(w.heap.size + 1), 4, none⟩ = some (.string (bs s)) := HX.out.cell 4
    go_wp2_with fail
    refine (unused_any ⟨14, a, b, m, s⟩ (by show (1 : Int) ≤ 14; decide) (by show (14 : Int) ≤ 14; decide) _).mono ?_
    rw [HU.out]
    rintro er w2 ⟨rfl, hb1⟩
    clear c0 c1 c2
    clear x0 x1 x2 x3 x4
    have HC := Lib.hid (HC.out.call hb1); have HX := Lib.hid (HX.out.call hb1); have HB := Lib.hid (btrans HB.out HB.out.size hb1); clear hb1
    have c0 : w2.cell? ⟨w.heap.size, 0, none⟩ = some (.slice pa pn pc) := HC.out.cell 0
    have c1 : w2.cell? ⟨w.heap.size, 1, none⟩ = some (.int .i64 sl) := HC.out.cell 1
    have c2 : w2.cell? ⟨w.heap.size, 2, none⟩ = some (.slice ia n ic) := HC.out.cell 2
    have x0 : w2.cell? ⟨(w.heap.size + 1), 0, none⟩ = some (.int .i64 14) := HX.out.cell 0
    have x1 : w2.cell? ⟨(w.heap.size + 1), 1, none⟩ = some (.int .i64 a) := HX.out.cell 1
    have x2 : w2.cell? ⟨(w.heap.size + 1), 2, none⟩ = some (.int .i64 b) := HX.out.cell 2
    have x3 : w2.cell? ⟨(w.heap.size + 1), 3, none⟩ = some (.int .i64 m) := HX.out.cell 3
    have x4 : w2.cell? ⟨(w.heap.size + 1), 4, none⟩ = some (.string (bs s)) := HX.out.cell 4
    have HF := Lib.hid (show V = true by rw [← HV.out]; rw [insS_14 HU.out])
    go_wp2
    go_ret
    exact ⟨by rw [HF.out] <;> rfl, HB.out⟩
end Go.Proofs.YtkmmdkklpbafdaaGreatDoor
