/- The walk of layer 5's Parse. No conditions. -/
import Derived.Test.YtmffdoblpkjmjaaDoorValF
namespace Go.Proofs.YtmffdoblpkjmjaaDoor
open Go.RowKit

theorem pre_yes {l : List UInt8} (h : l.head? = some 34) (w : World) : Calls Tryd.prog 39 #[.string (bs l), .string (bs [34])] w fun e w' => e = .returned (.bool true) ∧ w' = w := by
  refine (Tryd.strings_HasPrefix (bs l) (bs [34]) w).mono ?_
  rintro e w' ⟨rfl, rfl⟩
  refine ⟨?_, rfl⟩
  cases l with
  | nil => cases h
  | cons c r =>
    simp only [List.head?_cons, Option.some.injEq] at h
    subst h; simp [Lib.hasPrefix, bs]
theorem pre_no {l : List UInt8} (h : l.head? ≠ some 34) (w : World) : Calls Tryd.prog 39 #[.string (bs l), .string (bs [34])] w fun e w' => e = .returned (.bool false) ∧ w' = w := by
  refine (Tryd.strings_HasPrefix (bs l) (bs [34]) w).mono ?_
  rintro e w' ⟨rfl, rfl⟩
  refine ⟨?_, rfl⟩
  cases l with
  | nil => simp [Lib.hasPrefix, bs]
  | cons c r =>
    have hc : ¬ 34 = c := fun h2 => h (by rw [h2]; rfl)
    show Ending.returned (.bool ((34 == c) && List.isPrefixOf [] r)) = _
    rw [show ((34 : UInt8) == c) = false by rw [beq_eq_false_iff_ne]; exact hc]; rfl
theorem par_nil {l : List UInt8} (h : l = nilT) : parV l = (v00, 0) := by unfold parV; rw [if_pos h]
theorem par_bad {l U : List UInt8} (h : l ≠ nilT) (h1 : l.head? = some 34) (hu : unq [] (l.drop 1) = (U, false)) : parV l = (v00, 5) := by
  unfold parV; rw [if_neg h, if_pos h1, ← List.drop_one, hu]; rfl
theorem par_long {l U : List UInt8} (h : l ≠ nilT) (h1 : l.head? = some 34) (hu : unq [] (l.drop 1) = (U, true)) (h6 : 64 < U.length) : parV l = (v00, 2) := by
  unfold parV; rw [if_neg h, if_pos h1, ← List.drop_one, hu]; simp only [if_true]; rw [if_pos h6]
theorem par_str {l U : List UInt8} (h : l ≠ nilT) (h1 : l.head? = some 34) (hu : unq [] (l.drop 1) = (U, true)) (h6 : ¬ 64 < U.length) : parV l = (⟨2, 0, U⟩, 0) := by
  unfold parV; rw [if_neg h, if_pos h1, ← List.drop_one, hu]; simp only [if_true]; rw [if_neg h6]
theorem par_int {l : List UInt8} {n : Int} (h : l ≠ nilT) (h1 : l.head? ≠ some 34) (hp : parseS l = (n, 0)) : parV l = (⟨1, n, []⟩, 0) := by
  unfold parV; rw [if_neg h, if_neg h1, hp]; rfl
theorem par_err {l : List UInt8} {n e : Int} (h : l ≠ nilT) (h1 : l.head? ≠ some 34) (hp : parseS l = (n, e)) (he : e ≠ 0) : parV l = (v00, e) := by
  unfold parV; rw [if_neg h, if_neg h1, hp]; simp only; rw [if_neg he]

set_option maxRecDepth 100000 in
set_option maxHeartbeats 8000000 in
theorem VParse_any (l : List UInt8) (hl : l.length ≤ 100000) (w : World) (hL : Laid w) :
    Calls Tryd.prog 22 #[.string (bs l)] w fun e w' => e = .returned (.tuple #[.agg (vV (parV l).1), .int .i64 (parV l).2]) ∧ Below w.heap.size w w' := by
  by_cases h : l = nilT
  · have ts : (l == [110, 105, 108]) = true := by rw [h]; rfl
    have hr : parV l = (v00, 0) := par_nil h
    rw [hr]; clear hr
    simp only [vV, v00]
    have HQ := Lib.hid h; clear h
    have HR := Lib.hid (Bx.new w #[.int .i64 0, .int .i64 0, .string ⟨#[]⟩] 23); have HB := Lib.hid ((Below.refl w.heap.size w).alloc (Nat.le_refl _) (.cells #[.int .i64 0, .int .i64 0, .string ⟨#[]⟩] 23))
    go_enter Tryd.func22, Tryd.ntmps22
    go_upto_region 1 with (fail)
    generalize hW : w.alloc (.cells #[.int .i64 0, .int .i64 0, .string ⟨#[]⟩] 23) = v0 at HR HB ⊢
    clear hW
    have r0 : v0.cell? ⟨w.heap.size, 0, none⟩ = some (.int .i64 0) := HR.out.cell 0
    have r1 : v0.cell? ⟨w.heap.size, 1, none⟩ = some (.int .i64 0) := HR.out.cell 1
    have r2 : v0.cell? ⟨w.heap.size, 2, none⟩ = some (.string ⟨#[]⟩) := HR.out.cell 2
    have f0 := HR.out.free 0
    have f1 := HR.out.free 1
    have f2 := HR.out.free 2
    have HK := Lib.hid (HR.out.sets3 (.int .i64 0) (.int .i64 0) (.string ⟨#[]⟩))
    go_wp2
    have k0 := HK.out.cell 0
    have k1 := HK.out.cell 1
    have k2 := HK.out.cell 2
    simp only [List.getElem?_toArray, List.getElem?_cons_zero, List.getElem?_cons_succ] at k0 k1 k2
    refine bodyPost_ret (v := .tuple #[.agg #[.int .i64 0, .int .i64 0, .string (bs [])], .int .i64 0]) (by simp [results, Tryd.results22, go_sem, k0, k1, k2] <;> rfl) rfl ⟨rfl, ?_⟩
    exact below_sets3 HB.out w.heap.size (Nat.le_refl _) _ _ _
  have ts : (l == [110, 105, 108]) = false := by rw [beq_eq_false_iff_ne]; exact h
  by_cases h1 : l.head? = some 34
  · have hl0 : 1 ≤ l.length := by cases l with | nil => cases h1 | cons c r => simp
    obtain ⟨⟨U, fl⟩, hu⟩ : ∃ r, unq [] (l.drop 1) = r := ⟨_, rfl⟩
    cases fl with
    | false =>
      have hr : parV l = (v00, 5) := par_bad h h1 hu
      rw [hr]; clear hr
      simp only [vV, v00]
      have HQ := Lib.hid h; have HU := Lib.hid hu; have H1 := Lib.hid h1; clear h hu h1
      have HR := Lib.hid (Bx.new w #[.int .i64 0, .int .i64 0, .string ⟨#[]⟩] 23); have HB := Lib.hid ((Below.refl w.heap.size w).alloc (Nat.le_refl _) (.cells #[.int .i64 0, .int .i64 0, .string ⟨#[]⟩] 23))
      go_enter Tryd.func22, Tryd.ntmps22
      go_upto_region 1 with (fail)
      generalize hW : w.alloc (.cells #[.int .i64 0, .int .i64 0, .string ⟨#[]⟩] 23) = v0 at HR HB ⊢
      clear hW
      go_wp2_with fail
      refine (pre_yes H1.out _).mono ?_
      rintro er w1 ⟨rfl, rfl⟩
      go_wp2_with fail
      refine (unquote_any l hl0 hl _).mono ?_
      rw [HU.out]
      rintro er w1 ⟨rfl, hb1⟩
      have HR := Lib.hid (HR.out.call hb1); have HB := Lib.hid (btrans HB.out HB.out.size hb1); clear hb1
      have r0 : w1.cell? ⟨w.heap.size, 0, none⟩ = some (.int .i64 0) := HR.out.cell 0
      have r1 : w1.cell? ⟨w.heap.size, 1, none⟩ = some (.int .i64 0) := HR.out.cell 1
      have r2 : w1.cell? ⟨w.heap.size, 2, none⟩ = some (.string ⟨#[]⟩) := HR.out.cell 2
      have f0 := HR.out.free 0
      have f1 := HR.out.free 1
      have f2 := HR.out.free 2
      have HK := Lib.hid (HR.out.sets3 (.int .i64 0) (.int .i64 0) (.string ⟨#[]⟩))
      go_wp2
      have k0 := HK.out.cell 0
      have k1 := HK.out.cell 1
      have k2 := HK.out.cell 2
      simp only [List.getElem?_toArray, List.getElem?_cons_zero, List.getElem?_cons_succ] at k0 k1 k2
      refine bodyPost_ret (v := .tuple #[.agg #[.int .i64 0, .int .i64 0, .string (bs [])], .int .i64 5]) (by simp [results, Tryd.results22, go_sem, k0, k1, k2] <;> rfl) rfl ⟨rfl, ?_⟩
      exact below_sets3 HB.out w.heap.size (Nat.le_refl _) _ _ _
    | true =>
      by_cases h6 : 64 < U.length
      · have h6' : (64 : Int) < (U.length : Int) := by omega
        have hr : parV l = (v00, 2) := par_long h h1 hu h6
        rw [hr]; clear hr
        simp only [vV, v00]
        have HQ := Lib.hid h; have HU := Lib.hid hu; have H1 := Lib.hid h1; clear h hu h1
        have HR := Lib.hid (Bx.new w #[.int .i64 0, .int .i64 0, .string ⟨#[]⟩] 23); have HB := Lib.hid ((Below.refl w.heap.size w).alloc (Nat.le_refl _) (.cells #[.int .i64 0, .int .i64 0, .string ⟨#[]⟩] 23))
        go_enter Tryd.func22, Tryd.ntmps22
        go_upto_region 1 with (fail)
        generalize hW : w.alloc (.cells #[.int .i64 0, .int .i64 0, .string ⟨#[]⟩] 23) = v0 at HR HB ⊢
        clear hW
        go_wp2_with fail
        refine (pre_yes H1.out _).mono ?_
        rintro er w1 ⟨rfl, rfl⟩
        go_wp2_with fail
        refine (unquote_any l hl0 hl _).mono ?_
        rw [HU.out]
        rintro er w1 ⟨rfl, hb1⟩
        have HR := Lib.hid (HR.out.call hb1); have HB := Lib.hid (btrans HB.out HB.out.size hb1); clear hb1
        have r0 : w1.cell? ⟨w.heap.size, 0, none⟩ = some (.int .i64 0) := HR.out.cell 0
        have r1 : w1.cell? ⟨w.heap.size, 1, none⟩ = some (.int .i64 0) := HR.out.cell 1
        have r2 : w1.cell? ⟨w.heap.size, 2, none⟩ = some (.string ⟨#[]⟩) := HR.out.cell 2
        have f0 := HR.out.free 0
        have f1 := HR.out.free 1
        have f2 := HR.out.free 2
        have HK := Lib.hid (HR.out.sets3 (.int .i64 0) (.int .i64 0) (.string ⟨#[]⟩))
        go_wp2
        have k0 := HK.out.cell 0
        have k1 := HK.out.cell 1
        have k2 := HK.out.cell 2
        simp only [List.getElem?_toArray, List.getElem?_cons_zero, List.getElem?_cons_succ] at k0 k1 k2
        refine bodyPost_ret (v := .tuple #[.agg #[.int .i64 0, .int .i64 0, .string (bs [])], .int .i64 2]) (by simp [results, Tryd.results22, go_sem, k0, k1, k2] <;> rfl) rfl ⟨rfl, ?_⟩
        exact below_sets3 HB.out w.heap.size (Nat.le_refl _) _ _ _
      · have h6' : ¬ (64 : Int) < (U.length : Int) := by omega
        have hr : parV l = (⟨2, 0, U⟩, 0) := par_str h h1 hu h6
        rw [hr]; clear hr
        simp only [vV]
        have HQ := Lib.hid h; have HU := Lib.hid hu; have H1 := Lib.hid h1; clear h hu h1
        have HR := Lib.hid (Bx.new w #[.int .i64 0, .int .i64 0, .string ⟨#[]⟩] 23); have HB := Lib.hid ((Below.refl w.heap.size w).alloc (Nat.le_refl _) (.cells #[.int .i64 0, .int .i64 0, .string ⟨#[]⟩] 23))
        go_enter Tryd.func22, Tryd.ntmps22
        go_upto_region 1 with (fail)
        generalize hW : w.alloc (.cells #[.int .i64 0, .int .i64 0, .string ⟨#[]⟩] 23) = v0 at HR HB ⊢
        clear hW
        go_wp2_with fail
        refine (pre_yes H1.out _).mono ?_
        rintro er w1 ⟨rfl, rfl⟩
        go_wp2_with fail
        refine (unquote_any l hl0 hl _).mono ?_
        rw [HU.out]
        rintro er w1 ⟨rfl, hb1⟩
        have HR := Lib.hid (HR.out.call hb1); have HB := Lib.hid (btrans HB.out HB.out.size hb1); clear hb1
        have r0 : w1.cell? ⟨w.heap.size, 0, none⟩ = some (.int .i64 0) := HR.out.cell 0
        have r1 : w1.cell? ⟨w.heap.size, 1, none⟩ = some (.int .i64 0) := HR.out.cell 1
        have r2 : w1.cell? ⟨w.heap.size, 2, none⟩ = some (.string ⟨#[]⟩) := HR.out.cell 2
        have f0 := HR.out.free 0
        have f1 := HR.out.free 1
        have f2 := HR.out.free 2
        have HK := Lib.hid (HR.out.sets3 (.int .i64 2) (.int .i64 0) (.string (bs U)))
        go_wp2
        have k0 := HK.out.cell 0
        have k1 := HK.out.cell 1
        have k2 := HK.out.cell 2
        simp only [List.getElem?_toArray, List.getElem?_cons_zero, List.getElem?_cons_succ] at k0 k1 k2
        refine bodyPost_ret (v := .tuple #[.agg #[.int .i64 2, .int .i64 0, .string (bs U)], .int .i64 0]) (by simp [results, Tryd.results22, go_sem, k0, k1, k2] <;> rfl) rfl ⟨rfl, ?_⟩
        exact below_sets3 HB.out w.heap.size (Nat.le_refl _) _ _ _
  obtain ⟨⟨n, pe⟩, hu⟩ : ∃ r, parseS l = r := ⟨_, rfl⟩
  by_cases he : pe = 0
  · subst he
    have hr : parV l = (⟨1, n, []⟩, 0) := par_int h h1 hu
    rw [hr]; clear hr
    simp only [vV]
    have HQ := Lib.hid h; have HU := Lib.hid hu; have H1 := Lib.hid h1; clear h hu h1
    have HR := Lib.hid (Bx.new w #[.int .i64 0, .int .i64 0, .string ⟨#[]⟩] 23); have HB := Lib.hid ((Below.refl w.heap.size w).alloc (Nat.le_refl _) (.cells #[.int .i64 0, .int .i64 0, .string ⟨#[]⟩] 23))
    go_enter Tryd.func22, Tryd.ntmps22
    go_upto_region 1 with (fail)
    generalize hW : w.alloc (.cells #[.int .i64 0, .int .i64 0, .string ⟨#[]⟩] 23) = v0 at HR HB ⊢
    clear hW
    go_wp2_with fail
    refine (pre_no H1.out _).mono ?_
    rintro er w1 ⟨rfl, rfl⟩
    go_wp2_with fail
    refine (Parse_any l _ (by omega) (hL.below HB.out)).mono ?_
    rw [HU.out]
    rintro er w1 ⟨rfl, hb1⟩
    have HR := Lib.hid (HR.out.call hb1); have HB := Lib.hid (btrans HB.out HB.out.size hb1); clear hb1
    go_wp2_with fail
    refine (VInt_any n _).mono ?_
    simp only [vV, intV5]
    rintro er w2 ⟨rfl, hb1⟩
    have HR := Lib.hid (HR.out.call hb1); have HB := Lib.hid (btrans HB.out HB.out.size hb1); clear hb1
    have r0 : w2.cell? ⟨w.heap.size, 0, none⟩ = some (.int .i64 0) := HR.out.cell 0
    have r1 : w2.cell? ⟨w.heap.size, 1, none⟩ = some (.int .i64 0) := HR.out.cell 1
    have r2 : w2.cell? ⟨w.heap.size, 2, none⟩ = some (.string ⟨#[]⟩) := HR.out.cell 2
    have f0 := HR.out.free 0
    have f1 := HR.out.free 1
    have f2 := HR.out.free 2
    have HK := Lib.hid (HR.out.sets3 (.int .i64 1) (.int .i64 n) (.string (bs [])))
    go_wp2
    have k0 := HK.out.cell 0
    have k1 := HK.out.cell 1
    have k2 := HK.out.cell 2
    simp only [List.getElem?_toArray, List.getElem?_cons_zero, List.getElem?_cons_succ] at k0 k1 k2
    refine bodyPost_ret (v := .tuple #[.agg #[.int .i64 1, .int .i64 n, .string (bs [])], .int .i64 0]) (by simp [results, Tryd.results22, go_sem, k0, k1, k2] <;> rfl) rfl ⟨rfl, ?_⟩
    exact below_sets3 HB.out w.heap.size (Nat.le_refl _) _ _ _
  · have tp : (pe != 0) = true := by rw [bne_iff_ne]; exact he
    have hr : parV l = (v00, pe) := par_err h h1 hu he
    rw [hr]; clear hr
    simp only [vV, v00]
    have HE := Lib.hid he; clear he
    have HQ := Lib.hid h; have HU := Lib.hid hu; have H1 := Lib.hid h1; clear h hu h1
    have HR := Lib.hid (Bx.new w #[.int .i64 0, .int .i64 0, .string ⟨#[]⟩] 23); have HB := Lib.hid ((Below.refl w.heap.size w).alloc (Nat.le_refl _) (.cells #[.int .i64 0, .int .i64 0, .string ⟨#[]⟩] 23))
    go_enter Tryd.func22, Tryd.ntmps22
    go_upto_region 1 with (fail)
    generalize hW : w.alloc (.cells #[.int .i64 0, .int .i64 0, .string ⟨#[]⟩] 23) = v0 at HR HB ⊢
    clear hW
    go_wp2_with fail
    refine (pre_no H1.out _).mono ?_
    rintro er w1 ⟨rfl, rfl⟩
    go_wp2_with fail
    refine (Parse_any l _ (by omega) (hL.below HB.out)).mono ?_
    rw [HU.out]
    rintro er w1 ⟨rfl, hb1⟩
    have HR := Lib.hid (HR.out.call hb1); have HB := Lib.hid (btrans HB.out HB.out.size hb1); clear hb1
    have r0 : w1.cell? ⟨w.heap.size, 0, none⟩ = some (.int .i64 0) := HR.out.cell 0
    have r1 : w1.cell? ⟨w.heap.size, 1, none⟩ = some (.int .i64 0) := HR.out.cell 1
    have r2 : w1.cell? ⟨w.heap.size, 2, none⟩ = some (.string ⟨#[]⟩) := HR.out.cell 2
    have f0 := HR.out.free 0
    have f1 := HR.out.free 1
    have f2 := HR.out.free 2
    have HK := Lib.hid (HR.out.sets3 (.int .i64 0) (.int .i64 0) (.string ⟨#[]⟩))
    go_wp2
    have k0 := HK.out.cell 0
    have k1 := HK.out.cell 1
    have k2 := HK.out.cell 2
    simp only [List.getElem?_toArray, List.getElem?_cons_zero, List.getElem?_cons_succ] at k0 k1 k2
    refine bodyPost_ret (v := .tuple #[.agg #[.int .i64 0, .int .i64 0, .string (bs [])], .int .i64 pe]) (by simp [results, Tryd.results22, go_sem, k0, k1, k2] <;> rfl) rfl ⟨rfl, ?_⟩
    exact below_sets3 HB.out w.heap.size (Nat.le_refl _) _ _ _
end Go.Proofs.YtmffdoblpkjmjaaDoor
