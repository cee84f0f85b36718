/- The walks of layer 16's Name, unused, validInstr, and of the reference's. No conditions. -/
import Derived.Test.YtkmmdkklpbafdaaGreatDoorBytA
import Derived.Lib.LaidTab
namespace Go.Proofs.YtkmmdkklpbafdaaGreatDoor
open Go.RowKit

/-- the library's variables that layer 16 reads -/
def LaidB (W : World) : Prop := Laid W ∧ Lib.TabIs Tryz.prog W "strings.asciiSpace" .u8 Lib.asciiSpaceTab ∧ ∃ m, W.cell? ⟨3, 0, none⟩ = some (.int .i64 m)
theorem gSpace : Tryz.prog.globalNamed "strings.asciiSpace" = some 0 := by kernel_rfl
theorem LaidB.below {W W' : World} (h : LaidB W) (hb : Below W.heap.size W W') : LaidB W' := by
  obtain ⟨h1, h2, m, h3⟩ := h
  refine ⟨h1.below hb, ?_, m, cell1_below h3 hb⟩
  unfold Lib.TabIs at h2 ⊢
  exact Joins.var_stays gSpace h2 hb (Nat.le_refl _)
theorem Fields_of (s : ByteArray) (F : List (List UInt8)) (n : Nat) (hF : Lib.fields s.data.toList = F) (hn : F.length = n) (hs : s.size < 4294967281) (ha : s.data.toList.all (fun b => decide (b.toNat < 128)) = true) (w : World) (hB : LaidB w) :
    Calls Tryz.prog 39 #[.string s] w fun e w' => e = .returned (.slice (some ⟨w.heap.size, 0, none⟩) n n) ∧ w' = w.alloc (.cells (F.map strV).toArray 9) := by
  subst hF hn
  refine (Tryz.strings_Fields s w hs ?_ hB.2.1).mono ?_
  · intro j b hj
    have := List.all_eq_true.1 ha b (List.mem_of_getElem? hj)
    simpa using this
  · rintro e w' ⟨rfl, rfl⟩
    exact ⟨rfl, rfl⟩
theorem strs_at {F : List (List UInt8)} {k : Nat} (h : k < F.length) : (F.map strV).toArray[k]? = some (.string (bs (F.getD k []))) := by
  simp only [List.getElem?_toArray, List.getElem?_map, List.getElem?_eq_getElem h, Option.map_some, List.getD_eq_getElem?_getD, Option.getD_some]; rfl
theorem nameS_in {k : Nat} (h : k < 14) : nameS ((k : Int) + 1) = OPN.getD k [] := by
  unfold nameS; rw [if_pos ⟨by omega, by omega⟩]; congr 1; omega
theorem nameS_out {op : Int} (h : op < 1 ∨ 14 < op) : nameS op = [] := by unfold nameS; rw [if_neg (by omega)]
theorem OPN_ne : ∀ k, k < 14 → OPN.getD k [] ≠ [] := by decide
theorem nameS_ne {op : Int} (h1 : 1 ≤ op) (h2 : op ≤ 14) : nameS op ≠ [] := by
  obtain ⟨k, rfl⟩ : ∃ k : Nat, op = (k : Int) + 1 := ⟨(op - 1).toNat, by omega⟩
  rw [nameS_in (by omega)]; exact OPN_ne k (by omega)

set_option maxRecDepth 100000 in
set_option maxHeartbeats 8000000 in
theorem Name_any (op : Int) (w : World) (hB : LaidB w) :
    Calls Tryz.prog 16 #[.int .i64 op] w fun e w' => e = .returned (.string (bs (nameS op))) ∧ Below w.heap.size w w' := by
  by_cases h1 : op < 1
  · rw [nameS_out (.inl h1)]
    go_enter Tryz.func16, Tryz.ntmps16
    go_wp2
    go_ret
    exact ⟨rfl, Below.refl _ _⟩
  by_cases h2 : 14 < op
  · rw [nameS_out (.inr h2)]
    go_enter Tryz.func16, Tryz.ntmps16
    go_wp2
    go_ret
    exact ⟨rfl, Below.refl _ _⟩
  obtain ⟨k, rfl⟩ : ∃ k : Nat, op = (k : Int) + 1 := ⟨(op - 1).toNat, by omega⟩
  have hk : k < 14 := by omega
  rw [nameS_in hk]
  have hw1 : IntKind.i64.wrap ((k : Int) + 1 - 1) = (k : Int) := by rw [IntKind.wrap_i64]; omega
  have hk' : (k : Int) < 14 := by omega
  go_enter Tryz.func16, Tryz.ntmps16
  go_wp2_with fail
  refine (Fields_of _ OPN 14 (by kernel_rfl) rfl (of_decide_eq_true (by kernel_rfl)) (by kernel_rfl) _ hB).mono ?_
  rintro er w1 ⟨rfl, rfl⟩
  have HX := Lib.hid (Bx.new w (OPN.map strV).toArray 9); have HB := Lib.hid ((Below.refl w.heap.size w).alloc (Nat.le_refl _) (.cells (OPN.map strV).toArray 9))
  generalize hW : w.alloc (.cells (OPN.map strV).toArray 9) = v1 at HX HB ⊢
  clear hW
  have c0 : v1.cell? ⟨w.heap.size, k, none⟩ = some (.string (bs (OPN.getD k []))) := by rw [HX.out.cell k]; exact strs_at (by show k < 14; exact hk)
  go_wp2
  go_ret
  exact ⟨rfl, HB.out⟩
set_option maxRecDepth 100000 in
set_option maxHeartbeats 8000000 in
theorem names_any (w : World) :
    Calls Tryz.prog 40 #[] w fun e w' => e = .returned (.slice (some ⟨w.heap.size, 0, none⟩) 14 14) ∧ w' = w.alloc (.cells (OPN.map strV).toArray 9) := by
  go_enter Tryz.func40, Tryz.ntmps40
  go_wp2
  go_ret
  exact ⟨rfl, rfl⟩
set_option maxRecDepth 100000 in
set_option maxHeartbeats 8000000 in
theorem operators_any (w : World) :
    Calls Tryz.prog 79 #[] w fun e w' => e = .returned (.slice (some ⟨w.heap.size, 0, none⟩) 21 21) ∧ w' = w.alloc (.cells (OPR.map strV).toArray 9) := by
  go_enter Tryz.func79, Tryz.ntmps79
  go_wp2
  go_ret
  exact ⟨rfl, rfl⟩
set_option maxRecDepth 100000 in
set_option maxHeartbeats 8000000 in
theorem RName_any (op : Int) (w : World) :
    Calls Tryz.prog 17 #[.int .i64 op] w fun e w' => e = .returned (.string (bs (nameS op))) ∧ Below w.heap.size w w' := by
  by_cases h1 : op < 1
  · rw [nameS_out (.inl h1)]
    go_enter Tryz.func17, Tryz.ntmps17
    go_wp2
    go_ret
    exact ⟨rfl, Below.refl _ _⟩
  by_cases h2 : 14 < op
  · rw [nameS_out (.inr h2)]
    go_enter Tryz.func17, Tryz.ntmps17
    go_wp2
    go_ret
    exact ⟨rfl, Below.refl _ _⟩
  obtain ⟨k, rfl⟩ : ∃ k : Nat, op = (k : Int) + 1 := ⟨(op - 1).toNat, by omega⟩
  have hk : k < 14 := by omega
  rw [nameS_in hk]
  have hw1 : IntKind.i64.wrap ((k : Int) + 1 - 1) = (k : Int) := by rw [IntKind.wrap_i64]; omega
  have hk' : (k : Int) < 14 := by omega
  go_enter Tryz.func17, Tryz.ntmps17
  go_wp2_with fail
  refine (names_any _).mono ?_
  rintro er w1 ⟨rfl, rfl⟩
  have HX := Lib.hid (Bx.new w (OPN.map strV).toArray 9); have HB := Lib.hid ((Below.refl w.heap.size w).alloc (Nat.le_refl _) (.cells (OPN.map strV).toArray 9))
  generalize hW : w.alloc (.cells (OPN.map strV).toArray 9) = v1 at HX HB ⊢
  clear hW
  have c0 : v1.cell? ⟨w.heap.size, k, none⟩ = some (.string (bs (OPN.getD k []))) := by rw [HX.out.cell k]; exact strs_at (by show k < 14; exact hk)
  go_wp2
  go_ret
  exact ⟨rfl, HB.out⟩
def Grp (op : Int) : Prop :=
  (fldS op = 4 ∧ uA op = false ∧ uB op = false ∧ uN op = true ∧ uS op = false) ∨ (fldS op = 8 ∧ uA op = false ∧ uB op = false ∧ uN op = false ∧ uS op = true) ∨
  (fldS op = 7 ∧ uA op = true ∧ uB op = true ∧ uN op = true ∧ uS op = false) ∨ (fldS op = 1 ∧ uA op = true ∧ uB op = false ∧ uN op = false ∧ uS op = false) ∨ (fldS op = 0 ∧ uA op = false ∧ uB op = false ∧ uN op = false ∧ uS op = false)
instance (op : Int) : Decidable (Grp op) := by unfold Grp; infer_instance
theorem grp_any {op : Int} (h1 : 1 ≤ op) (h2 : op ≤ 14) : Grp op := by
  have hop : op = 1 ∨ op = 2 ∨ op = 3 ∨ op = 4 ∨ op = 5 ∨ op = 6 ∨ op = 7 ∨ op = 8 ∨ op = 9 ∨ op = 10 ∨ op = 11 ∨ op = 12 ∨ op = 13 ∨ op = 14 := by omega
  rcases hop with rfl | rfl | rfl | rfl | rfl | rfl | rfl | rfl | rfl | rfl | rfl | rfl | rfl | rfl <;> decide

set_option maxRecDepth 100000 in
set_option maxHeartbeats 8000000 in
theorem unused_any (x : Ins) (h1 : 1 ≤ x.op) (h2 : x.op ≤ 14) (w : World) :
    Calls Tryz.prog 60 #[.agg (insV x)] w fun e w' => e = .returned (.bool (unuS x)) ∧ Below w.heap.size w w' := by
  obtain ⟨op, a, b, n, s⟩ := x
  simp only at h1 h2
  simp only [insV]
  rcases grp_any h1 h2 with h | h | h | h | h
  · obtain ⟨hF, hA, hB, hN, hS⟩ := h
    by_cases ea : a = 0
    rotate_left
    · have ta : (a == 0) = false := by rw [beq_eq_false_iff_ne]; exact ea
      have hr : unuS ⟨op, a, b, n, s⟩ = false := by unfold unuS; simp [hA, hB, hN, hS, ea]
      rw [hr]; clear hr hA hB hN hS
      have hb0 := ((Below.refl w.heap.size w).alloc (Nat.le_refl _) (.cells #[.int .i64 op, .int .i64 a, .int .i64 b, .int .i64 n, .string (bs s)] 39))
      have h_HX := (Bx.new w #[.int .i64 op, .int .i64 a, .int .i64 b, .int .i64 n, .string (bs s)] 39)
      have HB := Lib.hid hb0; have HX := Lib.hid h_HX
      clear hb0 h_HX
      go_enter Tryz.func60, Tryz.ntmps60
      go_upto_region 1 with (fail)
      generalize hW0 : w.alloc (.cells #[.int .i64 op, .int .i64 a, .int .i64 b, .int .i64 n, .string (bs s)] 39) = v0 at HB HX ⊢
      clear hW0
      have x0 : v0.cell? ⟨w.heap.size, 0, none⟩ = some (.int .i64 op) := HX.out.cell 0
      have x1 : v0.cell? ⟨w.heap.size, 1, none⟩ = some (.int .i64 a) := HX.out.cell 1
      have x2 : v0.cell? ⟨w.heap.size, 2, none⟩ = some (.int .i64 b) := HX.out.cell 2
      have x3 : v0.cell? ⟨w.heap.size, 3, none⟩ = some (.int .i64 n) := HX.out.cell 3
      have x4 : v0.cell? ⟨w.heap.size, 4, none⟩ = some (.string (bs s)) := HX.out.cell 4
      go_wp2_with fail
      refine (fields_any op h1 h2 _).mono ?_
      rw [hF]
      rintro er w1 ⟨rfl, hb1⟩
      clear x0 x1 x2 x3 x4
      have HX := Lib.hid (HX.out.call hb1); have HB := Lib.hid (btrans HB.out HB.out.size hb1); clear hb1
      have x0 : w1.cell? ⟨w.heap.size, 0, none⟩ = some (.int .i64 op) := HX.out.cell 0
      have x1 : w1.cell? ⟨w.heap.size, 1, none⟩ = some (.int .i64 a) := HX.out.cell 1
      have x2 : w1.cell? ⟨w.heap.size, 2, none⟩ = some (.int .i64 b) := HX.out.cell 2
      have x3 : w1.cell? ⟨w.heap.size, 3, none⟩ = some (.int .i64 n) := HX.out.cell 3
      have x4 : w1.cell? ⟨w.heap.size, 4, none⟩ = some (.string (bs s)) := HX.out.cell 4
      go_wp2
      go_ret
      exact ⟨rfl, HB.out⟩
    subst ea
    by_cases eb : b = 0
    rotate_left
    · have tb : (b == 0) = false := by rw [beq_eq_false_iff_ne]; exact eb
      have hr : unuS ⟨op, 0, b, n, s⟩ = false := by unfold unuS; simp [hA, hB, hN, hS, eb]
      rw [hr]; clear hr hA hB hN hS
      have hb0 := ((Below.refl w.heap.size w).alloc (Nat.le_refl _) (.cells #[.int .i64 op, .int .i64 0, .int .i64 b, .int .i64 n, .string (bs s)] 39))
      have h_HX := (Bx.new w #[.int .i64 op, .int .i64 0, .int .i64 b, .int .i64 n, .string (bs s)] 39)
      have HB := Lib.hid hb0; have HX := Lib.hid h_HX
      clear hb0 h_HX
      go_enter Tryz.func60, Tryz.ntmps60
      go_upto_region 1 with (fail)
      generalize hW0 : w.alloc (.cells #[.int .i64 op, .int .i64 0, .int .i64 b, .int .i64 n, .string (bs s)] 39) = v0 at HB HX ⊢
      clear hW0
      have x0 : v0.cell? ⟨w.heap.size, 0, none⟩ = some (.int .i64 op) := HX.out.cell 0
      have x1 : v0.cell? ⟨w.heap.size, 1, none⟩ = some (.int .i64 0) := HX.out.cell 1
      have x2 : v0.cell? ⟨w.heap.size, 2, none⟩ = some (.int .i64 b) := HX.out.cell 2
      have x3 : v0.cell? ⟨w.heap.size, 3, none⟩ = some (.int .i64 n) := HX.out.cell 3
      have x4 : v0.cell? ⟨w.heap.size, 4, none⟩ = some (.string (bs s)) := HX.out.cell 4
      go_wp2_with fail
      refine (fields_any op h1 h2 _).mono ?_
      rw [hF]
      rintro er w1 ⟨rfl, hb1⟩
      clear x0 x1 x2 x3 x4
      have HX := Lib.hid (HX.out.call hb1); have HB := Lib.hid (btrans HB.out HB.out.size hb1); clear hb1
      have x0 : w1.cell? ⟨w.heap.size, 0, none⟩ = some (.int .i64 op) := HX.out.cell 0
      have x1 : w1.cell? ⟨w.heap.size, 1, none⟩ = some (.int .i64 0) := HX.out.cell 1
      have x2 : w1.cell? ⟨w.heap.size, 2, none⟩ = some (.int .i64 b) := HX.out.cell 2
      have x3 : w1.cell? ⟨w.heap.size, 3, none⟩ = some (.int .i64 n) := HX.out.cell 3
      have x4 : w1.cell? ⟨w.heap.size, 4, none⟩ = some (.string (bs s)) := HX.out.cell 4
      go_wp2
      go_ret
      exact ⟨rfl, HB.out⟩
    subst eb
    by_cases es : s = []
    rotate_left
    · have ts : (s == []) = false := by rw [beq_eq_false_iff_ne]; exact es
      have hr : unuS ⟨op, 0, 0, n, s⟩ = false := by unfold unuS; simp [hA, hB, hN, hS, es]
      rw [hr]; clear hr hA hB hN hS
      have hb0 := ((Below.refl w.heap.size w).alloc (Nat.le_refl _) (.cells #[.int .i64 op, .int .i64 0, .int .i64 0, .int .i64 n, .string (bs s)] 39))
      have h_HX := (Bx.new w #[.int .i64 op, .int .i64 0, .int .i64 0, .int .i64 n, .string (bs s)] 39)
      have HB := Lib.hid hb0; have HX := Lib.hid h_HX
      clear hb0 h_HX
      go_enter Tryz.func60, Tryz.ntmps60
      go_upto_region 1 with (fail)
      generalize hW0 : w.alloc (.cells #[.int .i64 op, .int .i64 0, .int .i64 0, .int .i64 n, .string (bs s)] 39) = v0 at HB HX ⊢
      clear hW0
      have x0 : v0.cell? ⟨w.heap.size, 0, none⟩ = some (.int .i64 op) := HX.out.cell 0
      have x1 : v0.cell? ⟨w.heap.size, 1, none⟩ = some (.int .i64 0) := HX.out.cell 1
      have x2 : v0.cell? ⟨w.heap.size, 2, none⟩ = some (.int .i64 0) := HX.out.cell 2
      have x3 : v0.cell? ⟨w.heap.size, 3, none⟩ = some (.int .i64 n) := HX.out.cell 3
      have x4 : v0.cell? ⟨w.heap.size, 4, none⟩ = some (.string (bs s)) := HX.out.cell 4
      go_wp2_with fail
      refine (fields_any op h1 h2 _).mono ?_
      rw [hF]
      rintro er w1 ⟨rfl, hb1⟩
      clear x0 x1 x2 x3 x4
      have HX := Lib.hid (HX.out.call hb1); have HB := Lib.hid (btrans HB.out HB.out.size hb1); clear hb1
      have x0 : w1.cell? ⟨w.heap.size, 0, none⟩ = some (.int .i64 op) := HX.out.cell 0
      have x1 : w1.cell? ⟨w.heap.size, 1, none⟩ = some (.int .i64 0) := HX.out.cell 1
      have x2 : w1.cell? ⟨w.heap.size, 2, none⟩ = some (.int .i64 0) := HX.out.cell 2
      have x3 : w1.cell? ⟨w.heap.size, 3, none⟩ = some (.int .i64 n) := HX.out.cell 3
      have x4 : w1.cell? ⟨w.heap.size, 4, none⟩ = some (.string (bs s)) := HX.out.cell 4
      go_wp2
      go_ret
      exact ⟨rfl, HB.out⟩
    subst es
    have hr : unuS ⟨op, 0, 0, n, []⟩ = true := by unfold unuS; simp [hA, hB, hN, hS]
    rw [hr]; clear hr hA hB hN hS
    have hb0 := ((Below.refl w.heap.size w).alloc (Nat.le_refl _) (.cells #[.int .i64 op, .int .i64 0, .int .i64 0, .int .i64 n, .string (bs [])] 39))
    have h_HX := (Bx.new w #[.int .i64 op, .int .i64 0, .int .i64 0, .int .i64 n, .string (bs [])] 39)
    have HB := Lib.hid hb0; have HX := Lib.hid h_HX
    clear hb0 h_HX
    go_enter Tryz.func60, Tryz.ntmps60
    go_upto_region 1 with (fail)
    generalize hW0 : w.alloc (.cells #[.int .i64 op, .int .i64 0, .int .i64 0, .int .i64 n, .string (bs [])] 39) = v0 at HB HX ⊢
    clear hW0
    have x0 : v0.cell? ⟨w.heap.size, 0, none⟩ = some (.int .i64 op) := HX.out.cell 0
    have x1 : v0.cell? ⟨w.heap.size, 1, none⟩ = some (.int .i64 0) := HX.out.cell 1
    have x2 : v0.cell? ⟨w.heap.size, 2, none⟩ = some (.int .i64 0) := HX.out.cell 2
    have x3 : v0.cell? ⟨w.heap.size, 3, none⟩ = some (.int .i64 n) := HX.out.cell 3
    have x4 : v0.cell? ⟨w.heap.size, 4, none⟩ = some (.string (bs [])) := HX.out.cell 4
    go_wp2_with fail
    refine (fields_any op h1 h2 _).mono ?_
    rw [hF]
    rintro er w1 ⟨rfl, hb1⟩
    clear x0 x1 x2 x3 x4
    have HX := Lib.hid (HX.out.call hb1); have HB := Lib.hid (btrans HB.out HB.out.size hb1); clear hb1
    have x0 : w1.cell? ⟨w.heap.size, 0, none⟩ = some (.int .i64 op) := HX.out.cell 0
    have x1 : w1.cell? ⟨w.heap.size, 1, none⟩ = some (.int .i64 0) := HX.out.cell 1
    have x2 : w1.cell? ⟨w.heap.size, 2, none⟩ = some (.int .i64 0) := HX.out.cell 2
    have x3 : w1.cell? ⟨w.heap.size, 3, none⟩ = some (.int .i64 n) := HX.out.cell 3
    have x4 : w1.cell? ⟨w.heap.size, 4, none⟩ = some (.string (bs [])) := HX.out.cell 4
    go_wp2
    go_ret
    exact ⟨rfl, HB.out⟩
  · obtain ⟨hF, hA, hB, hN, hS⟩ := h
    by_cases ea : a = 0
    rotate_left
    · have ta : (a == 0) = false := by rw [beq_eq_false_iff_ne]; exact ea
      have hr : unuS ⟨op, a, b, n, s⟩ = false := by unfold unuS; simp [hA, hB, hN, hS, ea]
      rw [hr]; clear hr hA hB hN hS
      have hb0 := ((Below.refl w.heap.size w).alloc (Nat.le_refl _) (.cells #[.int .i64 op, .int .i64 a, .int .i64 b, .int .i64 n, .string (bs s)] 39))
      have h_HX := (Bx.new w #[.int .i64 op, .int .i64 a, .int .i64 b, .int .i64 n, .string (bs s)] 39)
      have HB := Lib.hid hb0; have HX := Lib.hid h_HX
      clear hb0 h_HX
      go_enter Tryz.func60, Tryz.ntmps60
      go_upto_region 1 with (fail)
      generalize hW0 : w.alloc (.cells #[.int .i64 op, .int .i64 a, .int .i64 b, .int .i64 n, .string (bs s)] 39) = v0 at HB HX ⊢
      clear hW0
      have x0 : v0.cell? ⟨w.heap.size, 0, none⟩ = some (.int .i64 op) := HX.out.cell 0
      have x1 : v0.cell? ⟨w.heap.size, 1, none⟩ = some (.int .i64 a) := HX.out.cell 1
      have x2 : v0.cell? ⟨w.heap.size, 2, none⟩ = some (.int .i64 b) := HX.out.cell 2
      have x3 : v0.cell? ⟨w.heap.size, 3, none⟩ = some (.int .i64 n) := HX.out.cell 3
      have x4 : v0.cell? ⟨w.heap.size, 4, none⟩ = some (.string (bs s)) := HX.out.cell 4
      go_wp2_with fail
      refine (fields_any op h1 h2 _).mono ?_
      rw [hF]
      rintro er w1 ⟨rfl, hb1⟩
      clear x0 x1 x2 x3 x4
      have HX := Lib.hid (HX.out.call hb1); have HB := Lib.hid (btrans HB.out HB.out.size hb1); clear hb1
      have x0 : w1.cell? ⟨w.heap.size, 0, none⟩ = some (.int .i64 op) := HX.out.cell 0
      have x1 : w1.cell? ⟨w.heap.size, 1, none⟩ = some (.int .i64 a) := HX.out.cell 1
      have x2 : w1.cell? ⟨w.heap.size, 2, none⟩ = some (.int .i64 b) := HX.out.cell 2
      have x3 : w1.cell? ⟨w.heap.size, 3, none⟩ = some (.int .i64 n) := HX.out.cell 3
      have x4 : w1.cell? ⟨w.heap.size, 4, none⟩ = some (.string (bs s)) := HX.out.cell 4
      go_wp2
      go_ret
      exact ⟨rfl, HB.out⟩
    subst ea
    by_cases eb : b = 0
    rotate_left
    · have tb : (b == 0) = false := by rw [beq_eq_false_iff_ne]; exact eb
      have hr : unuS ⟨op, 0, b, n, s⟩ = false := by unfold unuS; simp [hA, hB, hN, hS, eb]
      rw [hr]; clear hr hA hB hN hS
      have hb0 := ((Below.refl w.heap.size w).alloc (Nat.le_refl _) (.cells #[.int .i64 op, .int .i64 0, .int .i64 b, .int .i64 n, .string (bs s)] 39))
      have h_HX := (Bx.new w #[.int .i64 op, .int .i64 0, .int .i64 b, .int .i64 n, .string (bs s)] 39)
      have HB := Lib.hid hb0; have HX := Lib.hid h_HX
      clear hb0 h_HX
      go_enter Tryz.func60, Tryz.ntmps60
      go_upto_region 1 with (fail)
      generalize hW0 : w.alloc (.cells #[.int .i64 op, .int .i64 0, .int .i64 b, .int .i64 n, .string (bs s)] 39) = v0 at HB HX ⊢
      clear hW0
      have x0 : v0.cell? ⟨w.heap.size, 0, none⟩ = some (.int .i64 op) := HX.out.cell 0
      have x1 : v0.cell? ⟨w.heap.size, 1, none⟩ = some (.int .i64 0) := HX.out.cell 1
      have x2 : v0.cell? ⟨w.heap.size, 2, none⟩ = some (.int .i64 b) := HX.out.cell 2
      have x3 : v0.cell? ⟨w.heap.size, 3, none⟩ = some (.int .i64 n) := HX.out.cell 3
      have x4 : v0.cell? ⟨w.heap.size, 4, none⟩ = some (.string (bs s)) := HX.out.cell 4
      go_wp2_with fail
      refine (fields_any op h1 h2 _).mono ?_
      rw [hF]
      rintro er w1 ⟨rfl, hb1⟩
      clear x0 x1 x2 x3 x4
      have HX := Lib.hid (HX.out.call hb1); have HB := Lib.hid (btrans HB.out HB.out.size hb1); clear hb1
      have x0 : w1.cell? ⟨w.heap.size, 0, none⟩ = some (.int .i64 op) := HX.out.cell 0
      have x1 : w1.cell? ⟨w.heap.size, 1, none⟩ = some (.int .i64 0) := HX.out.cell 1
      have x2 : w1.cell? ⟨w.heap.size, 2, none⟩ = some (.int .i64 b) := HX.out.cell 2
      have x3 : w1.cell? ⟨w.heap.size, 3, none⟩ = some (.int .i64 n) := HX.out.cell 3
      have x4 : w1.cell? ⟨w.heap.size, 4, none⟩ = some (.string (bs s)) := HX.out.cell 4
      go_wp2
      go_ret
      exact ⟨rfl, HB.out⟩
    subst eb
    by_cases en : n = 0
    rotate_left
    · have tn : (n == 0) = false := by rw [beq_eq_false_iff_ne]; exact en
      have hr : unuS ⟨op, 0, 0, n, s⟩ = false := by unfold unuS; simp [hA, hB, hN, hS, en]
      rw [hr]; clear hr hA hB hN hS
      have hb0 := ((Below.refl w.heap.size w).alloc (Nat.le_refl _) (.cells #[.int .i64 op, .int .i64 0, .int .i64 0, .int .i64 n, .string (bs s)] 39))
      have h_HX := (Bx.new w #[.int .i64 op, .int .i64 0, .int .i64 0, .int .i64 n, .string (bs s)] 39)
      have HB := Lib.hid hb0; have HX := Lib.hid h_HX
      clear hb0 h_HX
      go_enter Tryz.func60, Tryz.ntmps60
      go_upto_region 1 with (fail)
      generalize hW0 : w.alloc (.cells #[.int .i64 op, .int .i64 0, .int .i64 0, .int .i64 n, .string (bs s)] 39) = v0 at HB HX ⊢
      clear hW0
      have x0 : v0.cell? ⟨w.heap.size, 0, none⟩ = some (.int .i64 op) := HX.out.cell 0
      have x1 : v0.cell? ⟨w.heap.size, 1, none⟩ = some (.int .i64 0) := HX.out.cell 1
      have x2 : v0.cell? ⟨w.heap.size, 2, none⟩ = some (.int .i64 0) := HX.out.cell 2
      have x3 : v0.cell? ⟨w.heap.size, 3, none⟩ = some (.int .i64 n) := HX.out.cell 3
      have x4 : v0.cell? ⟨w.heap.size, 4, none⟩ = some (.string (bs s)) := HX.out.cell 4
      go_wp2_with fail
      refine (fields_any op h1 h2 _).mono ?_
      rw [hF]
      rintro er w1 ⟨rfl, hb1⟩
      clear x0 x1 x2 x3 x4
      have HX := Lib.hid (HX.out.call hb1); have HB := Lib.hid (btrans HB.out HB.out.size hb1); clear hb1
      have x0 : w1.cell? ⟨w.heap.size, 0, none⟩ = some (.int .i64 op) := HX.out.cell 0
      have x1 : w1.cell? ⟨w.heap.size, 1, none⟩ = some (.int .i64 0) := HX.out.cell 1
      have x2 : w1.cell? ⟨w.heap.size, 2, none⟩ = some (.int .i64 0) := HX.out.cell 2
      have x3 : w1.cell? ⟨w.heap.size, 3, none⟩ = some (.int .i64 n) := HX.out.cell 3
      have x4 : w1.cell? ⟨w.heap.size, 4, none⟩ = some (.string (bs s)) := HX.out.cell 4
      go_wp2
      go_ret
      exact ⟨rfl, HB.out⟩
    subst en
    have hr : unuS ⟨op, 0, 0, 0, s⟩ = true := by unfold unuS; simp [hA, hB, hN, hS]
    rw [hr]; clear hr hA hB hN hS
    have hb0 := ((Below.refl w.heap.size w).alloc (Nat.le_refl _) (.cells #[.int .i64 op, .int .i64 0, .int .i64 0, .int .i64 0, .string (bs s)] 39))
    have h_HX := (Bx.new w #[.int .i64 op, .int .i64 0, .int .i64 0, .int .i64 0, .string (bs s)] 39)
    have HB := Lib.hid hb0; have HX := Lib.hid h_HX
    clear hb0 h_HX
    go_enter Tryz.func60, Tryz.ntmps60
    go_upto_region 1 with (fail)
    generalize hW0 : w.alloc (.cells #[.int .i64 op, .int .i64 0, .int .i64 0, .int .i64 0, .string (bs s)] 39) = v0 at HB HX ⊢
    clear hW0
    have x0 : v0.cell? ⟨w.heap.size, 0, none⟩ = some (.int .i64 op) := HX.out.cell 0
    have x1 : v0.cell? ⟨w.heap.size, 1, none⟩ = some (.int .i64 0) := HX.out.cell 1
    have x2 : v0.cell? ⟨w.heap.size, 2, none⟩ = some (.int .i64 0) := HX.out.cell 2
    have x3 : v0.cell? ⟨w.heap.size, 3, none⟩ = some (.int .i64 0) := HX.out.cell 3
    have x4 : v0.cell? ⟨w.heap.size, 4, none⟩ = some (.string (bs s)) := HX.out.cell 4
    go_wp2_with fail
    refine (fields_any op h1 h2 _).mono ?_
    rw [hF]
    rintro er w1 ⟨rfl, hb1⟩
    clear x0 x1 x2 x3 x4
    have HX := Lib.hid (HX.out.call hb1); have HB := Lib.hid (btrans HB.out HB.out.size hb1); clear hb1
    have x0 : w1.cell? ⟨w.heap.size, 0, none⟩ = some (.int .i64 op) := HX.out.cell 0
    have x1 : w1.cell? ⟨w.heap.size, 1, none⟩ = some (.int .i64 0) := HX.out.cell 1
    have x2 : w1.cell? ⟨w.heap.size, 2, none⟩ = some (.int .i64 0) := HX.out.cell 2
    have x3 : w1.cell? ⟨w.heap.size, 3, none⟩ = some (.int .i64 0) := HX.out.cell 3
    have x4 : w1.cell? ⟨w.heap.size, 4, none⟩ = some (.string (bs s)) := HX.out.cell 4
    go_wp2
    go_ret
    exact ⟨rfl, HB.out⟩
  · obtain ⟨hF, hA, hB, hN, hS⟩ := h
    by_cases es : s = []
    rotate_left
    · have ts : (s == []) = false := by rw [beq_eq_false_iff_ne]; exact es
      have hr : unuS ⟨op, a, b, n, s⟩ = false := by unfold unuS; simp [hA, hB, hN, hS, es]
      rw [hr]; clear hr hA hB hN hS
      have hb0 := ((Below.refl w.heap.size w).alloc (Nat.le_refl _) (.cells #[.int .i64 op, .int .i64 a, .int .i64 b, .int .i64 n, .string (bs s)] 39))
      have h_HX := (Bx.new w #[.int .i64 op, .int .i64 a, .int .i64 b, .int .i64 n, .string (bs s)] 39)
      have HB := Lib.hid hb0; have HX := Lib.hid h_HX
      clear hb0 h_HX
      go_enter Tryz.func60, Tryz.ntmps60
      go_upto_region 1 with (fail)
      generalize hW0 : w.alloc (.cells #[.int .i64 op, .int .i64 a, .int .i64 b, .int .i64 n, .string (bs s)] 39) = v0 at HB HX ⊢
      clear hW0
      have x0 : v0.cell? ⟨w.heap.size, 0, none⟩ = some (.int .i64 op) := HX.out.cell 0
      have x1 : v0.cell? ⟨w.heap.size, 1, none⟩ = some (.int .i64 a) := HX.out.cell 1
      have x2 : v0.cell? ⟨w.heap.size, 2, none⟩ = some (.int .i64 b) := HX.out.cell 2
      have x3 : v0.cell? ⟨w.heap.size, 3, none⟩ = some (.int .i64 n) := HX.out.cell 3
      have x4 : v0.cell? ⟨w.heap.size, 4, none⟩ = some (.string (bs s)) := HX.out.cell 4
      go_wp2_with fail
      refine (fields_any op h1 h2 _).mono ?_
      rw [hF]
      rintro er w1 ⟨rfl, hb1⟩
      clear x0 x1 x2 x3 x4
      have HX := Lib.hid (HX.out.call hb1); have HB := Lib.hid (btrans HB.out HB.out.size hb1); clear hb1
      have x0 : w1.cell? ⟨w.heap.size, 0, none⟩ = some (.int .i64 op) := HX.out.cell 0
      have x1 : w1.cell? ⟨w.heap.size, 1, none⟩ = some (.int .i64 a) := HX.out.cell 1
      have x2 : w1.cell? ⟨w.heap.size, 2, none⟩ = some (.int .i64 b) := HX.out.cell 2
      have x3 : w1.cell? ⟨w.heap.size, 3, none⟩ = some (.int .i64 n) := HX.out.cell 3
      have x4 : w1.cell? ⟨w.heap.size, 4, none⟩ = some (.string (bs s)) := HX.out.cell 4
      go_wp2
      go_ret
      exact ⟨rfl, HB.out⟩
    subst es
    have hr : unuS ⟨op, a, b, n, []⟩ = true := by unfold unuS; simp [hA, hB, hN, hS]
    rw [hr]; clear hr hA hB hN hS
    have hb0 := ((Below.refl w.heap.size w).alloc (Nat.le_refl _) (.cells #[.int .i64 op, .int .i64 a, .int .i64 b, .int .i64 n, .string (bs [])] 39))
    have h_HX := (Bx.new w #[.int .i64 op, .int .i64 a, .int .i64 b, .int .i64 n, .string (bs [])] 39)
    have HB := Lib.hid hb0; have HX := Lib.hid h_HX
    clear hb0 h_HX
    go_enter Tryz.func60, Tryz.ntmps60
    go_upto_region 1 with (fail)
    generalize hW0 : w.alloc (.cells #[.int .i64 op, .int .i64 a, .int .i64 b, .int .i64 n, .string (bs [])] 39) = v0 at HB HX ⊢
    clear hW0
    have x0 : v0.cell? ⟨w.heap.size, 0, none⟩ = some (.int .i64 op) := HX.out.cell 0
    have x1 : v0.cell? ⟨w.heap.size, 1, none⟩ = some (.int .i64 a) := HX.out.cell 1
    have x2 : v0.cell? ⟨w.heap.size, 2, none⟩ = some (.int .i64 b) := HX.out.cell 2
    have x3 : v0.cell? ⟨w.heap.size, 3, none⟩ = some (.int .i64 n) := HX.out.cell 3
    have x4 : v0.cell? ⟨w.heap.size, 4, none⟩ = some (.string (bs [])) := HX.out.cell 4
    go_wp2_with fail
    refine (fields_any op h1 h2 _).mono ?_
    rw [hF]
    rintro er w1 ⟨rfl, hb1⟩
    clear x0 x1 x2 x3 x4
    have HX := Lib.hid (HX.out.call hb1); have HB := Lib.hid (btrans HB.out HB.out.size hb1); clear hb1
    have x0 : w1.cell? ⟨w.heap.size, 0, none⟩ = some (.int .i64 op) := HX.out.cell 0
    have x1 : w1.cell? ⟨w.heap.size, 1, none⟩ = some (.int .i64 a) := HX.out.cell 1
    have x2 : w1.cell? ⟨w.heap.size, 2, none⟩ = some (.int .i64 b) := HX.out.cell 2
    have x3 : w1.cell? ⟨w.heap.size, 3, none⟩ = some (.int .i64 n) := HX.out.cell 3
    have x4 : w1.cell? ⟨w.heap.size, 4, none⟩ = some (.string (bs [])) := HX.out.cell 4
    go_wp2
    go_ret
    exact ⟨rfl, HB.out⟩
  · obtain ⟨hF, hA, hB, hN, hS⟩ := h
    by_cases eb : b = 0
    rotate_left
    · have tb : (b == 0) = false := by rw [beq_eq_false_iff_ne]; exact eb
      have hr : unuS ⟨op, a, b, n, s⟩ = false := by unfold unuS; simp [hA, hB, hN, hS, eb]
      rw [hr]; clear hr hA hB hN hS
      have hb0 := ((Below.refl w.heap.size w).alloc (Nat.le_refl _) (.cells #[.int .i64 op, .int .i64 a, .int .i64 b, .int .i64 n, .string (bs s)] 39))
      have h_HX := (Bx.new w #[.int .i64 op, .int .i64 a, .int .i64 b, .int .i64 n, .string (bs s)] 39)
      have HB := Lib.hid hb0; have HX := Lib.hid h_HX
      clear hb0 h_HX
      go_enter Tryz.func60, Tryz.ntmps60
      go_upto_region 1 with (fail)
      generalize hW0 : w.alloc (.cells #[.int .i64 op, .int .i64 a, .int .i64 b, .int .i64 n, .string (bs s)] 39) = v0 at HB HX ⊢
      clear hW0
      have x0 : v0.cell? ⟨w.heap.size, 0, none⟩ = some (.int .i64 op) := HX.out.cell 0
      have x1 : v0.cell? ⟨w.heap.size, 1, none⟩ = some (.int .i64 a) := HX.out.cell 1
      have x2 : v0.cell? ⟨w.heap.size, 2, none⟩ = some (.int .i64 b) := HX.out.cell 2
      have x3 : v0.cell? ⟨w.heap.size, 3, none⟩ = some (.int .i64 n) := HX.out.cell 3
      have x4 : v0.cell? ⟨w.heap.size, 4, none⟩ = some (.string (bs s)) := HX.out.cell 4
      go_wp2_with fail
      refine (fields_any op h1 h2 _).mono ?_
      rw [hF]
      rintro er w1 ⟨rfl, hb1⟩
      clear x0 x1 x2 x3 x4
      have HX := Lib.hid (HX.out.call hb1); have HB := Lib.hid (btrans HB.out HB.out.size hb1); clear hb1
      have x0 : w1.cell? ⟨w.heap.size, 0, none⟩ = some (.int .i64 op) := HX.out.cell 0
      have x1 : w1.cell? ⟨w.heap.size, 1, none⟩ = some (.int .i64 a) := HX.out.cell 1
      have x2 : w1.cell? ⟨w.heap.size, 2, none⟩ = some (.int .i64 b) := HX.out.cell 2
      have x3 : w1.cell? ⟨w.heap.size, 3, none⟩ = some (.int .i64 n) := HX.out.cell 3
      have x4 : w1.cell? ⟨w.heap.size, 4, none⟩ = some (.string (bs s)) := HX.out.cell 4
      go_wp2
      go_ret
      exact ⟨rfl, HB.out⟩
    subst eb
    by_cases en : n = 0
    rotate_left
    · have tn : (n == 0) = false := by rw [beq_eq_false_iff_ne]; exact en
      have hr : unuS ⟨op, a, 0, n, s⟩ = false := by unfold unuS; simp [hA, hB, hN, hS, en]
      rw [hr]; clear hr hA hB hN hS
      have hb0 := ((Below.refl w.heap.size w).alloc (Nat.le_refl _) (.cells #[.int .i64 op, .int .i64 a, .int .i64 0, .int .i64 n, .string (bs s)] 39))
      have h_HX := (Bx.new w #[.int .i64 op, .int .i64 a, .int .i64 0, .int .i64 n, .string (bs s)] 39)
      have HB := Lib.hid hb0; have HX := Lib.hid h_HX
      clear hb0 h_HX
      go_enter Tryz.func60, Tryz.ntmps60
      go_upto_region 1 with (fail)
      generalize hW0 : w.alloc (.cells #[.int .i64 op, .int .i64 a, .int .i64 0, .int .i64 n, .string (bs s)] 39) = v0 at HB HX ⊢
      clear hW0
      have x0 : v0.cell? ⟨w.heap.size, 0, none⟩ = some (.int .i64 op) := HX.out.cell 0
      have x1 : v0.cell? ⟨w.heap.size, 1, none⟩ = some (.int .i64 a) := HX.out.cell 1
      have x2 : v0.cell? ⟨w.heap.size, 2, none⟩ = some (.int .i64 0) := HX.out.cell 2
      have x3 : v0.cell? ⟨w.heap.size, 3, none⟩ = some (.int .i64 n) := HX.out.cell 3
      have x4 : v0.cell? ⟨w.heap.size, 4, none⟩ = some (.string (bs s)) := HX.out.cell 4
      go_wp2_with fail
      refine (fields_any op h1 h2 _).mono ?_
      rw [hF]
      rintro er w1 ⟨rfl, hb1⟩
      clear x0 x1 x2 x3 x4
      have HX := Lib.hid (HX.out.call hb1); have HB := Lib.hid (btrans HB.out HB.out.size hb1); clear hb1
      have x0 : w1.cell? ⟨w.heap.size, 0, none⟩ = some (.int .i64 op) := HX.out.cell 0
      have x1 : w1.cell? ⟨w.heap.size, 1, none⟩ = some (.int .i64 a) := HX.out.cell 1
      have x2 : w1.cell? ⟨w.heap.size, 2, none⟩ = some (.int .i64 0) := HX.out.cell 2
      have x3 : w1.cell? ⟨w.heap.size, 3, none⟩ = some (.int .i64 n) := HX.out.cell 3
      have x4 : w1.cell? ⟨w.heap.size, 4, none⟩ = some (.string (bs s)) := HX.out.cell 4
      go_wp2
      go_ret
      exact ⟨rfl, HB.out⟩
    subst en
    by_cases es : s = []
    rotate_left
    · have ts : (s == []) = false := by rw [beq_eq_false_iff_ne]; exact es
      have hr : unuS ⟨op, a, 0, 0, s⟩ = false := by unfold unuS; simp [hA, hB, hN, hS, es]
      rw [hr]; clear hr hA hB hN hS
      have hb0 := ((Below.refl w.heap.size w).alloc (Nat.le_refl _) (.cells #[.int .i64 op, .int .i64 a, .int .i64 0, .int .i64 0, .string (bs s)] 39))
      have h_HX := (Bx.new w #[.int .i64 op, .int .i64 a, .int .i64 0, .int .i64 0, .string (bs s)] 39)
      have HB := Lib.hid hb0; have HX := Lib.hid h_HX
      clear hb0 h_HX
      go_enter Tryz.func60, Tryz.ntmps60
      go_upto_region 1 with (fail)
      generalize hW0 : w.alloc (.cells #[.int .i64 op, .int .i64 a, .int .i64 0, .int .i64 0, .string (bs s)] 39) = v0 at HB HX ⊢
      clear hW0
      have x0 : v0.cell? ⟨w.heap.size, 0, none⟩ = some (.int .i64 op) := HX.out.cell 0
      have x1 : v0.cell? ⟨w.heap.size, 1, none⟩ = some (.int .i64 a) := HX.out.cell 1
      have x2 : v0.cell? ⟨w.heap.size, 2, none⟩ = some (.int .i64 0) := HX.out.cell 2
      have x3 : v0.cell? ⟨w.heap.size, 3, none⟩ = some (.int .i64 0) := HX.out.cell 3
      have x4 : v0.cell? ⟨w.heap.size, 4, none⟩ = some (.string (bs s)) := HX.out.cell 4
      go_wp2_with fail
      refine (fields_any op h1 h2 _).mono ?_
      rw [hF]
      rintro er w1 ⟨rfl, hb1⟩
      clear x0 x1 x2 x3 x4
      have HX := Lib.hid (HX.out.call hb1); have HB := Lib.hid (btrans HB.out HB.out.size hb1); clear hb1
      have x0 : w1.cell? ⟨w.heap.size, 0, none⟩ = some (.int .i64 op) := HX.out.cell 0
      have x1 : w1.cell? ⟨w.heap.size, 1, none⟩ = some (.int .i64 a) := HX.out.cell 1
      have x2 : w1.cell? ⟨w.heap.size, 2, none⟩ = some (.int .i64 0) := HX.out.cell 2
      have x3 : w1.cell? ⟨w.heap.size, 3, none⟩ = some (.int .i64 0) := HX.out.cell 3
      have x4 : w1.cell? ⟨w.heap.size, 4, none⟩ = some (.string (bs s)) := HX.out.cell 4
      go_wp2
      go_ret
      exact ⟨rfl, HB.out⟩
    subst es
    have hr : unuS ⟨op, a, 0, 0, []⟩ = true := by unfold unuS; simp [hA, hB, hN, hS]
    rw [hr]; clear hr hA hB hN hS
    have hb0 := ((Below.refl w.heap.size w).alloc (Nat.le_refl _) (.cells #[.int .i64 op, .int .i64 a, .int .i64 0, .int .i64 0, .string (bs [])] 39))
    have h_HX := (Bx.new w #[.int .i64 op, .int .i64 a, .int .i64 0, .int .i64 0, .string (bs [])] 39)
    have HB := Lib.hid hb0; have HX := Lib.hid h_HX
    clear hb0 h_HX
    go_enter Tryz.func60, Tryz.ntmps60
    go_upto_region 1 with (fail)
    generalize hW0 : w.alloc (.cells #[.int .i64 op, .int .i64 a, .int .i64 0, .int .i64 0, .string (bs [])] 39) = v0 at HB HX ⊢
    clear hW0
    have x0 : v0.cell? ⟨w.heap.size, 0, none⟩ = some (.int .i64 op) := HX.out.cell 0
    have x1 : v0.cell? ⟨w.heap.size, 1, none⟩ = some (.int .i64 a) := HX.out.cell 1
    have x2 : v0.cell? ⟨w.heap.size, 2, none⟩ = some (.int .i64 0) := HX.out.cell 2
    have x3 : v0.cell? ⟨w.heap.size, 3, none⟩ = some (.int .i64 0) := HX.out.cell 3
    have x4 : v0.cell? ⟨w.heap.size, 4, none⟩ = some (.string (bs [])) := HX.out.cell 4
    go_wp2_with fail
    refine (fields_any op h1 h2 _).mono ?_
    rw [hF]
    rintro er w1 ⟨rfl, hb1⟩
    clear x0 x1 x2 x3 x4
    have HX := Lib.hid (HX.out.call hb1); have HB := Lib.hid (btrans HB.out HB.out.size hb1); clear hb1
    have x0 : w1.cell? ⟨w.heap.size, 0, none⟩ = some (.int .i64 op) := HX.out.cell 0
    have x1 : w1.cell? ⟨w.heap.size, 1, none⟩ = some (.int .i64 a) := HX.out.cell 1
    have x2 : w1.cell? ⟨w.heap.size, 2, none⟩ = some (.int .i64 0) := HX.out.cell 2
    have x3 : w1.cell? ⟨w.heap.size, 3, none⟩ = some (.int .i64 0) := HX.out.cell 3
    have x4 : w1.cell? ⟨w.heap.size, 4, none⟩ = some (.string (bs [])) := HX.out.cell 4
    go_wp2
    go_ret
    exact ⟨rfl, HB.out⟩
  · obtain ⟨hF, hA, hB, hN, hS⟩ := h
    by_cases ea : a = 0
    rotate_left
    · have ta : (a == 0) = false := by rw [beq_eq_false_iff_ne]; exact ea
      have hr : unuS ⟨op, a, b, n, s⟩ = false := by unfold unuS; simp [hA, hB, hN, hS, ea]
      rw [hr]; clear hr hA hB hN hS
      have hb0 := ((Below.refl w.heap.size w).alloc (Nat.le_refl _) (.cells #[.int .i64 op, .int .i64 a, .int .i64 b, .int .i64 n, .string (bs s)] 39))
      have h_HX := (Bx.new w #[.int .i64 op, .int .i64 a, .int .i64 b, .int .i64 n, .string (bs s)] 39)
      have HB := Lib.hid hb0; have HX := Lib.hid h_HX
      clear hb0 h_HX
      go_enter Tryz.func60, Tryz.ntmps60
      go_upto_region 1 with (fail)
      generalize hW0 : w.alloc (.cells #[.int .i64 op, .int .i64 a, .int .i64 b, .int .i64 n, .string (bs s)] 39) = v0 at HB HX ⊢
      clear hW0
      have x0 : v0.cell? ⟨w.heap.size, 0, none⟩ = some (.int .i64 op) := HX.out.cell 0
      have x1 : v0.cell? ⟨w.heap.size, 1, none⟩ = some (.int .i64 a) := HX.out.cell 1
      have x2 : v0.cell? ⟨w.heap.size, 2, none⟩ = some (.int .i64 b) := HX.out.cell 2
      have x3 : v0.cell? ⟨w.heap.size, 3, none⟩ = some (.int .i64 n) := HX.out.cell 3
      have x4 : v0.cell? ⟨w.heap.size, 4, none⟩ = some (.string (bs s)) := HX.out.cell 4
      go_wp2_with fail
      refine (fields_any op h1 h2 _).mono ?_
      rw [hF]
      rintro er w1 ⟨rfl, hb1⟩
      clear x0 x1 x2 x3 x4
      have HX := Lib.hid (HX.out.call hb1); have HB := Lib.hid (btrans HB.out HB.out.size hb1); clear hb1
      have x0 : w1.cell? ⟨w.heap.size, 0, none⟩ = some (.int .i64 op) := HX.out.cell 0
      have x1 : w1.cell? ⟨w.heap.size, 1, none⟩ = some (.int .i64 a) := HX.out.cell 1
      have x2 : w1.cell? ⟨w.heap.size, 2, none⟩ = some (.int .i64 b) := HX.out.cell 2
      have x3 : w1.cell? ⟨w.heap.size, 3, none⟩ = some (.int .i64 n) := HX.out.cell 3
      have x4 : w1.cell? ⟨w.heap.size, 4, none⟩ = some (.string (bs s)) := HX.out.cell 4
      go_wp2
      go_ret
      exact ⟨rfl, HB.out⟩
    subst ea
    by_cases eb : b = 0
    rotate_left
    · have tb : (b == 0) = false := by rw [beq_eq_false_iff_ne]; exact eb
      have hr : unuS ⟨op, 0, b, n, s⟩ = false := by unfold unuS; simp [hA, hB, hN, hS, eb]
      rw [hr]; clear hr hA hB hN hS
      have hb0 := ((Below.refl w.heap.size w).alloc (Nat.le_refl _) (.cells #[.int .i64 op, .int .i64 0, .int .i64 b, .int .i64 n, .string (bs s)] 39))
      have h_HX := (Bx.new w #[.int .i64 op, .int .i64 0, .int .i64 b, .int .i64 n, .string (bs s)] 39)
      have HB := Lib.hid hb0; have HX := Lib.hid h_HX
      clear hb0 h_HX
      go_enter Tryz.func60, Tryz.ntmps60
      go_upto_region 1 with (fail)
      generalize hW0 : w.alloc (.cells #[.int .i64 op, .int .i64 0, .int .i64 b, .int .i64 n, .string (bs s)] 39) = v0 at HB HX ⊢
      clear hW0
      have x0 : v0.cell? ⟨w.heap.size, 0, none⟩ = some (.int .i64 op) := HX.out.cell 0
      have x1 : v0.cell? ⟨w.heap.size, 1, none⟩ = some (.int .i64 0) := HX.out.cell 1
      have x2 : v0.cell? ⟨w.heap.size, 2, none⟩ = some (.int .i64 b) := HX.out.cell 2
      have x3 : v0.cell? ⟨w.heap.size, 3, none⟩ = some (.int .i64 n) := HX.out.cell 3
      have x4 : v0.cell? ⟨w.heap.size, 4, none⟩ = some (.string (bs s)) := HX.out.cell 4
      go_wp2_with fail
      refine (fields_any op h1 h2 _).mono ?_
      rw [hF]
      rintro er w1 ⟨rfl, hb1⟩
      clear x0 x1 x2 x3 x4
      have HX := Lib.hid (HX.out.call hb1); have HB := Lib.hid (btrans HB.out HB.out.size hb1); clear hb1
      have x0 : w1.cell? ⟨w.heap.size, 0, none⟩ = some (.int .i64 op) := HX.out.cell 0
      have x1 : w1.cell? ⟨w.heap.size, 1, none⟩ = some (.int .i64 0) := HX.out.cell 1
      have x2 : w1.cell? ⟨w.heap.size, 2, none⟩ = some (.int .i64 b) := HX.out.cell 2
      have x3 : w1.cell? ⟨w.heap.size, 3, none⟩ = some (.int .i64 n) := HX.out.cell 3
      have x4 : w1.cell? ⟨w.heap.size, 4, none⟩ = some (.string (bs s)) := HX.out.cell 4
      go_wp2
      go_ret
      exact ⟨rfl, HB.out⟩
    subst eb
    by_cases en : n = 0
    rotate_left
    · have tn : (n == 0) = false := by rw [beq_eq_false_iff_ne]; exact en
      have hr : unuS ⟨op, 0, 0, n, s⟩ = false := by unfold unuS; simp [hA, hB, hN, hS, en]
      rw [hr]; clear hr hA hB hN hS
      have hb0 := ((Below.refl w.heap.size w).alloc (Nat.le_refl _) (.cells #[.int .i64 op, .int .i64 0, .int .i64 0, .int .i64 n, .string (bs s)] 39))
      have h_HX := (Bx.new w #[.int .i64 op, .int .i64 0, .int .i64 0, .int .i64 n, .string (bs s)] 39)
      have HB := Lib.hid hb0; have HX := Lib.hid h_HX
      clear hb0 h_HX
      go_enter Tryz.func60, Tryz.ntmps60
      go_upto_region 1 with (fail)
      generalize hW0 : w.alloc (.cells #[.int .i64 op, .int .i64 0, .int .i64 0, .int .i64 n, .string (bs s)] 39) = v0 at HB HX ⊢
      clear hW0
      have x0 : v0.cell? ⟨w.heap.size, 0, none⟩ = some (.int .i64 op) := HX.out.cell 0
      have x1 : v0.cell? ⟨w.heap.size, 1, none⟩ = some (.int .i64 0) := HX.out.cell 1
      have x2 : v0.cell? ⟨w.heap.size, 2, none⟩ = some (.int .i64 0) := HX.out.cell 2
      have x3 : v0.cell? ⟨w.heap.size, 3, none⟩ = some (.int .i64 n) := HX.out.cell 3
      have x4 : v0.cell? ⟨w.heap.size, 4, none⟩ = some (.string (bs s)) := HX.out.cell 4
      go_wp2_with fail
      refine (fields_any op h1 h2 _).mono ?_
      rw [hF]
      rintro er w1 ⟨rfl, hb1⟩
      clear x0 x1 x2 x3 x4
      have HX := Lib.hid (HX.out.call hb1); have HB := Lib.hid (btrans HB.out HB.out.size hb1); clear hb1
      have x0 : w1.cell? ⟨w.heap.size, 0, none⟩ = some (.int .i64 op) := HX.out.cell 0
      have x1 : w1.cell? ⟨w.heap.size, 1, none⟩ = some (.int .i64 0) := HX.out.cell 1
      have x2 : w1.cell? ⟨w.heap.size, 2, none⟩ = some (.int .i64 0) := HX.out.cell 2
      have x3 : w1.cell? ⟨w.heap.size, 3, none⟩ = some (.int .i64 n) := HX.out.cell 3
      have x4 : w1.cell? ⟨w.heap.size, 4, none⟩ = some (.string (bs s)) := HX.out.cell 4
      go_wp2
      go_ret
      exact ⟨rfl, HB.out⟩
    subst en
    by_cases es : s = []
    rotate_left
    · have ts : (s == []) = false := by rw [beq_eq_false_iff_ne]; exact es
      have hr : unuS ⟨op, 0, 0, 0, s⟩ = false := by unfold unuS; simp [hA, hB, hN, hS, es]
      rw [hr]; clear hr hA hB hN hS
      have hb0 := ((Below.refl w.heap.size w).alloc (Nat.le_refl _) (.cells #[.int .i64 op, .int .i64 0, .int .i64 0, .int .i64 0, .string (bs s)] 39))
      have h_HX := (Bx.new w #[.int .i64 op, .int .i64 0, .int .i64 0, .int .i64 0, .string (bs s)] 39)
      have HB := Lib.hid hb0; have HX := Lib.hid h_HX
      clear hb0 h_HX
      go_enter Tryz.func60, Tryz.ntmps60
      go_upto_region 1 with (fail)
      generalize hW0 : w.alloc (.cells #[.int .i64 op, .int .i64 0, .int .i64 0, .int .i64 0, .string (bs s)] 39) = v0 at HB HX ⊢
      clear hW0
      have x0 : v0.cell? ⟨w.heap.size, 0, none⟩ = some (.int .i64 op) := HX.out.cell 0
      have x1 : v0.cell? ⟨w.heap.size, 1, none⟩ = some (.int .i64 0) := HX.out.cell 1
      have x2 : v0.cell? ⟨w.heap.size, 2, none⟩ = some (.int .i64 0) := HX.out.cell 2
      have x3 : v0.cell? ⟨w.heap.size, 3, none⟩ = some (.int .i64 0) := HX.out.cell 3
      have x4 : v0.cell? ⟨w.heap.size, 4, none⟩ = some (.string (bs s)) := HX.out.cell 4
      go_wp2_with fail
      refine (fields_any op h1 h2 _).mono ?_
      rw [hF]
      rintro er w1 ⟨rfl, hb1⟩
      clear x0 x1 x2 x3 x4
      have HX := Lib.hid (HX.out.call hb1); have HB := Lib.hid (btrans HB.out HB.out.size hb1); clear hb1
      have x0 : w1.cell? ⟨w.heap.size, 0, none⟩ = some (.int .i64 op) := HX.out.cell 0
      have x1 : w1.cell? ⟨w.heap.size, 1, none⟩ = some (.int .i64 0) := HX.out.cell 1
      have x2 : w1.cell? ⟨w.heap.size, 2, none⟩ = some (.int .i64 0) := HX.out.cell 2
      have x3 : w1.cell? ⟨w.heap.size, 3, none⟩ = some (.int .i64 0) := HX.out.cell 3
      have x4 : w1.cell? ⟨w.heap.size, 4, none⟩ = some (.string (bs s)) := HX.out.cell 4
      go_wp2
      go_ret
      exact ⟨rfl, HB.out⟩
    subst es
    have hr : unuS ⟨op, 0, 0, 0, []⟩ = true := by unfold unuS; simp [hA, hB, hN, hS]
    rw [hr]; clear hr hA hB hN hS
    have hb0 := ((Below.refl w.heap.size w).alloc (Nat.le_refl _) (.cells #[.int .i64 op, .int .i64 0, .int .i64 0, .int .i64 0, .string (bs [])] 39))
    have h_HX := (Bx.new w #[.int .i64 op, .int .i64 0, .int .i64 0, .int .i64 0, .string (bs [])] 39)
    have HB := Lib.hid hb0; have HX := Lib.hid h_HX
    clear hb0 h_HX
    go_enter Tryz.func60, Tryz.ntmps60
    go_upto_region 1 with (fail)
    generalize hW0 : w.alloc (.cells #[.int .i64 op, .int .i64 0, .int .i64 0, .int .i64 0, .string (bs [])] 39) = v0 at HB HX ⊢
    clear hW0
    have x0 : v0.cell? ⟨w.heap.size, 0, none⟩ = some (.int .i64 op) := HX.out.cell 0
    have x1 : v0.cell? ⟨w.heap.size, 1, none⟩ = some (.int .i64 0) := HX.out.cell 1
    have x2 : v0.cell? ⟨w.heap.size, 2, none⟩ = some (.int .i64 0) := HX.out.cell 2
    have x3 : v0.cell? ⟨w.heap.size, 3, none⟩ = some (.int .i64 0) := HX.out.cell 3
    have x4 : v0.cell? ⟨w.heap.size, 4, none⟩ = some (.string (bs [])) := HX.out.cell 4
    go_wp2_with fail
    refine (fields_any op h1 h2 _).mono ?_
    rw [hF]
    rintro er w1 ⟨rfl, hb1⟩
    clear x0 x1 x2 x3 x4
    have HX := Lib.hid (HX.out.call hb1); have HB := Lib.hid (btrans HB.out HB.out.size hb1); clear hb1
    have x0 : w1.cell? ⟨w.heap.size, 0, none⟩ = some (.int .i64 op) := HX.out.cell 0
    have x1 : w1.cell? ⟨w.heap.size, 1, none⟩ = some (.int .i64 0) := HX.out.cell 1
    have x2 : w1.cell? ⟨w.heap.size, 2, none⟩ = some (.int .i64 0) := HX.out.cell 2
    have x3 : w1.cell? ⟨w.heap.size, 3, none⟩ = some (.int .i64 0) := HX.out.cell 3
    have x4 : w1.cell? ⟨w.heap.size, 4, none⟩ = some (.string (bs [])) := HX.out.cell 4
    go_wp2
    go_ret
    exact ⟨rfl, HB.out⟩
end Go.Proofs.YtkmmdkklpbafdaaGreatDoor
