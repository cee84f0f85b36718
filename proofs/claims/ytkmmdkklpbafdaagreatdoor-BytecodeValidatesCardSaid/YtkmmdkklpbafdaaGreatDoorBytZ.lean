/- The walks of Targets and of BytecodeValidates. No conditions. -/
import Derived.Test.YtkmmdkklpbafdaaGreatDoorBytW
import Derived.Test.YtkmmdkklpbafdaaGreatDoorBytS
import Derived.Test.YtkmmdkklpbafdaaGreatDoorBytG
import Derived.Test.YtkmmdkklpbafdaaGreatDoorShelf
import Derived.Lib.OwnBridge
import Derived.Sort.OwnSortedInts
import Derived.Shelf.Slices.In.SortNone
namespace Go.Proofs.YtkmmdkklpbafdaaGreatDoor
open Go.RowKit

open Go.Sort in
theorem below_grownBy {B g : Nat} {w0 w w' : World} (h : Below B w0 w) (hg : w.grownBy w' (some g)) (hB : B ≤ g) (hw : g < w.heap.size) : Below B w0 w' :=
  ⟨hg.os.trans h.os, hg.tape.trans h.tape, hg.output.trans h.output, Nat.le_trans h.size hg.size, fun k hk => (hg.block k (by omega) (by intro e; cases e; omega)).trans (h.block k hk)⟩
open Go.Sort in
theorem sort_row {B g cap : Nat} {w0 w : World} {A : List Int} (ho : w.ownsRow B 3 1 (.slice (some ⟨g, 0, none⟩) A.length cap) A.length (intsL A)) (hb : Below B w0 w) (hA : A.length ≤ 1000000) :
    Calls Tryz.prog 51 #[.slice (some ⟨g, 0, none⟩) A.length cap] w fun e w' => e = .returned (.tuple #[]) ∧ Below B w0 w' ∧ w'.ownsRow B 3 1 (.slice (some ⟨g, 0, none⟩) A.length cap) A.length (intsL (A.mergeSort fun x y => decide (x ≤ y))) := by
  obtain ⟨g2, cap2, he, hbase, hlt, hn, hm, _, hH⟩ := Lib.holds_of_ownsRow (enc := Value.int .i64) (zs := A) ho (by intro h; cases h)
  cases he
  rcases ho.2 with ⟨e0, _⟩ | ⟨g3, cap3, cur, he3, hb3, hg3, hn3, hm3, hs3, ht3⟩
  · cases e0
  cases he3
  refine (Tryz.slices_Sort_int g 0 cap A w hH hlt (by omega)).mono ?_
  rintro e w' ⟨rfl, n, os, rfl⟩
  exact ⟨rfl, below_grownBy hb (Go.grownBy_sortedI _) hbase hlt, Go.ownsRow_sortedI (by simp) hbase hg3 hn hm hs3⟩
theorem upto_le (d : Array Int) : ∀ m, (Lib.compactUpTo d m).length ≤ m
  | 0 => by simp [Lib.compactUpTo]
  | m + 1 => by rw [Lib.compactUpTo_succ, List.length_append]; have := upto_le d m; split <;> simp <;> omega
theorem compact_le (A : List Int) : (Lib.compact A).length ≤ A.length := upto_le _ _
open Go.Sort in
theorem compact_row {B g cap : Nat} {w0 w : World} {A : List Int} {n : Nat} (hl : A.length = n) (ho : w.ownsRow B 3 1 (.slice (some ⟨g, 0, none⟩) n cap) n (intsL A)) (hb : Below B w0 w) (hA : n ≤ 1000000) :
    Calls Tryz.prog 52 #[.slice (some ⟨g, 0, none⟩) n cap] w fun e w' => ∃ v, e = .returned v ∧ CellsAt w' v (Lib.compact A).length (intsL (Lib.compact A)) ∧ Below B w0 w' := by
  subst hl
  obtain ⟨g2, cap2, he, hbase, hlt, hn, hm, _, hH⟩ := Lib.holds_of_ownsRow (enc := Value.int .i64) (zs := A) ho (by intro h; cases h)
  cases he
  refine (Tryz.slices_Compact_int g 0 cap A w hH (by omega) hn).mono ?_
  rintro e w' ⟨rfl, q, rfl⟩
  have hle := compact_le A
  have h := Lib.ownsRow_putRow (q := q) (k := (Lib.compact A).length) (ys := Lib.compact A ++ List.replicate (A.length - (Lib.compact A).length) 0) ho (by rw [List.length_append, List.length_replicate]; omega) hle
  rw [List.take_left] at h
  exact ⟨_, rfl, own_intAt h, Lib.below_putRow hb hbase⟩
def tgtC (c : Cd) : List Int := if valC c = 0 then tgtS c.l else []
theorem cells_none (W : World) : CellsAt W (.slice none 0 0) ([] : List Int).length (intsL []) := ⟨none, 0, rfl, fun hne => absurd rfl hne⟩
theorem tgtC_bad {c : Cd} (h : valC c ≠ 0) : tgtC c = [] := if_neg h
theorem tgtC_ok {c : Cd} (h : valC c = 0) : tgtC c = tgtS c.l := if_pos h
theorem tgtL_yes {l : List Ins} {k : Nat} {x : Ins} {A : List Int} (hk : k < l.length) (hx : l[k] = x) (hj : jmpI x = true) (h : tgtL (l.take k) = A) : tgtL (l.take (k + 1)) = A ++ [x.a] := by
  unfold tgtL at h ⊢; rw [List.take_succ_eq_append_getElem hk, List.filter_append, List.map_append, h, hx]; simp [hj]
theorem tgtL_no {l : List Ins} {k : Nat} {x : Ins} {A : List Int} (hk : k < l.length) (hx : l[k] = x) (hj : jmpI x = false) (h : tgtL (l.take k) = A) : tgtL (l.take (k + 1)) = A := by
  unfold tgtL at h ⊢; rw [List.take_succ_eq_append_getElem hk, List.filter_append, List.map_append, h, hx]; simp [hj]

set_option maxRecDepth 100000 in
set_option maxHeartbeats 16000000 in
theorem Targets_any (pa ia : Option Addr) (pc ic : Nat) (P : List Int) (sl : Int) (l : List Ins) (w : World) (hP : CellsAt w (.slice pa P.length pc) P.length (intsL P)) (hI : CellsAt w (.slice ia l.length ic) l.length (insLs l)) (hp : P.length ≤ 9223372036854775806) (hs : ∀ x ∈ l, x.s.length ≤ 9223372036854775807) (hB : LaidB w) :
    Calls Tryz.prog 23 #[.agg #[.slice pa P.length pc, .int .i64 sl, .slice ia l.length ic]] w fun e w' => ∃ v, e = .returned v ∧ CellsAt w' v (tgtC ⟨P, sl, l⟩).length (intsL (tgtC ⟨P, sl, l⟩)) ∧ Below w.heap.size w w' := by
  obtain ⟨vl, hvl⟩ : ∃ t, valC ⟨P, sl, l⟩ = t := ⟨_, rfl⟩
  obtain ⟨T, hT⟩ : ∃ t, tgtC ⟨P, sl, l⟩ = t := ⟨_, rfl⟩
  rw [hT]
  have HVL := Lib.hid hvl; have HT := Lib.hid hT; have HPA := Lib.hid hP; have HIA := Lib.hid hI; have HLS := Lib.hid hs; have HLB := Lib.hid hB; clear hvl hT hP hI hs hB
  obtain ⟨v0, hW0, hb0, hc0⟩ := boxes1 w #[.slice pa P.length pc, .int .i64 sl, .slice ia l.length ic] 25
  have HW := Lib.hid hW0; have HB := Lib.hid hb0; have HC := Lib.hid hc0; clear hW0 hb0 hc0
  go_enter Tryz.func23, Tryz.ntmps23
  go_upto_region 1 with (fail)
  rw [HW.out]
  clear HW
  obtain ⟨c0, c1, c2⟩ := HC.out.c3
  go_wp2_with fail
  refine (Validate_any pa ia pc ic P sl l _ (HPA.out.below HB.out) (HIA.out.below HB.out) hp HLS.out (HLB.out.below HB.out)).mono ?_
  rw [HVL.out]
  rintro er w1 ⟨rfl, hb1⟩
  clear c0 c1 c2
  have HC := Lib.hid (HC.out.call hb1); have HB := Lib.hid (btrans HB.out HB.out.size hb1); clear hb1
  by_cases hv0 : vl = 0
  rotate_left
  · have tv : (vl != 0) = true := by rw [bne_iff_ne]; exact hv0
    have H1 := Lib.hid (HT.out.symm.trans (tgtC_bad (by rw [HVL.out]; exact hv0)))
    clear hv0
    go_wp2
    go_ret
    exact ⟨_, rfl, by rw [H1.out]; exact cells_none _, HB.out⟩
  have tv : (vl != 0) = false := by rw [hv0]; rfl
  have HOK := Lib.hid (HVL.out.trans hv0); clear hv0
  have H1 := Lib.hid (HT.out.symm.trans (tgtC_ok HOK.out))
  have hll : l.length ≤ 4096 := (valC_parts HOK.out).1
  have HZ := Lib.hid (own_nil w1 w.heap.size 3 1)
  obtain ⟨c0, c1, c2⟩ := HC.out.c3
  go_wp2
  go_loopw [3, 12] (fun v i wr => ∃ (k : Nat) (A : List Int), k ≤ l.length ∧ i = .int .i64 k ∧ A.length ≤ k ∧ Hid (tgtL (l.take k) = A) ∧ Hid (Bx w.heap.size #[.slice pa P.length pc, .int .i64 sl, .slice ia l.length ic] 25 wr) ∧ Hid (wr.ownsRow w.heap.size 3 1 v A.length (intsL A)) ∧ Below w.heap.size w wr) (fun _ i _ => l.length - (intOf i).toNat)
  case atStart => exact ⟨0, [], Nat.zero_le _, rfl, Nat.le_refl _, Lib.hid rfl, HC, HZ, HB.out⟩
  case round =>
    obtain ⟨k, A, hk, rfl, hAk, HQ, HC, HO, hB⟩ := hrel
    clear HZ HB c0 c1 c2
    have HB := Lib.hid hB; clear hB
    obtain ⟨c0, c1, c2⟩ := HC.out.c3
    by_cases hlt : k < l.length
    · have hlt' : (k : Int) < (l.length : Int) := by omega
      have hw1 : IntKind.i64.wrap ((k : Int) + 1) = (k : Int) + 1 := by rw [IntKind.wrap_i64]; omega
      obtain ⟨ba, oa, rfl, p0, p1, p2, p3, p4⟩ := ins_cells (HIA.out.below HB.out) hlt
      obtain ⟨⟨op, a, b, n, s⟩, hxe⟩ : ∃ x, l[k] = x := ⟨_, rfl⟩
      rw [hxe] at p0 p1 p2 p3 p4
      simp only at p0 p1 p2 p3 p4
      have HXE := Lib.hid hxe; clear hxe
      obtain ⟨jm, hjm⟩ : ∃ t, jmpI ⟨op, a, b, n, s⟩ = t := ⟨_, rfl⟩
      have HJM := Lib.hid hjm; clear hjm
      have hal := (Below.refl wr.heap.size wr).alloc (Nat.le_refl _) (.cells #[.int .i64 op, .int .i64 a, .int .i64 b, .int .i64 n, .string (bs s)] 39)
      have HX := Lib.hid (Bx.new wr #[.int .i64 op, .int .i64 a, .int .i64 b, .int .i64 n, .string (bs s)] 39); have HB := Lib.hid (btrans HB.out HB.out.size hal); have HC := Lib.hid (HC.out.call hal); have HO := Lib.hid (own_below HO.out hal); clear hal
      go_upto_region 7 with (fail)
      clear p0 p1 p2 p3 p4 c0 c1 c2
      generalize hW : wr.alloc (.cells #[.int .i64 op, .int .i64 a, .int .i64 b, .int .i64 n, .string (bs s)] 39) = v1 at HX HB HC HO ⊢
      clear hW
      obtain ⟨x0, x1, x2, x3, x4⟩ := HX.out.c5
      go_wp2_with fail
      have hcl := jumps_any ⟨op, a, b, n, s⟩
      simp only [insV] at hcl
      refine (hcl _).mono ?_
      rw [HJM.out]
      clear hcl
      rintro er w2 ⟨rfl, hb2⟩
      clear x0 x1 x2 x3 x4
      have HX := Lib.hid (HX.out.call hb2); have HC := Lib.hid (HC.out.call hb2); have HO := Lib.hid (own_below HO.out hb2); have HB := Lib.hid (btrans HB.out HB.out.size hb2); clear hb2
      cases jm with
      | false =>
        have HN := Lib.hid (tgtL_no hlt HXE.out HJM.out HQ.out)
        go_wp2
        go_roundw
        case rel => exact ⟨k + 1, A, by omega, by go_num, by omega, HN, HC, HO, HB.out⟩
        case measure => simp [intOf]; omega
      | true =>
        have HN := Lib.hid (tgtL_yes hlt HXE.out HJM.out HQ.out)
        obtain ⟨x0, x1, x2, x3, x4⟩ := HX.out.c5
        go_upto_region 9 with (at_builtin; refine wpList_append_int rfl _ _ rfl w.heap.size _ A a HO.out rfl rfl (by omega) w w.heap.size HB.out HB.out.size (Nat.le_refl _) ?_; intro v5 w5 hown5 hb5 hg5; have HC := Lib.hid (HC.out.grown hg5 HO.out (by decide)); have HB := Lib.hid hb5; have HO := Lib.hid hown5; clear x0 x1 x2 x3 x4 hg5 hb5 hown5)
        go_wp2
        go_roundw
        case rel => exact ⟨k + 1, A ++ [a], by omega, by go_num, by rw [List.length_append]; show A.length + 1 ≤ _; omega, HN, HC, HO, HB.out⟩
        case measure => simp [intOf]; omega
    · have hlt' : ¬ (k : Int) < (l.length : Int) := by omega
      have h2 := HQ.out
      rw [List.take_of_length_le (by omega)] at h2
      have H2 := Lib.hid h2; clear h2
      rcases own_form HO.out with ⟨rfl, h0⟩ | ⟨g, cap, rfl, hcap, hbg⟩
      · have hA : A = [] := List.eq_nil_of_length_eq_zero h0
        have HF := Lib.hid (show T = [] by rw [H1.out]; show Lib.compact ((tgtL l).mergeSort _) = []; rw [H2.out, hA, List.mergeSort_nil]; rfl)
        clear hA h0
        go_wp2_with fail
        refine (Any.slices_Sort_int_none Tryz.lays189 none 0 _).mono ?_
        rintro er w3 ⟨rfl, rfl⟩
        go_wp2_with fail
        refine (Tryz.slices_Compact_int_empty none 0 _).mono ?_
        rintro er w4 ⟨rfl, rfl⟩
        go_wp2
        go_ret
        exact ⟨_, rfl, by rw [HF.out]; exact cells_none _, HB.out⟩
      · have HF := Lib.hid (show T = Lib.compact (A.mergeSort fun x y => decide (x ≤ y)) by rw [H1.out]; show Lib.compact ((tgtL l).mergeSort _) = _; rw [H2.out])
        clear hcap hbg
        go_wp2_with fail
        refine (sort_row HO.out HB.out (by omega)).mono ?_
        rintro er w3 ⟨rfl, hb3, ho3⟩
        have HB := Lib.hid hb3; have HO := Lib.hid ho3; clear hb3 ho3
        go_wp2_with fail
        refine (compact_row (List.length_mergeSort _) HO.out HB.out (by omega)).mono ?_
        rintro er w4 ⟨v4, rfl, hc4, hb4⟩
        have HB := Lib.hid hb4; have HV4 := Lib.hid hc4; clear hb4 hc4
        go_wp2
        go_ret
        exact ⟨_, rfl, by rw [HF.out]; exact HV4.out, HB.out⟩
theorem hasT_at {l : List Ins} {k : Nat} {x : Ins} {f : Bool} {t : Int} (hk : k < l.length) (hx : l[k] = x) (h : hasT (l.take k) t = f) : hasT (l.take (k + 1)) t = (f || (jmpI x && decide (x.a = t))) := by
  unfold hasT at h ⊢; rw [List.take_succ_eq_append_getElem hk, List.any_append, h, hx]; simp
theorem tgtR_yes {l : List Ins} {k : Nat} {A : List Int} (h : tgtR k l = A) (hf : hasT l (k : Int) = true) : tgtR (k + 1) l = A ++ [(k : Int)] := by unfold tgtR; rw [h, if_pos hf]
theorem tgtR_no {l : List Ins} {k : Nat} {A : List Int} (h : tgtR k l = A) (hf : hasT l (k : Int) = false) : tgtR (k + 1) l = A := by unfold tgtR; rw [h, if_neg (by rw [hf]; simp), List.append_nil]
theorem tgtC_len (c : Cd) : (tgtC c).length ≤ c.l.length := by
  unfold tgtC
  split
  · unfold tgtS; exact Nat.le_trans (compact_le _) (by rw [List.length_mergeSort]; unfold tgtL; rw [List.length_map]; exact List.length_filter_le _ _)
  · exact Nat.zero_le _
theorem tgtC_ref {c : Cd} (h : valC c = 0) : tgtC c = tgtR c.l.length c.l := (if_pos h).trans (tgt_eq h)

set_option maxRecDepth 100000 in
set_option maxHeartbeats 16000000 in
theorem RTargets_any (pa ia : Option Addr) (pc ic : Nat) (P : List Int) (sl : Int) (l : List Ins) (w : World) (hP : CellsAt w (.slice pa P.length pc) P.length (intsL P)) (hI : CellsAt w (.slice ia l.length ic) l.length (insLs l)) (hp : P.length ≤ 9223372036854775806) (hs : ∀ x ∈ l, x.s.length ≤ 9223372036854775807) :
    Calls Tryz.prog 24 #[.agg #[.slice pa P.length pc, .int .i64 sl, .slice ia l.length ic]] w fun e w' => ∃ v, e = .returned v ∧ CellsAt w' v (tgtC ⟨P, sl, l⟩).length (intsL (tgtC ⟨P, sl, l⟩)) ∧ Below w.heap.size w w' := by
  obtain ⟨vl, hvl⟩ : ∃ t, valC ⟨P, sl, l⟩ = t := ⟨_, rfl⟩
  obtain ⟨T, hT⟩ : ∃ t, tgtC ⟨P, sl, l⟩ = t := ⟨_, rfl⟩
  rw [hT]
  have HVL := Lib.hid hvl; have HT := Lib.hid hT; have HPA := Lib.hid hP; have HIA := Lib.hid hI; have HLS := Lib.hid hs; clear hvl hT hP hI hs
  obtain ⟨v0, hW0, hb0, hc0⟩ := boxes1 w #[.slice pa P.length pc, .int .i64 sl, .slice ia l.length ic] 25
  have HW := Lib.hid hW0; have HB := Lib.hid hb0; have HC := Lib.hid hc0; clear hW0 hb0 hc0
  go_enter Tryz.func24, Tryz.ntmps24
  go_upto_region 1 with (fail)
  rw [HW.out]
  clear HW
  obtain ⟨c0, c1, c2⟩ := HC.out.c3
  go_wp2_with fail
  refine (RValidate_any pa ia pc ic P sl l _ (HPA.out.below HB.out) (HIA.out.below HB.out) hp HLS.out).mono ?_
  rw [HVL.out]
  rintro er w1 ⟨rfl, hb1⟩
  clear c0 c1 c2
  have HC := Lib.hid (HC.out.call hb1); have HB := Lib.hid (btrans HB.out HB.out.size hb1); clear hb1
  by_cases hv0 : vl = 0
  rotate_left
  · have tv : (vl != 0) = true := by rw [bne_iff_ne]; exact hv0
    have H1 := Lib.hid (HT.out.symm.trans (tgtC_bad (by rw [HVL.out]; exact hv0)))
    clear hv0
    go_wp2
    go_ret
    exact ⟨_, rfl, by rw [H1.out]; exact cells_none _, HB.out⟩
  have tv : (vl != 0) = false := by rw [hv0]; rfl
  have HOK := Lib.hid (HVL.out.trans hv0); clear hv0
  have H1 := Lib.hid (HT.out.symm.trans (tgtC_ref HOK.out))
  have hll : l.length ≤ 4096 := (valC_parts HOK.out).1
  have HZ := Lib.hid (own_nil w1 w.heap.size 3 1)
  obtain ⟨c0, c1, c2⟩ := HC.out.c3
  go_wp2
  go_loopw [3, 4] (fun v i wr => ∃ (k : Nat) (A : List Int), k ≤ l.length ∧ i = .int .i64 k ∧ A.length ≤ k ∧ Hid (tgtR k l = A) ∧ Hid (Bx w.heap.size #[.slice pa P.length pc, .int .i64 sl, .slice ia l.length ic] 25 wr) ∧ Hid (wr.ownsRow w.heap.size 3 1 v A.length (intsL A)) ∧ Below w.heap.size w wr) (fun _ i _ => l.length - (intOf i).toNat)
  case atStart => exact ⟨0, [], Nat.zero_le _, rfl, Nat.le_refl _, Lib.hid rfl, HC, HZ, HB.out⟩
  case round =>
    obtain ⟨k, A, hk, rfl, hAk, HQ, HC, HO, hB⟩ := hrel
    clear HZ HB c0 c1 c2
    have HB := Lib.hid hB; clear hB
    obtain ⟨c0, c1, c2⟩ := HC.out.c3
    by_cases hlt : k < l.length
    · have hlt' : (k : Int) < (l.length : Int) := by omega
      have hw1 : IntKind.i64.wrap ((k : Int) + 1) = (k : Int) + 1 := by rw [IntKind.wrap_i64]; omega
      go_wp2
      go_loopw [5, 6] (fun s5 s6 wi => ∃ (j : Nat) (f : Bool), j ≤ l.length ∧ s5 = .bool f ∧ s6 = .int .i64 j ∧ Hid (hasT (l.take j) (k : Int) = f) ∧ Hid (Bx w.heap.size #[.slice pa P.length pc, .int .i64 sl, .slice ia l.length ic] 25 wi) ∧ Hid (wi.ownsRow w.heap.size 3 1 u3 A.length (intsL A)) ∧ Below w.heap.size w wi) (fun _ i _ => l.length - (intOf i).toNat)
      case atStart => exact ⟨0, false, Nat.zero_le _, rfl, rfl, Lib.hid rfl, HC, HO, HB.out⟩
      case round =>
        obtain ⟨j, f, hj, rfl, rfl, HJ, HC, HO, hB⟩ := hrel
        clear HB c0 c1 c2
        have HB := Lib.hid hB; clear hB
        obtain ⟨c0, c1, c2⟩ := HC.out.c3
        by_cases hjt : j < l.length
        · have hjt' : (j : Int) < (l.length : Int) := by omega
          have hw2 : IntKind.i64.wrap ((j : Int) + 1) = (j : Int) + 1 := by rw [IntKind.wrap_i64]; omega
          obtain ⟨ba, oa, rfl, p0, p1, p2, p3, p4⟩ := ins_cells (HIA.out.below HB.out) hjt
          obtain ⟨⟨op, a, b, n, s⟩, hxe⟩ : ∃ x, l[j] = x := ⟨_, rfl⟩
          rw [hxe] at p0 p1 p2 p3 p4
          simp only at p0 p1 p2 p3 p4
          have HXE := Lib.hid hxe; clear hxe
          have HN0 := Lib.hid (hasT_at hjt HXE.out HJ.out)
          have hal := (Below.refl wr.heap.size wr).alloc (Nat.le_refl _) (.cells #[.int .i64 op, .int .i64 a, .int .i64 b, .int .i64 n, .string (bs s)] 39)
          have HX := Lib.hid (Bx.new wr #[.int .i64 op, .int .i64 a, .int .i64 b, .int .i64 n, .string (bs s)] 39); have HB := Lib.hid (btrans HB.out HB.out.size hal); have HC := Lib.hid (HC.out.call hal); have HO := Lib.hid (own_below HO.out hal); clear hal
          go_upto_region 12 with (fail)
          clear p0 p1 p2 p3 p4 c0 c1 c2
          generalize hW : wr.alloc (.cells #[.int .i64 op, .int .i64 a, .int .i64 b, .int .i64 n, .string (bs s)] 39) = v1 at HX HB HC HO ⊢
          clear hW
          obtain ⟨x0, x1, x2, x3, x4⟩ := HX.out.c5
          cases f with
          | true =>
            have HN := Lib.hid (HN0.out.trans (show (true || (jmpI ⟨op, a, b, n, s⟩ && decide (a = (k : Int)))) = true from Bool.true_or _))
            clear HN0 HJ HXE
            go_wp2
            go_roundw
            case rel => exact ⟨j + 1, true, by omega, rfl, by go_num, HN, HC, HO, HB.out⟩
            case measure => simp [intOf]; omega
          | false =>
            by_cases e6 : op = 6
            · have t6 : (op == 6) = true := by rw [e6]; rfl
              by_cases ea : a = (k : Int)
              · have ta : (a == (k : Int)) = true := by rw [ea]; exact beq_self_eq_true _
                have HN := Lib.hid (HN0.out.trans (show (false || (jmpI ⟨op, a, b, n, s⟩ && decide (a = (k : Int)))) = true from by unfold jmpI; simp [e6, ea]))
                clear HN0 HJ HXE
                go_wp2
                go_roundw
                case rel => exact ⟨j + 1, true, by omega, rfl, by go_num, HN, HC, HO, HB.out⟩
                case measure => simp [intOf]; omega
              have ta : (a == (k : Int)) = false := by rw [beq_eq_false_iff_ne]; exact ea
              have HN := Lib.hid (HN0.out.trans (show (false || (jmpI ⟨op, a, b, n, s⟩ && decide (a = (k : Int)))) = false from by simp [ea]))
              clear HN0 HJ HXE
              go_wp2
              go_roundw
              case rel => exact ⟨j + 1, false, by omega, rfl, by go_num, HN, HC, HO, HB.out⟩
              case measure => simp [intOf]; omega
            have t6 : (op == 6) = false := by rw [beq_eq_false_iff_ne]; exact e6
            by_cases e7 : op = 7
            · have t7 : (op == 7) = true := by rw [e7]; rfl
              by_cases ea : a = (k : Int)
              · have ta : (a == (k : Int)) = true := by rw [ea]; exact beq_self_eq_true _
                have HN := Lib.hid (HN0.out.trans (show (false || (jmpI ⟨op, a, b, n, s⟩ && decide (a = (k : Int)))) = true from by unfold jmpI; simp [e7, ea]))
                clear HN0 HJ HXE
                go_wp2
                go_roundw
                case rel => exact ⟨j + 1, true, by omega, rfl, by go_num, HN, HC, HO, HB.out⟩
                case measure => simp [intOf]; omega
              have ta : (a == (k : Int)) = false := by rw [beq_eq_false_iff_ne]; exact ea
              have HN := Lib.hid (HN0.out.trans (show (false || (jmpI ⟨op, a, b, n, s⟩ && decide (a = (k : Int)))) = false from by simp [ea]))
              clear HN0 HJ HXE
              go_wp2
              go_roundw
              case rel => exact ⟨j + 1, false, by omega, rfl, by go_num, HN, HC, HO, HB.out⟩
              case measure => simp [intOf]; omega
            have t7 : (op == 7) = false := by rw [beq_eq_false_iff_ne]; exact e7
            have HN := Lib.hid (HN0.out.trans (show (false || (jmpI ⟨op, a, b, n, s⟩ && decide (a = (k : Int)))) = false from by unfold jmpI; simp [e6, e7]))
            clear HN0 HJ HXE
            go_wp2
            go_roundw
            case rel => exact ⟨j + 1, false, by omega, rfl, by go_num, HN, HC, HO, HB.out⟩
            case measure => simp [intOf]; omega
        · have hjt' : ¬ (j : Int) < (l.length : Int) := by omega
          have h2 := HJ.out
          rw [List.take_of_length_le (by omega)] at h2
          have HF := Lib.hid h2; clear h2 HJ
          cases f with
          | false =>
            have HN := Lib.hid (tgtR_no HQ.out HF.out)
            go_wp2
            go_roundw
            case rel => exact ⟨k + 1, A, by omega, by go_num, by omega, HN, HC, HO, HB.out⟩
            case measure => simp [intOf]; omega
          | true =>
            have HN := Lib.hid (tgtR_yes HQ.out HF.out)
            go_wp2_with (at_builtin; refine wpList_append_int rfl _ _ rfl w.heap.size _ A (k : Int) HO.out rfl rfl (by omega) w w.heap.size HB.out HB.out.size (Nat.le_refl _) ?_; intro v5 w5 hown5 hb5 hg5; have HC := Lib.hid (HC.out.grown hg5 HO.out (by decide)); have HB := Lib.hid hb5; have HO := Lib.hid hown5; clear c0 c1 c2 hg5 hb5 hown5)
            obtain ⟨c0, c1, c2⟩ := HC.out.c3
            go_wp2
            go_roundw
            case rel => exact ⟨k + 1, A ++ [(k : Int)], by omega, by go_num, by rw [List.length_append]; show A.length + 1 ≤ _; omega, HN, HC, HO, HB.out⟩
            case measure => simp [intOf]; omega
    · have hlt' : ¬ (k : Int) < (l.length : Int) := by omega
      have hkl : k = l.length := by omega
      have HF := Lib.hid (show T = A by rw [H1.out, ← HQ.out, hkl])
      clear hkl
      go_wp2
      go_ret
      exact ⟨_, rfl, by rw [HF.out]; exact own_intAt HO.out, HB.out⟩
set_option maxRecDepth 100000 in
set_option maxHeartbeats 16000000 in
theorem validWalk16 (pa ia : Option Addr) (pc ic : Nat) (P : List Int) (sl : Int) (l : List Ins) {w : World} (hP : CellsAt w (.slice pa P.length pc) P.length (intsL P)) (hI : CellsAt w (.slice ia l.length ic) l.length (insLs l)) (_ : ∀ x ∈ l, InsN x) (hB : LaidB w) :
    Calls Tryz.prog 9 #[.agg #[.slice pa P.length pc, .int .i64 sl, .slice ia l.length ic]] w fun e w' => e = .returned (.bool true) ∧ Below w.heap.size w w' := by
  obtain ⟨fv, hfv⟩ : ∃ t, fewS ⟨P, sl, l⟩ = t := ⟨_, rfl⟩
  obtain ⟨vl, hvl⟩ : ∃ t, valC ⟨P, sl, l⟩ = t := ⟨_, rfl⟩
  obtain ⟨T, hT⟩ : ∃ t, tgtC ⟨P, sl, l⟩ = t := ⟨_, rfl⟩
  have HFV := Lib.hid hfv; have HVL := Lib.hid hvl; have HT := Lib.hid hT; have HPA := Lib.hid hP; have HIA := Lib.hid hI; have HLB := Lib.hid hB; clear hfv hvl hT hP hI hB
  obtain ⟨v0, hW0, hb0, hc0⟩ := boxes1 w #[.slice pa P.length pc, .int .i64 sl, .slice ia l.length ic] 25
  have HW := Lib.hid hW0; have HB := Lib.hid hb0; have HC := Lib.hid hc0; clear hW0 hb0 hc0
  go_enter Tryz.func9, Tryz.ntmps9
  go_upto_region 1 with (fail)
  rw [HW.out]
  clear HW
  obtain ⟨c0, c1, c2⟩ := HC.out.c3
  go_wp2_with fail
  refine (Few_any pa ia pc ic P sl l _ (HIA.out.below HB.out)).mono ?_
  rw [HFV.out]
  rintro er w1 ⟨rfl, hb1⟩
  clear c0 c1 c2
  have HC := Lib.hid (HC.out.call hb1); have HB := Lib.hid (btrans HB.out HB.out.size hb1); clear hb1
  cases fv with
  | false =>
    go_wp2_with fail
    refine (lives16 _ (HLB.out.below HB.out)).mono ?_
    rintro er wl ⟨rfl, hbl⟩
    have HB := Lib.hid (btrans HB.out HB.out.size hbl)
    go_wp2
    go_ret
    exact ⟨rfl, HB.out⟩
  | true =>
    obtain ⟨hl80, hp80, hls⟩ := few_parts HFV.out
    simp only at hl80 hp80 hls
    have HLS := Lib.hid (show ∀ x ∈ l, x.s.length ≤ 9223372036854775807 from fun x hx => by have := hls x hx; omega); clear hls
    obtain ⟨c0, c1, c2⟩ := HC.out.c3
    go_wp2_with fail
    refine (Targets_any pa ia pc ic P sl l _ (HPA.out.below HB.out) (HIA.out.below HB.out) (by omega) HLS.out (HLB.out.below HB.out)).mono ?_
    rw [HT.out]
    rintro er w2 ⟨v3, rfl, hc3, hb2⟩
    clear c0 c1 c2
    have HC := Lib.hid (HC.out.call hb2); have HB := Lib.hid (btrans HB.out HB.out.size hb2); clear hb2
    have HV3 := Lib.hid hc3; clear hc3
    obtain ⟨c0, c1, c2⟩ := HC.out.c3
    go_wp2_with fail
    refine (RTargets_any pa ia pc ic P sl l _ (HPA.out.below HB.out) (HIA.out.below HB.out) (by omega) HLS.out).mono ?_
    rw [HT.out]
    rintro er w3 ⟨v4, rfl, hc4, hb3⟩
    clear c0 c1 c2
    have HV3 := Lib.hid (HV3.out.below hb3)
    have HC := Lib.hid (HC.out.call hb3); have HB := Lib.hid (btrans HB.out HB.out.size hb3); clear hb3
    have hTl : T.length ≤ l.length := by rw [← HT.out]; exact tgtC_len _
    have HV4 := Lib.hid hc4; clear hc4
    obtain ⟨a3, k3, rfl, -⟩ := id HV3.out
    obtain ⟨a4, k4, rfl, -⟩ := id HV4.out
    have tT : ((T.length : Int) != (T.length : Int)) = false := by simp
    go_wp2
    go_loopw [5] (fun s5 wr => ∃ k : Nat, k ≤ T.length ∧ s5 = .int .i64 k ∧ Hid (CellsAt wr (.slice a3 T.length k3) T.length (intsL T)) ∧ Hid (CellsAt wr (.slice a4 T.length k4) T.length (intsL T)) ∧ Hid (Bx w.heap.size #[.slice pa P.length pc, .int .i64 sl, .slice ia l.length ic] 25 wr) ∧ Below w.heap.size w wr) (fun i _ => T.length - (intOf i).toNat)
    case atStart => exact ⟨0, Nat.zero_le _, rfl, HV3, HV4, HC, HB.out⟩
    case round =>
      obtain ⟨k, hk, rfl, HV3, HV4, HC, hB⟩ := hrel
      clear HB
      have HB := Lib.hid hB; clear hB
      by_cases hlt : k < T.length
      · have hlt' : (k : Int) < (T.length : Int) := by omega
        have hkb : (0 : Int) ≤ (k : Int) ∧ (k : Int) < (T.length : Int) := ⟨by omega, by omega⟩
        have hw1 : IntKind.i64.wrap ((k : Int) + 1) = (k : Int) + 1 := by rw [IntKind.wrap_i64]; omega
        obtain ⟨b3, o3, he3, p3⟩ := int_cells HV3.out hlt
        obtain ⟨b4, o4, he4, p4⟩ := int_cells HV4.out hlt
        cases he3; cases he4
        obtain ⟨t, ht⟩ : ∃ t, T[k] = t := ⟨_, rfl⟩
        rw [ht] at p3 p4
        have tt : (t != t) = false := by simp
        clear ht
        go_wp2
        go_region
        go_wp2
        have hbd : Below wr.heap.size wr wr.drew := (Below.refl wr.heap.size wr).drew
        have HV3 := Lib.hid (HV3.out.below hbd); have HV4 := Lib.hid (HV4.out.below hbd); have HC := Lib.hid (HC.out.call hbd); have HB := Lib.hid (btrans HB.out HB.out.size hbd)
        go_roundw
        case rel => exact ⟨k + 1, by omega, by go_num, HV3, HV4, HC, HB.out⟩
        case measure => simp [intOf]; omega
      · have hlt' : ¬ (k : Int) < (T.length : Int) := by omega
        have tv : (vl == vl) = true := beq_self_eq_true _
        have hs0 : Bx w.heap.size #[.slice pa P.length pc, .int .i64 sl, .slice ia l.length ic] 25 wr.drew := HC.out
        have HS0 := Lib.hid hs0; clear hs0
        go_wp2_with fail
        refine wp_region_held_drew (S := (fun w' => Bx w.heap.size #[.slice pa P.length pc, .int .i64 sl, .slice ia l.length ic] 25 w')) (by kernel_rfl) ?_ (fun hHeld => ?_)
        · exact HS0.out
        refine takeH (i := 0) (v := ?vv1) 34 rfl rfl (by kernel_rfl) (by kernel_rfl) (by kernel_rfl) (fun _ _ _ h => h) (Or.inl ⟨by kernel_rfl, ?yy1⟩) (by assumption) ?_
        case yy1 =>
          intro wq hSw
          obtain ⟨y0, y1, y2⟩ := Bx.c3 hSw
          clear hSw
          go_simp
          (try with_reducible rfl)
        simp only [List.setIfInBounds_toArray, List.set_cons_zero, List.set_cons_succ]
        refine takeH (i := 2) (v := ?vv2) 36 rfl rfl (by kernel_rfl) (by kernel_rfl) (by kernel_rfl) (fun _ _ _ h => h) (Or.inl ⟨by kernel_rfl, ?yy2⟩) (by assumption) ?_
        case yy2 =>
          intro wq hSw
          obtain ⟨y0, y1, y2⟩ := Bx.c3 hSw
          clear hSw
          go_simp
          (try with_reducible rfl)
        simp only [List.setIfInBounds_toArray, List.set_cons_zero, List.set_cons_succ]
        have hc0 : Below wr.heap.size wr wr.drew := (Below.refl wr.heap.size wr).drew
        have H0 := Lib.hid (btrans HB.out HB.out.size hc0); clear hc0
        refine wpAnyH_ready (rs := [1]) (by kernel_rfl) (by simp) ?_
        refine (AllReadyH.cons rfl (fun K hK => ?_) AllReadyH.nil)
        go_simp
        (refine (Validate_any pa ia pc ic P sl l _ (HPA.out.below H0.out) (HIA.out.below H0.out) (by omega) HLS.out (HLB.out.below H0.out)).mono ?_; rw [HVL.out]; rintro er u1 ⟨rfl, hb1⟩)
        (try go_wp2_with fail)
        refine hK.out _ _ ?_ (fun hHeld => ?_)
        · exact hHeld.call hb1
        clear hK K
        (try simp only [Act.put, List.setIfInBounds_toArray, List.set_cons_zero, List.set_cons_succ])
        have H1 := Lib.hid (btrans H0.out H0.out.size hb1); clear hb1
        refine wpAnyH_ready (rs := [3]) (by kernel_rfl) (by simp) ?_
        refine (AllReadyH.cons rfl (fun K hK => ?_) AllReadyH.nil)
        go_simp
        (refine (RValidate_any pa ia pc ic P sl l _ (HPA.out.below H1.out) (HIA.out.below H1.out) (by omega) HLS.out).mono ?_; rw [HVL.out]; rintro er u2 ⟨rfl, hb2⟩)
        (try go_wp2_with fail)
        refine hK.out _ _ ?_ (fun hHeld => ?_)
        · exact hHeld.call hb2
        clear hK K
        (try simp only [Act.put, List.setIfInBounds_toArray, List.set_cons_zero, List.set_cons_succ])
        have H2 := Lib.hid (btrans H1.out H1.out.size hb2); clear hb2
        refine takeH (i := 4) (v := ?vv3) 38 rfl rfl (by kernel_rfl) (by kernel_rfl) (by kernel_rfl) (fun _ _ _ h => h) (Or.inl ⟨by kernel_rfl, ?yy3⟩) (by assumption) ?_
        case yy3 => intro w hSw; (try dsimp only at hSw); go_simp; (try with_reducible rfl)
        simp only [List.setIfInBounds_toArray, List.set_cons_zero, List.set_cons_succ]
        refine takeH (i := 5) (v := ?vv4) 39 rfl rfl (by kernel_rfl) (by kernel_rfl) (by kernel_rfl) (fun _ _ _ h => h) (Or.inl ⟨by kernel_rfl, ?yy4⟩) (by assumption) ?_
        case yy4 => intro w hSw; (try dsimp only at hSw); go_simp; (try with_reducible rfl)
        simp only [List.setIfInBounds_toArray, List.set_cons_zero, List.set_cons_succ]
        refine wpAnyH_ready (rs := [6]) (by kernel_rfl) (by simp) ?_
        refine (AllReadyH.cons rfl (fun K hK => ?_) AllReadyH.nil)
        go_simp
        (refine (lives16 _ (HLB.out.below H2.out)).mono ?_; rintro er u3 ⟨rfl, hb3⟩)
        (try go_wp2_with fail)
        refine hK.out _ _ ?_ (fun hHeld => ?_)
        · exact hHeld.call hb3
        clear hK K
        (try simp only [Act.put, List.setIfInBounds_toArray, List.set_cons_zero, List.set_cons_succ])
        have H3 := Lib.hid (btrans H2.out H2.out.size hb3); clear hb3
        refine takeH (i := 7) (v := ?vv5) 41 rfl rfl (by kernel_rfl) (by kernel_rfl) (by kernel_rfl) (fun _ _ _ h => h) (Or.inl ⟨by kernel_rfl, ?yy5⟩) (by assumption) ?_
        case yy5 => intro w hSw; (try dsimp only at hSw); go_simp; (try with_reducible rfl)
        simp only [List.setIfInBounds_toArray, List.set_cons_zero, List.set_cons_succ]
        refine takeH (i := 8) (v := ?vv6) 2 rfl rfl (by kernel_rfl) (by kernel_rfl) (by kernel_rfl) (fun _ _ _ h => h) (Or.inl ⟨by kernel_rfl, ?yy6⟩) (by assumption) ?_
        case yy6 => intro w hSw; (try dsimp only at hSw); go_simp; (try with_reducible rfl)
        simp only [List.setIfInBounds_toArray, List.set_cons_zero, List.set_cons_succ]
        refine wpAnyH_done (by kernel_rfl) ?_ _
        go_wp2
        go_ret
        exact ⟨rfl, H3.out⟩
end Go.Proofs.YtkmmdkklpbafdaaGreatDoor
