/- What the claim needs of: VmRb, VmXa, VmXb, VmArgs, VmLawA. No conditions. -/
import Derived.Test.YtnglaegofhpleaaGreatDoorZs6
import Derived.Test.YtnglaegofhpleaaGreatDoorRows
import Derived.WalkKit
import Derived.WalkSpells
import Derived.WalkLawsBesides
import Derived.Lib.SlBytesRow
import Derived.Lib.Hide
import Derived.Lib.ParseIntBTie
import Derived.Lib.ItoaLen
import Derived.Shelf.Small.Strs
import Derived.Shelf.Small.Wraps
import Derived.Shelf.Strconv.Itoa0
import Derived.Shelf.Strconv.Itoa1
import Derived.Shelf.LaysM
import Derived.Shelf.Strconv.Itoa2
import Derived.Shelf.Strconv.Itoa3
import Derived.Shelf.Strconv.Itoa4
import Derived.Shelf.Strings.Fields
import Derived.Shelf.Slices.Turned
import Derived.Lib.SmallJoins
import Derived.Lib.AppendIntMem
import Derived.Deep.RegionHeld3
import Derived.Outline
import Derived.Deep.Cut
import Derived.Deep.CutRange
import Derived.Deep.DeepCutAuto
import Derived.Deep.RegionLaw
import Derived.Lib.Builder
import Derived.Lib.AppendStr
import Derived.Lib.UnsafeStr
import Derived.Laws.Externs
import Derived.Laws.AppendOwnNone
import Derived.Deep.DeepAppendWide
import Derived.Laws.RangeAny
import Derived.Lib.IndexLaws
import Derived.Lib.LaidTab
import Derived.Shelf.Spec.SlicesInsert
import Derived.Shelf.Spec.SlicesInsertGrow
import Derived.Shelf.Spec.SearchS
import Derived.Tactics
import Derived.Tactics2
import Derived.Defers
import Derived.Recover
import Derived.Laws.Pointers
import Derived.Deep.AppendLies
import Derived.Laws.CopyOwn
import Derived.Stop.LaidErr
import Derived.LaidMore
import Derived.Deep.Slices
import Derived.OpenShut
import Derived.ProofKit
import Derived.SizedLaws
import Derived.SliceStrings
import Derived.HandedShaped
import Derived.Shelf.Vars
namespace Go.Proofs.YtnglaegofhpleaaGreatDoor
open Go.RowKit

set_option maxRecDepth 100000 in
set_option maxHeartbeats 16000000 in
theorem RSame_any (a b : Ef) (va vb : Ev) (w : World) (hA : EfIn a va w) (hC : EfIn b vb w) (ha : EfS a) (hb : EfS b) :
    Calls Tryz.prog 7 #[.agg (efV a va), .agg (efV b vb)] w fun e w' => e = .returned (.bool (decide (a = b))) ∧ Below w.heap.size w w' := by
  obtain ⟨V, hV⟩ : ∃ V, decide (a = b) = V := ⟨_, rfl⟩
  rw [hV]
  have HV := Lib.hid hV; have HA := Lib.hid hA; have HBE := Lib.hid hC; clear hV
  obtain ⟨oa, oc, ho, -⟩ := id hA.o
  obtain ⟨ra, rc, hr⟩ := hA.r.len2
  obtain ⟨pa, pc, hp⟩ := hA.p.len2
  obtain ⟨wa, wac, hw, -⟩ := id hA.w
  obtain ⟨ob, od, ho2, -⟩ := id hC.o
  obtain ⟨rb, rd, hr2⟩ := hC.r.len2
  obtain ⟨pb, pd, hp2⟩ := hC.p.len2
  obtain ⟨wb, wd, hw2, -⟩ := id hC.w
  obtain ⟨ao, ar, ap, aw⟩ := va
  obtain ⟨bo, br, bp, bw⟩ := vb
  simp only at ho hr hp hw ho2 hr2 hp2 hw2
  subst ho hr hp hw ho2 hr2 hp2 hw2
  obtain ⟨ast, acode, aout, ards, aputs, awrs, amiss, asteps⟩ := a
  obtain ⟨bst, bcode, bout, brds, bputs, bwrs, bmiss, bsteps⟩ := b
  simp only [efV] at hA hC HA HBE ⊢
  clear hA hC
  unfold EfS at ha hb
  simp only at ha hb
  obtain ⟨v0, hW0, hb0, hx0, hy0⟩ := boxes2e w #[.int .i64 ast, .int .i64 acode, .slice oa aout.length oc, .slice ra ards.length rc, .slice pa aputs.length pc, .slice wa awrs.length wac, .string (bs amiss), .int .i64 asteps] 37 #[.int .i64 bst, .int .i64 bcode, .slice ob bout.length od, .slice rb brds.length rd, .slice pb bputs.length pd, .slice wb bwrs.length wd, .string (bs bmiss), .int .i64 bsteps] 37
  have HW := Lib.hid hW0; have HB := Lib.hid hb0; have HX := Lib.hid hx0; have HY := Lib.hid hy0; clear hW0 hb0 hx0 hy0
  go_enter Tryz.func7, Tryz.ntmps7
  go_upto_region 1 with (fail)
  rw [HW.out]
  clear HW
  go_cut [5, 6] from 8 to 83 (fun s5 s6 W => ∃ xb yb, s5 = .pointer (some ⟨xb, 0, none⟩) ∧ s6 = .pointer (some ⟨yb, 0, none⟩) ∧ Bx xb #[.int .i64 ast, .int .i64 acode, .slice oa aout.length oc] 35 W ∧ Bx yb #[.int .i64 bst, .int .i64 bcode, .slice ob bout.length od] 35 W ∧ Below v0.heap.size v0 W)
  case first =>
    have HS0 := Lib.hid (show ((fun w' => Bx w.heap.size #[.int .i64 ast, .int .i64 acode, .slice oa aout.length oc, .slice ra ards.length rc, .slice pa aputs.length pc, .slice wa awrs.length wac, .string (bs amiss), .int .i64 asteps] 37 w' ∧ Bx (w.heap.size + 1) #[.int .i64 bst, .int .i64 bcode, .slice ob bout.length od, .slice rb brds.length rd, .slice pb bputs.length pd, .slice wb bwrs.length wd, .string (bs bmiss), .int .i64 bsteps] 37 w')) v0.drew from ⟨HX.out, HY.out⟩)
    have hsz := HY.out.lt
    refine wp_region_held_drew (S := (fun w' => Bx w.heap.size #[.int .i64 ast, .int .i64 acode, .slice oa aout.length oc, .slice ra ards.length rc, .slice pa aputs.length pc, .slice wa awrs.length wac, .string (bs amiss), .int .i64 asteps] 37 w' ∧ Bx (w.heap.size + 1) #[.int .i64 bst, .int .i64 bcode, .slice ob bout.length od, .slice rb brds.length rd, .slice pb bputs.length pd, .slice wb bwrs.length wd, .string (bs bmiss), .int .i64 bsteps] 37 w')) (by kernel_rfl) ?_ (fun hHeld => ?_)
    · exact HS0.out
    refine tkY (i := 0) (v := ?vv82) 8 ?yy82 ?_
    case yy82 => intro w hSw; (try dsimp only at hSw); go_simp; (try with_reducible rfl)
    simp only [sA, sB, sC]
    refine tkY (i := 1) (v := ?vv83) 9 ?yy83 ?_
    case yy83 =>
      intro wq hSw
      obtain ⟨z0, z1, z2, z3, z4, z5, z6, z7⟩ := hSw.1.c8
      clear hSw
      go_simp
      (try with_reducible rfl)
    simp only [sA, sB, sC]
    refine tkY (i := 2) (v := ?vv84) 10 ?yy84 ?_
    case yy84 => intro w hSw; (try dsimp only at hSw); go_simp; (try with_reducible rfl)
    simp only [sA, sB, sC]
    refine tkY (i := 3) (v := ?vv85) 11 ?yy85 ?_
    case yy85 =>
      intro wq hSw
      obtain ⟨z0, z1, z2, z3, z4, z5, z6, z7⟩ := hSw.2.c8
      clear hSw
      go_simp
      (try with_reducible rfl)
    simp only [sA, sB, sC]
    refine wpAnyH_ready (rs := [4, 5]) (by kernel_rfl) (by simp) ?_
    refine (AllReadyH.cons rfl (fun K hK => ?_) (AllReadyH.cons rfl (fun K hK => ?_) AllReadyH.nil))
    · skip
      go_simp
      skip
      focus (try go_wp2_with fail)
      refine hK.out _ _ ?_ (fun hHeld => ?_)
      · exact ⟨hHeld.1.alloc _, hHeld.2.alloc _⟩
      clear hK K
      (try simp only [Act.put, sA, sB, sC])
      refine wpAnyH_ready (rs := [5]) (by kernel_rfl) (by simp) ?_
      refine (AllReadyH.cons rfl (fun K hK => ?_) AllReadyH.nil)
      go_simp
      skip
      focus (try go_wp2_with fail)
      refine hK.out _ _ ?_ (fun hHeld => ?_)
      · exact ⟨hHeld.1.alloc _, hHeld.2.alloc _⟩
      clear hK K
      (try simp only [Act.put, sA, sB, sC])
      obtain ⟨u1, hu0, hub, hu1, hu2⟩ := boxes2e v0 #[.int .i64 0, .int .i64 0, .slice none 0 0] 35 #[.int .i64 0, .int .i64 0, .slice none 0 0] 35
      have HUB := Lib.hid hub.drew; have HU1 := Lib.hid hu1.drew; have HU2 := Lib.hid hu2.drew; clear hub hu1 hu2
      have hs0 := HX.out.lt
      rw [hu0] at hHeld
      have HH := Lib.hid hHeld; clear hHeld
      rw [hu0]
      clear hu0
      generalize hW : u1.drew = u0 at HUB HU1 HU2 HH ⊢
      clear hW
      have r0 : u0.cell? ⟨v0.heap.size, 0, none⟩ = some (.int .i64 0) := HU1.out.cell 0
      have r1 : u0.cell? ⟨v0.heap.size, 1, none⟩ = some (.int .i64 0) := HU1.out.cell 1
      have r2 : u0.cell? ⟨v0.heap.size, 2, none⟩ = some (.slice none 0 0) := HU1.out.cell 2
      have f0 := HU1.out.free 0
      have f1 := HU1.out.free 1
      have f2 := HU1.out.free 2
      have HH1 := Lib.hid (show ((fun w' => Bx w.heap.size #[.int .i64 ast, .int .i64 acode, .slice oa aout.length oc, .slice ra ards.length rc, .slice pa aputs.length pc, .slice wa awrs.length wac, .string (bs amiss), .int .i64 asteps] 37 w' ∧ Bx (w.heap.size + 1) #[.int .i64 bst, .int .i64 bcode, .slice ob bout.length od, .slice rb brds.length rd, .slice pb bputs.length pd, .slice wb bwrs.length wd, .string (bs bmiss), .int .i64 bsteps] 37 w')) (((u0.setCell ⟨v0.heap.size, 0, none⟩ (.int .i64 ast)).setCell ⟨v0.heap.size, 1, none⟩ (.int .i64 acode)).setCell ⟨v0.heap.size, 2, none⟩ (.slice oa aout.length oc)) from ⟨((HH.out.1.other (c := v0.heap.size) (i := 0) (by omega) _).other (c := v0.heap.size) (i := 1) (by omega) _).other (c := v0.heap.size) (i := 2) (by omega) _, ((HH.out.2.other (c := v0.heap.size) (i := 0) (by omega) _).other (c := v0.heap.size) (i := 1) (by omega) _).other (c := v0.heap.size) (i := 2) (by omega) _⟩)
      have HA1 := Lib.hid (HU1.out.sets3 (.int .i64 ast) (.int .i64 acode) (.slice oa aout.length oc))
      have HB1 := Lib.hid (((HU2.out.other (c := v0.heap.size) (i := 0) (by omega) (.int .i64 ast)).other (c := v0.heap.size) (i := 1) (by omega) (.int .i64 acode)).other (c := v0.heap.size) (i := 2) (by omega) (.slice oa aout.length oc))
      have HW1 := Lib.hid (below_sets3 HUB.out v0.heap.size (by omega) (.int .i64 ast) (.int .i64 acode) (.slice oa aout.length oc))
      refine wpAnyH_ready (rs := [6]) (by kernel_rfl) (by simp) ?_
      refine (AllReadyH.cons rfl (fun K hK => ?_) AllReadyH.nil)
      go_simp
      refine hK.out _ _ ?_ (fun hHeld => ?_)
      · exact HH1.out
      clear hK K r0 r1 r2 f0 f1 f2
      (try simp only [Act.put, sA, sB, sC])
      clear hHeld
      have HA2 := Lib.hid (((HA1.out.other (c := (v0.heap.size + 1)) (i := 0) (by omega) (.int .i64 bst)).other (c := (v0.heap.size + 1)) (i := 1) (by omega) (.int .i64 bcode)).other (c := (v0.heap.size + 1)) (i := 2) (by omega) (.slice ob bout.length od))
      have HB2 := Lib.hid (HB1.out.sets3 (.int .i64 bst) (.int .i64 bcode) (.slice ob bout.length od))
      have HW2 := Lib.hid (below_sets3 HW1.out (v0.heap.size + 1) (by omega) (.int .i64 bst) (.int .i64 bcode) (.slice ob bout.length od))
      have HH2 := Lib.hid (show ((fun w' => Bx w.heap.size #[.int .i64 ast, .int .i64 acode, .slice oa aout.length oc, .slice ra ards.length rc, .slice pa aputs.length pc, .slice wa awrs.length wac, .string (bs amiss), .int .i64 asteps] 37 w' ∧ Bx (w.heap.size + 1) #[.int .i64 bst, .int .i64 bcode, .slice ob bout.length od, .slice rb brds.length rd, .slice pb bputs.length pd, .slice wb bwrs.length wd, .string (bs bmiss), .int .i64 bsteps] 37 w')) ((((((u0.setCell ⟨v0.heap.size, 0, none⟩ (.int .i64 ast)).setCell ⟨v0.heap.size, 1, none⟩ (.int .i64 acode)).setCell ⟨v0.heap.size, 2, none⟩ (.slice oa aout.length oc)).setCell ⟨(v0.heap.size + 1), 0, none⟩ (.int .i64 bst)).setCell ⟨(v0.heap.size + 1), 1, none⟩ (.int .i64 bcode)).setCell ⟨(v0.heap.size + 1), 2, none⟩ (.slice ob bout.length od)) from ⟨((HH1.out.1.other (c := (v0.heap.size + 1)) (i := 0) (by omega) _).other (c := (v0.heap.size + 1)) (i := 1) (by omega) _).other (c := (v0.heap.size + 1)) (i := 2) (by omega) _, ((HH1.out.2.other (c := (v0.heap.size + 1)) (i := 0) (by omega) _).other (c := (v0.heap.size + 1)) (i := 1) (by omega) _).other (c := (v0.heap.size + 1)) (i := 2) (by omega) _⟩)
      obtain ⟨r0, r1, r2⟩ := HB1.out.c3
      have f0 := HB1.out.free 0
      have f1 := HB1.out.free 1
      have f2 := HB1.out.free 2
      refine wpAnyH_ready (rs := [7]) (by kernel_rfl) (by simp) ?_
      refine (AllReadyH.cons rfl (fun K hK => ?_) AllReadyH.nil)
      go_simp
      refine hK.out _ _ ?_ (fun hHeld => ?_)
      · exact HH2.out
      clear hK K r0 r1 r2 f0 f1 f2
      (try simp only [Act.put, sA, sB, sC])
      clear hHeld HH1 HH2 HA1 HB1 HW1
      refine wpAnyH_done (by kernel_rfl) ?_ _
      go_wp2_with fail
      go_meet
      exact ⟨v0.heap.size, (v0.heap.size + 1), rfl, rfl, HA2.out, HB2.out, HW2.out⟩
    · skip
      go_simp
      skip
      focus (try go_wp2_with fail)
      refine hK.out _ _ ?_ (fun hHeld => ?_)
      · exact ⟨hHeld.1.alloc _, hHeld.2.alloc _⟩
      clear hK K
      (try simp only [Act.put, sA, sB, sC])
      refine wpAnyH_ready (rs := [4]) (by kernel_rfl) (by simp) ?_
      refine (AllReadyH.cons rfl (fun K hK => ?_) AllReadyH.nil)
      go_simp
      skip
      focus (try go_wp2_with fail)
      refine hK.out _ _ ?_ (fun hHeld => ?_)
      · exact ⟨hHeld.1.alloc _, hHeld.2.alloc _⟩
      clear hK K
      (try simp only [Act.put, sA, sB, sC])
      obtain ⟨u1, hu0, hub, hu1, hu2⟩ := boxes2e v0 #[.int .i64 0, .int .i64 0, .slice none 0 0] 35 #[.int .i64 0, .int .i64 0, .slice none 0 0] 35
      have HUB := Lib.hid hub.drew; have HU1 := Lib.hid hu1.drew; have HU2 := Lib.hid hu2.drew; clear hub hu1 hu2
      have hs0 := HX.out.lt
      rw [hu0] at hHeld
      have HH := Lib.hid hHeld; clear hHeld
      rw [hu0]
      clear hu0
      generalize hW : u1.drew = u0 at HUB HU1 HU2 HH ⊢
      clear hW
      have r0 : u0.cell? ⟨(v0.heap.size + 1), 0, none⟩ = some (.int .i64 0) := HU2.out.cell 0
      have r1 : u0.cell? ⟨(v0.heap.size + 1), 1, none⟩ = some (.int .i64 0) := HU2.out.cell 1
      have r2 : u0.cell? ⟨(v0.heap.size + 1), 2, none⟩ = some (.slice none 0 0) := HU2.out.cell 2
      have f0 := HU2.out.free 0
      have f1 := HU2.out.free 1
      have f2 := HU2.out.free 2
      have HH1 := Lib.hid (show ((fun w' => Bx w.heap.size #[.int .i64 ast, .int .i64 acode, .slice oa aout.length oc, .slice ra ards.length rc, .slice pa aputs.length pc, .slice wa awrs.length wac, .string (bs amiss), .int .i64 asteps] 37 w' ∧ Bx (w.heap.size + 1) #[.int .i64 bst, .int .i64 bcode, .slice ob bout.length od, .slice rb brds.length rd, .slice pb bputs.length pd, .slice wb bwrs.length wd, .string (bs bmiss), .int .i64 bsteps] 37 w')) (((u0.setCell ⟨(v0.heap.size + 1), 0, none⟩ (.int .i64 ast)).setCell ⟨(v0.heap.size + 1), 1, none⟩ (.int .i64 acode)).setCell ⟨(v0.heap.size + 1), 2, none⟩ (.slice oa aout.length oc)) from ⟨((HH.out.1.other (c := (v0.heap.size + 1)) (i := 0) (by omega) _).other (c := (v0.heap.size + 1)) (i := 1) (by omega) _).other (c := (v0.heap.size + 1)) (i := 2) (by omega) _, ((HH.out.2.other (c := (v0.heap.size + 1)) (i := 0) (by omega) _).other (c := (v0.heap.size + 1)) (i := 1) (by omega) _).other (c := (v0.heap.size + 1)) (i := 2) (by omega) _⟩)
      have HA1 := Lib.hid (HU2.out.sets3 (.int .i64 ast) (.int .i64 acode) (.slice oa aout.length oc))
      have HB1 := Lib.hid (((HU1.out.other (c := (v0.heap.size + 1)) (i := 0) (by omega) (.int .i64 ast)).other (c := (v0.heap.size + 1)) (i := 1) (by omega) (.int .i64 acode)).other (c := (v0.heap.size + 1)) (i := 2) (by omega) (.slice oa aout.length oc))
      have HW1 := Lib.hid (below_sets3 HUB.out (v0.heap.size + 1) (by omega) (.int .i64 ast) (.int .i64 acode) (.slice oa aout.length oc))
      refine wpAnyH_ready (rs := [6]) (by kernel_rfl) (by simp) ?_
      refine (AllReadyH.cons rfl (fun K hK => ?_) AllReadyH.nil)
      go_simp
      refine hK.out _ _ ?_ (fun hHeld => ?_)
      · exact HH1.out
      clear hK K r0 r1 r2 f0 f1 f2
      (try simp only [Act.put, sA, sB, sC])
      clear hHeld
      have HA2 := Lib.hid (((HA1.out.other (c := v0.heap.size) (i := 0) (by omega) (.int .i64 bst)).other (c := v0.heap.size) (i := 1) (by omega) (.int .i64 bcode)).other (c := v0.heap.size) (i := 2) (by omega) (.slice ob bout.length od))
      have HB2 := Lib.hid (HB1.out.sets3 (.int .i64 bst) (.int .i64 bcode) (.slice ob bout.length od))
      have HW2 := Lib.hid (below_sets3 HW1.out v0.heap.size (by omega) (.int .i64 bst) (.int .i64 bcode) (.slice ob bout.length od))
      have HH2 := Lib.hid (show ((fun w' => Bx w.heap.size #[.int .i64 ast, .int .i64 acode, .slice oa aout.length oc, .slice ra ards.length rc, .slice pa aputs.length pc, .slice wa awrs.length wac, .string (bs amiss), .int .i64 asteps] 37 w' ∧ Bx (w.heap.size + 1) #[.int .i64 bst, .int .i64 bcode, .slice ob bout.length od, .slice rb brds.length rd, .slice pb bputs.length pd, .slice wb bwrs.length wd, .string (bs bmiss), .int .i64 bsteps] 37 w')) ((((((u0.setCell ⟨(v0.heap.size + 1), 0, none⟩ (.int .i64 ast)).setCell ⟨(v0.heap.size + 1), 1, none⟩ (.int .i64 acode)).setCell ⟨(v0.heap.size + 1), 2, none⟩ (.slice oa aout.length oc)).setCell ⟨v0.heap.size, 0, none⟩ (.int .i64 bst)).setCell ⟨v0.heap.size, 1, none⟩ (.int .i64 bcode)).setCell ⟨v0.heap.size, 2, none⟩ (.slice ob bout.length od)) from ⟨((HH1.out.1.other (c := v0.heap.size) (i := 0) (by omega) _).other (c := v0.heap.size) (i := 1) (by omega) _).other (c := v0.heap.size) (i := 2) (by omega) _, ((HH1.out.2.other (c := v0.heap.size) (i := 0) (by omega) _).other (c := v0.heap.size) (i := 1) (by omega) _).other (c := v0.heap.size) (i := 2) (by omega) _⟩)
      obtain ⟨r0, r1, r2⟩ := HB1.out.c3
      have f0 := HB1.out.free 0
      have f1 := HB1.out.free 1
      have f2 := HB1.out.free 2
      refine wpAnyH_ready (rs := [7]) (by kernel_rfl) (by simp) ?_
      refine (AllReadyH.cons rfl (fun K hK => ?_) AllReadyH.nil)
      go_simp
      refine hK.out _ _ ?_ (fun hHeld => ?_)
      · exact HH2.out
      clear hK K r0 r1 r2 f0 f1 f2
      (try simp only [Act.put, sA, sB, sC])
      clear hHeld HH1 HH2 HA1 HB1 HW1
      refine wpAnyH_done (by kernel_rfl) ?_ _
      go_wp2_with fail
      go_meet
      exact ⟨(v0.heap.size + 1), v0.heap.size, rfl, rfl, HA2.out, HB2.out, HW2.out⟩
  case rest =>
    obtain ⟨xb, yb, rfl, rfl, h1, h2, hbc⟩ := hcut
    have HP := Lib.hid h1; have HQ := Lib.hid h2; have HX := Lib.hid (HX.out.call hbc); have HY := Lib.hid (HY.out.call hbc); have HB := Lib.hid (btrans HB.out HB.out.size hbc); clear h1 h2 hbc
    obtain ⟨p0, p1, p2⟩ := HP.out.c3
    obtain ⟨q0, q1, q2⟩ := HQ.out.c3
    by_cases e1 : ast = bst
    rotate_left
    · have t1 : (ast != bst) = true := by rw [bne_iff_ne]; exact e1
      have HF := Lib.hid (HV.out.symm.trans (ef_ne (.inl e1)))
      clear e1
      go_wp2
      go_ret
      exact ⟨by rw [HF.out] <;> rfl, HB.out⟩
    have t1 : (ast != bst) = false := by rw [e1]; simp
    have E1 := Lib.hid e1; clear e1
    by_cases e2 : acode = bcode
    rotate_left
    · have t2 : (acode != bcode) = true := by rw [bne_iff_ne]; exact e2
      have HF := Lib.hid (HV.out.symm.trans (ef_ne (.inr (.inl e2))))
      clear e2
      go_wp2
      go_ret
      exact ⟨by rw [HF.out] <;> rfl, HB.out⟩
    have t2 : (acode != bcode) = false := by rw [e2]; simp
    have E2 := Lib.hid e2; clear e2
    by_cases e3 : aout.length = bout.length
    rotate_left
    · have t3 : ((aout.length : Int) != (bout.length : Int)) = true := by rw [bne_iff_ne]; omega
      have HF := Lib.hid (HV.out.symm.trans (ef_ne (.inr (.inr (.inl (fun e => e3 (congrArg List.length e)))))))
      clear e3
      go_wp2
      go_ret
      exact ⟨by rw [HF.out] <;> rfl, HB.out⟩
    have t3 : ((aout.length : Int) != (bout.length : Int)) = false := by rw [e3]; simp
    have E3 := Lib.hid e3; clear e3
    obtain ⟨iv, hiv⟩ : ∃ t, decide (aout.drop 0 = bout.drop 0) = t := ⟨_, rfl⟩
    have HIV := Lib.hid hiv; have HIVE := Lib.hid hiv; clear hiv
    go_wp2
    clear p0 p1 p2 q0 q1 q2
    go_loopw [7] (fun i wr => ∃ k : Nat, k ≤ aout.length ∧ i = .int .i64 k ∧ Hid (decide (aout.drop k = bout.drop k) = iv) ∧ Hid (Bx w.heap.size #[.int .i64 ast, .int .i64 acode, .slice oa aout.length oc, .slice ra ards.length rc, .slice pa aputs.length pc, .slice wa awrs.length wac, .string (bs amiss), .int .i64 asteps] 37 wr) ∧ Hid (Bx (w.heap.size + 1) #[.int .i64 bst, .int .i64 bcode, .slice ob bout.length od, .slice rb brds.length rd, .slice pb bputs.length pd, .slice wb bwrs.length wd, .string (bs bmiss), .int .i64 bsteps] 37 wr) ∧ Hid (Bx xb #[.int .i64 ast, .int .i64 acode, .slice oa aout.length oc] 35 wr) ∧ Hid (Bx yb #[.int .i64 bst, .int .i64 bcode, .slice ob bout.length od] 35 wr) ∧ Below w.heap.size w wr) (fun i _ => aout.length - (intOf i).toNat)
    case atStart => exact ⟨0, Nat.zero_le _, rfl, HIV, HX, HY, HP, HQ, HB.out⟩
    case round =>
      clear HIV HB HX HY HP HQ
      obtain ⟨k, hk, rfl, HN0, HX, HY, HP, HQ, hB⟩ := hrel
      have HB := Lib.hid hB; clear hB
      obtain ⟨p0, p1, p2⟩ := HP.out.c3
      obtain ⟨q0, q1, q2⟩ := HQ.out.c3
      by_cases hlt : k < aout.length
      · have hlt' : (k : Int) < (aout.length : Int) := by omega
        have hlt2 : k < bout.length := by rw [← E3.out]; exact hlt
        have hlt3 : (k : Int) < (bout.length : Int) := by omega
        have hw1 : IntKind.i64.wrap ((k : Int) + 1) = (k : Int) + 1 := by rw [IntKind.wrap_i64]; omega
        obtain ⟨ba, ofa, hae, z0, z1, z2⟩ := vl_cells (HA.out.o.below HB.out) hlt
        cases hae
        obtain ⟨bb, ofb, hbe, y0, y1, y2⟩ := vl_cells (HBE.out.o.below HB.out) hlt2
        cases hbe
        obtain ⟨⟨xd, xn, xs⟩, hx⟩ : ∃ x, aout[k] = x := ⟨_, rfl⟩
        obtain ⟨⟨yd, yn, ys⟩, hy⟩ : ∃ y, bout[k] = y := ⟨_, rfl⟩
        simp only [hx] at z0 z1 z2
        simp only [hy] at y0 y1 y2
        have HS0 := Lib.hid (show wr.drew.cell? ⟨ba, ofa + k * 3, none⟩ = some (.int .i64 xd) ∧ wr.drew.cell? ⟨ba, ofa + k * 3 + 1, none⟩ = some (.int .i64 xn) ∧ wr.drew.cell? ⟨ba, ofa + k * 3 + 2, none⟩ = some (.string (bs xs)) ∧ wr.drew.cell? ⟨bb, ofb + k * 3, none⟩ = some (.int .i64 yd) ∧ wr.drew.cell? ⟨bb, ofb + k * 3 + 1, none⟩ = some (.int .i64 yn) ∧ wr.drew.cell? ⟨bb, ofb + k * 3 + 2, none⟩ = some (.string (bs ys)) ∧ Bx xb #[.int .i64 ast, .int .i64 acode, .slice (some ⟨ba, ofa, none⟩) aout.length oc] 35 wr.drew ∧ Bx yb #[.int .i64 bst, .int .i64 bcode, .slice (some ⟨bb, ofb, none⟩) bout.length od] 35 wr.drew from ⟨z0, z1, z2, y0, y1, y2, HP.out, HQ.out⟩)
        clear z0 z1 z2 y0 y1 y2
        by_cases e0 : xd = yd
        rotate_left
        · have t0 : (xd == yd) = false := by rw [beq_eq_false_iff_ne]; exact e0
          have HF0 := Lib.hid (eq_no hlt hlt2 HN0.out (by rw [hx, hy]; intro e; exact e0 (by injection e)))
          have HF := Lib.hid (HV.out.symm.trans (ef_ne (.inr (.inr (.inl (fun e => by have h1 := HIVE.out; rw [HF0.out, show aout = bout from e] at h1; simp at h1))))))
          have HXE := Lib.hid hx; have HYE := Lib.hid hy; clear hx hy e0
          go_upto_region 7 with (fail)
          clear p0 p1 p2 q0 q1 q2
          go_wp2_with fail
          refine wp_region_held_drew (S := (fun w' => w'.cell? ⟨ba, ofa + k * 3, none⟩ = some (.int .i64 xd) ∧ w'.cell? ⟨ba, ofa + k * 3 + 1, none⟩ = some (.int .i64 xn) ∧ w'.cell? ⟨ba, ofa + k * 3 + 2, none⟩ = some (.string (bs xs)) ∧ w'.cell? ⟨bb, ofb + k * 3, none⟩ = some (.int .i64 yd) ∧ w'.cell? ⟨bb, ofb + k * 3 + 1, none⟩ = some (.int .i64 yn) ∧ w'.cell? ⟨bb, ofb + k * 3 + 2, none⟩ = some (.string (bs ys)) ∧ Bx xb #[.int .i64 ast, .int .i64 acode, .slice (some ⟨ba, ofa, none⟩) aout.length oc] 35 w' ∧ Bx yb #[.int .i64 bst, .int .i64 bcode, .slice (some ⟨bb, ofb, none⟩) bout.length od] 35 w')) (by kernel_rfl) ?_ (fun hHeld => ?_)
          · exact HS0.out
          refine tkY (i := 0) (v := ?vv86) 40 ?yy86 ?_
          case yy86 => intro w hSw; (try dsimp only at hSw); go_simp; (try with_reducible rfl)
          simp only [sA, sB, sC]
          refine tkY (i := 1) (v := ?vv87) 41 ?yy87 ?_
          case yy87 =>
            intro wq hSw
            obtain ⟨z0, z1, z2, y0, y1, y2, zx, zy⟩ := id hSw
            obtain ⟨p0, p1, p2⟩ := zx.c3
            obtain ⟨q0, q1, q2⟩ := zy.c3
            clear zx zy
            clear hSw
            go_simp
            (try with_reducible rfl)
          simp only [sA, sB, sC]
          refine tkY (i := 2) (v := ?vv88) 42 ?yy88 ?_
          case yy88 => intro w hSw; (try dsimp only at hSw); go_simp; (try with_reducible rfl)
          simp only [sA, sB, sC]
          refine tkY (i := 3) (v := ?vv89) 43 ?yy89 ?_
          case yy89 => intro w hSw; (try dsimp only at hSw); go_simp; (try with_reducible rfl)
          simp only [sA, sB, sC]
          refine tkY (i := 4) (v := ?vv90) 44 ?yy90 ?_
          case yy90 =>
            intro wq hSw
            obtain ⟨z0, z1, z2, y0, y1, y2, zx, zy⟩ := id hSw
            obtain ⟨p0, p1, p2⟩ := zx.c3
            obtain ⟨q0, q1, q2⟩ := zy.c3
            clear zx zy
            clear hSw
            go_simp
            (try with_reducible rfl)
          simp only [sA, sB, sC]
          refine tkY (i := 5) (v := ?vv91) 45 ?yy91 ?_
          case yy91 => intro w hSw; (try dsimp only at hSw); go_simp; (try with_reducible rfl)
          simp only [sA, sB, sC]
          refine tkY (i := 6) (v := ?vv92) 46 ?yy92 ?_
          case yy92 =>
            intro wq hSw
            obtain ⟨z0, z1, z2, y0, y1, y2, zx, zy⟩ := id hSw
            obtain ⟨p0, p1, p2⟩ := zx.c3
            obtain ⟨q0, q1, q2⟩ := zy.c3
            clear zx zy
            clear hSw
            go_simp
            (try with_reducible rfl)
          simp only [sA, sB, sC]
          refine tkY (i := 7) (v := ?vv93) 47 ?yy93 ?_
          case yy93 => intro w hSw; (try dsimp only at hSw); go_simp; (try with_reducible rfl)
          simp only [sA, sB, sC]
          refine tkY (i := 8) (v := ?vv94) 48 ?yy94 ?_
          case yy94 => intro w hSw; (try dsimp only at hSw); go_simp; (try with_reducible rfl)
          simp only [sA, sB, sC]
          refine tkY (i := 9) (v := ?vv95) 49 ?yy95 ?_
          case yy95 =>
            intro wq hSw
            obtain ⟨z0, z1, z2, y0, y1, y2, zx, zy⟩ := id hSw
            obtain ⟨p0, p1, p2⟩ := zx.c3
            obtain ⟨q0, q1, q2⟩ := zy.c3
            clear zx zy
            clear hSw
            go_simp
            (try with_reducible rfl)
          simp only [sA, sB, sC]
          refine tkY (i := 10) (v := ?vv96) 50 ?yy96 ?_
          case yy96 => intro w hSw; (try dsimp only at hSw); go_simp; (try with_reducible rfl)
          simp only [sA, sB, sC]
          refine wpAnyH_done (by kernel_rfl) ?_ _
          go_wp2
          go_ret
          exact ⟨by rw [HF.out] <;> rfl, HB.out.trans (Below.refl _ _).drew⟩
        have t0 : (xd == yd) = true := by rw [e0]; simp
        by_cases e1 : xn = yn
        rotate_left
        · have t1 : (xn == yn) = false := by rw [beq_eq_false_iff_ne]; exact e1
          have HF0 := Lib.hid (eq_no hlt hlt2 HN0.out (by rw [hx, hy]; intro e; exact e1 (by injection e)))
          have HF := Lib.hid (HV.out.symm.trans (ef_ne (.inr (.inr (.inl (fun e => by have h1 := HIVE.out; rw [HF0.out, show aout = bout from e] at h1; simp at h1))))))
          have HXE := Lib.hid hx; have HYE := Lib.hid hy; clear hx hy e0 e1
          go_upto_region 7 with (fail)
          clear p0 p1 p2 q0 q1 q2
          go_wp2_with fail
          refine wp_region_held_drew (S := (fun w' => w'.cell? ⟨ba, ofa + k * 3, none⟩ = some (.int .i64 xd) ∧ w'.cell? ⟨ba, ofa + k * 3 + 1, none⟩ = some (.int .i64 xn) ∧ w'.cell? ⟨ba, ofa + k * 3 + 2, none⟩ = some (.string (bs xs)) ∧ w'.cell? ⟨bb, ofb + k * 3, none⟩ = some (.int .i64 yd) ∧ w'.cell? ⟨bb, ofb + k * 3 + 1, none⟩ = some (.int .i64 yn) ∧ w'.cell? ⟨bb, ofb + k * 3 + 2, none⟩ = some (.string (bs ys)) ∧ Bx xb #[.int .i64 ast, .int .i64 acode, .slice (some ⟨ba, ofa, none⟩) aout.length oc] 35 w' ∧ Bx yb #[.int .i64 bst, .int .i64 bcode, .slice (some ⟨bb, ofb, none⟩) bout.length od] 35 w')) (by kernel_rfl) ?_ (fun hHeld => ?_)
          · exact HS0.out
          refine tkY (i := 0) (v := ?vv97) 40 ?yy97 ?_
          case yy97 => intro w hSw; (try dsimp only at hSw); go_simp; (try with_reducible rfl)
          simp only [sA, sB, sC]
          refine tkY (i := 1) (v := ?vv98) 41 ?yy98 ?_
          case yy98 =>
            intro wq hSw
            obtain ⟨z0, z1, z2, y0, y1, y2, zx, zy⟩ := id hSw
            obtain ⟨p0, p1, p2⟩ := zx.c3
            obtain ⟨q0, q1, q2⟩ := zy.c3
            clear zx zy
            clear hSw
            go_simp
            (try with_reducible rfl)
          simp only [sA, sB, sC]
          refine tkY (i := 2) (v := ?vv99) 42 ?yy99 ?_
          case yy99 => intro w hSw; (try dsimp only at hSw); go_simp; (try with_reducible rfl)
          simp only [sA, sB, sC]
          refine tkY (i := 3) (v := ?vv100) 43 ?yy100 ?_
          case yy100 => intro w hSw; (try dsimp only at hSw); go_simp; (try with_reducible rfl)
          simp only [sA, sB, sC]
          refine tkY (i := 4) (v := ?vv101) 44 ?yy101 ?_
          case yy101 =>
            intro wq hSw
            obtain ⟨z0, z1, z2, y0, y1, y2, zx, zy⟩ := id hSw
            obtain ⟨p0, p1, p2⟩ := zx.c3
            obtain ⟨q0, q1, q2⟩ := zy.c3
            clear zx zy
            clear hSw
            go_simp
            (try with_reducible rfl)
          simp only [sA, sB, sC]
          refine tkY (i := 5) (v := ?vv102) 45 ?yy102 ?_
          case yy102 => intro w hSw; (try dsimp only at hSw); go_simp; (try with_reducible rfl)
          simp only [sA, sB, sC]
          refine tkY (i := 6) (v := ?vv103) 46 ?yy103 ?_
          case yy103 =>
            intro wq hSw
            obtain ⟨z0, z1, z2, y0, y1, y2, zx, zy⟩ := id hSw
            obtain ⟨p0, p1, p2⟩ := zx.c3
            obtain ⟨q0, q1, q2⟩ := zy.c3
            clear zx zy
            clear hSw
            go_simp
            (try with_reducible rfl)
          simp only [sA, sB, sC]
          refine tkY (i := 7) (v := ?vv104) 47 ?yy104 ?_
          case yy104 => intro w hSw; (try dsimp only at hSw); go_simp; (try with_reducible rfl)
          simp only [sA, sB, sC]
          refine tkY (i := 8) (v := ?vv105) 48 ?yy105 ?_
          case yy105 => intro w hSw; (try dsimp only at hSw); go_simp; (try with_reducible rfl)
          simp only [sA, sB, sC]
          refine tkY (i := 9) (v := ?vv106) 49 ?yy106 ?_
          case yy106 =>
            intro wq hSw
            obtain ⟨z0, z1, z2, y0, y1, y2, zx, zy⟩ := id hSw
            obtain ⟨p0, p1, p2⟩ := zx.c3
            obtain ⟨q0, q1, q2⟩ := zy.c3
            clear zx zy
            clear hSw
            go_simp
            (try with_reducible rfl)
          simp only [sA, sB, sC]
          refine tkY (i := 10) (v := ?vv107) 50 ?yy107 ?_
          case yy107 => intro w hSw; (try dsimp only at hSw); go_simp; (try with_reducible rfl)
          simp only [sA, sB, sC]
          refine wpAnyH_done (by kernel_rfl) ?_ _
          go_wp2
          go_ret
          exact ⟨by rw [HF.out] <;> rfl, HB.out.trans (Below.refl _ _).drew⟩
        have t1 : (xn == yn) = true := by rw [e1]; simp
        by_cases e2 : xs = ys
        rotate_left
        · have t2 : (xs == ys) = false := by rw [beq_eq_false_iff_ne]; exact e2
          have HF0 := Lib.hid (eq_no hlt hlt2 HN0.out (by rw [hx, hy]; intro e; exact e2 (by injection e)))
          have HF := Lib.hid (HV.out.symm.trans (ef_ne (.inr (.inr (.inl (fun e => by have h1 := HIVE.out; rw [HF0.out, show aout = bout from e] at h1; simp at h1))))))
          have HXE := Lib.hid hx; have HYE := Lib.hid hy; clear hx hy e0 e1 e2
          go_upto_region 7 with (fail)
          clear p0 p1 p2 q0 q1 q2
          go_wp2_with fail
          refine wp_region_held_drew (S := (fun w' => w'.cell? ⟨ba, ofa + k * 3, none⟩ = some (.int .i64 xd) ∧ w'.cell? ⟨ba, ofa + k * 3 + 1, none⟩ = some (.int .i64 xn) ∧ w'.cell? ⟨ba, ofa + k * 3 + 2, none⟩ = some (.string (bs xs)) ∧ w'.cell? ⟨bb, ofb + k * 3, none⟩ = some (.int .i64 yd) ∧ w'.cell? ⟨bb, ofb + k * 3 + 1, none⟩ = some (.int .i64 yn) ∧ w'.cell? ⟨bb, ofb + k * 3 + 2, none⟩ = some (.string (bs ys)) ∧ Bx xb #[.int .i64 ast, .int .i64 acode, .slice (some ⟨ba, ofa, none⟩) aout.length oc] 35 w' ∧ Bx yb #[.int .i64 bst, .int .i64 bcode, .slice (some ⟨bb, ofb, none⟩) bout.length od] 35 w')) (by kernel_rfl) ?_ (fun hHeld => ?_)
          · exact HS0.out
          refine tkY (i := 0) (v := ?vv108) 40 ?yy108 ?_
          case yy108 => intro w hSw; (try dsimp only at hSw); go_simp; (try with_reducible rfl)
          simp only [sA, sB, sC]
          refine tkY (i := 1) (v := ?vv109) 41 ?yy109 ?_
          case yy109 =>
            intro wq hSw
            obtain ⟨z0, z1, z2, y0, y1, y2, zx, zy⟩ := id hSw
            obtain ⟨p0, p1, p2⟩ := zx.c3
            obtain ⟨q0, q1, q2⟩ := zy.c3
            clear zx zy
            clear hSw
            go_simp
            (try with_reducible rfl)
          simp only [sA, sB, sC]
          refine tkY (i := 2) (v := ?vv110) 42 ?yy110 ?_
          case yy110 => intro w hSw; (try dsimp only at hSw); go_simp; (try with_reducible rfl)
          simp only [sA, sB, sC]
          refine tkY (i := 3) (v := ?vv111) 43 ?yy111 ?_
          case yy111 => intro w hSw; (try dsimp only at hSw); go_simp; (try with_reducible rfl)
          simp only [sA, sB, sC]
          refine tkY (i := 4) (v := ?vv112) 44 ?yy112 ?_
          case yy112 =>
            intro wq hSw
            obtain ⟨z0, z1, z2, y0, y1, y2, zx, zy⟩ := id hSw
            obtain ⟨p0, p1, p2⟩ := zx.c3
            obtain ⟨q0, q1, q2⟩ := zy.c3
            clear zx zy
            clear hSw
            go_simp
            (try with_reducible rfl)
          simp only [sA, sB, sC]
          refine tkY (i := 5) (v := ?vv113) 45 ?yy113 ?_
          case yy113 => intro w hSw; (try dsimp only at hSw); go_simp; (try with_reducible rfl)
          simp only [sA, sB, sC]
          refine tkY (i := 6) (v := ?vv114) 46 ?yy114 ?_
          case yy114 =>
            intro wq hSw
            obtain ⟨z0, z1, z2, y0, y1, y2, zx, zy⟩ := id hSw
            obtain ⟨p0, p1, p2⟩ := zx.c3
            obtain ⟨q0, q1, q2⟩ := zy.c3
            clear zx zy
            clear hSw
            go_simp
            (try with_reducible rfl)
          simp only [sA, sB, sC]
          refine tkY (i := 7) (v := ?vv115) 47 ?yy115 ?_
          case yy115 => intro w hSw; (try dsimp only at hSw); go_simp; (try with_reducible rfl)
          simp only [sA, sB, sC]
          refine tkY (i := 8) (v := ?vv116) 48 ?yy116 ?_
          case yy116 => intro w hSw; (try dsimp only at hSw); go_simp; (try with_reducible rfl)
          simp only [sA, sB, sC]
          refine tkY (i := 9) (v := ?vv117) 49 ?yy117 ?_
          case yy117 =>
            intro wq hSw
            obtain ⟨z0, z1, z2, y0, y1, y2, zx, zy⟩ := id hSw
            obtain ⟨p0, p1, p2⟩ := zx.c3
            obtain ⟨q0, q1, q2⟩ := zy.c3
            clear zx zy
            clear hSw
            go_simp
            (try with_reducible rfl)
          simp only [sA, sB, sC]
          refine tkY (i := 10) (v := ?vv118) 50 ?yy118 ?_
          case yy118 => intro w hSw; (try dsimp only at hSw); go_simp; (try with_reducible rfl)
          simp only [sA, sB, sC]
          refine wpAnyH_done (by kernel_rfl) ?_ _
          go_wp2
          go_ret
          exact ⟨by rw [HF.out] <;> rfl, HB.out.trans (Below.refl _ _).drew⟩
        have t2 : (xs == ys) = true := by rw [e2]; simp
        have HN := Lib.hid (eq_go hlt hlt2 HN0.out (by rw [hx, hy, e0, e1, e2]))
        have HXE := Lib.hid hx; have HYE := Lib.hid hy; clear hx hy e0 e1 e2
        go_upto_region 7 with (fail)
        clear p0 p1 p2 q0 q1 q2
        go_wp2_with fail
        refine wp_region_held_drew (S := (fun w' => w'.cell? ⟨ba, ofa + k * 3, none⟩ = some (.int .i64 xd) ∧ w'.cell? ⟨ba, ofa + k * 3 + 1, none⟩ = some (.int .i64 xn) ∧ w'.cell? ⟨ba, ofa + k * 3 + 2, none⟩ = some (.string (bs xs)) ∧ w'.cell? ⟨bb, ofb + k * 3, none⟩ = some (.int .i64 yd) ∧ w'.cell? ⟨bb, ofb + k * 3 + 1, none⟩ = some (.int .i64 yn) ∧ w'.cell? ⟨bb, ofb + k * 3 + 2, none⟩ = some (.string (bs ys)) ∧ Bx xb #[.int .i64 ast, .int .i64 acode, .slice (some ⟨ba, ofa, none⟩) aout.length oc] 35 w' ∧ Bx yb #[.int .i64 bst, .int .i64 bcode, .slice (some ⟨bb, ofb, none⟩) bout.length od] 35 w')) (by kernel_rfl) ?_ (fun hHeld => ?_)
        · exact HS0.out
        refine tkY (i := 0) (v := ?vv119) 40 ?yy119 ?_
        case yy119 => intro w hSw; (try dsimp only at hSw); go_simp; (try with_reducible rfl)
        simp only [sA, sB, sC]
        refine tkY (i := 1) (v := ?vv120) 41 ?yy120 ?_
        case yy120 =>
          intro wq hSw
          obtain ⟨z0, z1, z2, y0, y1, y2, zx, zy⟩ := id hSw
          obtain ⟨p0, p1, p2⟩ := zx.c3
          obtain ⟨q0, q1, q2⟩ := zy.c3
          clear zx zy
          clear hSw
          go_simp
          (try with_reducible rfl)
        simp only [sA, sB, sC]
        refine tkY (i := 2) (v := ?vv121) 42 ?yy121 ?_
        case yy121 => intro w hSw; (try dsimp only at hSw); go_simp; (try with_reducible rfl)
        simp only [sA, sB, sC]
        refine tkY (i := 3) (v := ?vv122) 43 ?yy122 ?_
        case yy122 => intro w hSw; (try dsimp only at hSw); go_simp; (try with_reducible rfl)
        simp only [sA, sB, sC]
        refine tkY (i := 4) (v := ?vv123) 44 ?yy123 ?_
        case yy123 =>
          intro wq hSw
          obtain ⟨z0, z1, z2, y0, y1, y2, zx, zy⟩ := id hSw
          obtain ⟨p0, p1, p2⟩ := zx.c3
          obtain ⟨q0, q1, q2⟩ := zy.c3
          clear zx zy
          clear hSw
          go_simp
          (try with_reducible rfl)
        simp only [sA, sB, sC]
        refine tkY (i := 5) (v := ?vv124) 45 ?yy124 ?_
        case yy124 => intro w hSw; (try dsimp only at hSw); go_simp; (try with_reducible rfl)
        simp only [sA, sB, sC]
        refine tkY (i := 6) (v := ?vv125) 46 ?yy125 ?_
        case yy125 =>
          intro wq hSw
          obtain ⟨z0, z1, z2, y0, y1, y2, zx, zy⟩ := id hSw
          obtain ⟨p0, p1, p2⟩ := zx.c3
          obtain ⟨q0, q1, q2⟩ := zy.c3
          clear zx zy
          clear hSw
          go_simp
          (try with_reducible rfl)
        simp only [sA, sB, sC]
        refine tkY (i := 7) (v := ?vv126) 47 ?yy126 ?_
        case yy126 => intro w hSw; (try dsimp only at hSw); go_simp; (try with_reducible rfl)
        simp only [sA, sB, sC]
        refine tkY (i := 8) (v := ?vv127) 48 ?yy127 ?_
        case yy127 => intro w hSw; (try dsimp only at hSw); go_simp; (try with_reducible rfl)
        simp only [sA, sB, sC]
        refine tkY (i := 9) (v := ?vv128) 49 ?yy128 ?_
        case yy128 =>
          intro wq hSw
          obtain ⟨z0, z1, z2, y0, y1, y2, zx, zy⟩ := id hSw
          obtain ⟨p0, p1, p2⟩ := zx.c3
          obtain ⟨q0, q1, q2⟩ := zy.c3
          clear zx zy
          clear hSw
          go_simp
          (try with_reducible rfl)
        simp only [sA, sB, sC]
        refine tkY (i := 10) (v := ?vv129) 50 ?yy129 ?_
        case yy129 => intro w hSw; (try dsimp only at hSw); go_simp; (try with_reducible rfl)
        simp only [sA, sB, sC]
        refine wpAnyH_done (by kernel_rfl) ?_ _
        go_wp2
        go_roundw
        case rel => exact ⟨k + 1, by omega, by go_num, HN, Lib.hid HX.out.drew, Lib.hid HY.out.drew, Lib.hid HP.out.drew, Lib.hid HQ.out.drew, HB.out.trans (Below.refl _ _).drew⟩
        case measure => simp [intOf]; omega
      · have hlt' : ¬ (k : Int) < (aout.length : Int) := by omega
        have hivt : iv = true := by rw [← HN0.out, List.drop_of_length_le (by omega), List.drop_of_length_le (by rw [← E3.out]; omega)]; simp
        have EO := Lib.hid (show aout = bout from by have h := HIVE.out; rw [hivt] at h; simpa using h)
        clear HN0 HP HQ hivt
        obtain ⟨x0, x1, x2, x3, x4, x5, x6, x7⟩ := HX.out.c8
        obtain ⟨y0, y1, y2, y3, y4, y5, y6, y7⟩ := HY.out.c8
        go_wp2_with fail
        clear p0 p1 p2 q0 q1 q2
        clear x0 x1 x2 x3 x4 x5 x6 x7 y0 y1 y2 y3 y4 y5 y6 y7
        refine (RsameKeys_any _ _ ards brds wr (HA.out.r.below HB.out) (HBE.out.r.below HB.out) (by have h := ha; have h2 := hb; omega)).mono ?_
        rintro er v1 ⟨rfl, hb0⟩
        have HB := Lib.hid (btrans HB.out HB.out.size hb0)
        have HX := Lib.hid (HX.out.call hb0)
        have HY := Lib.hid (HY.out.call hb0)
        clear hb0
        by_cases ez : ards = brds
        rotate_left
        · rw [decide_eq_false ez]
          have HF := Lib.hid (HV.out.symm.trans (ef_ne (.inr (.inr (.inr (.inl ez))))))
          clear ez
          go_wp2
          go_ret
          exact ⟨by rw [HF.out] <;> rfl, HB.out⟩
        rw [decide_eq_true ez]
        have E4 := Lib.hid ez
        clear ez
        obtain ⟨x0, x1, x2, x3, x4, x5, x6, x7⟩ := HX.out.c8
        obtain ⟨y0, y1, y2, y3, y4, y5, y6, y7⟩ := HY.out.c8
        go_wp2_with fail
        clear x0 x1 x2 x3 x4 x5 x6 x7 y0 y1 y2 y3 y4 y5 y6 y7
        refine (RsameKeys_any _ _ aputs bputs v1 (HA.out.p.below HB.out) (HBE.out.p.below HB.out) (by have h := ha; have h2 := hb; omega)).mono ?_
        rintro er v2 ⟨rfl, hb1⟩
        have HB := Lib.hid (btrans HB.out HB.out.size hb1)
        have HX := Lib.hid (HX.out.call hb1)
        have HY := Lib.hid (HY.out.call hb1)
        clear hb1
        by_cases ez : aputs = bputs
        rotate_left
        · rw [decide_eq_false ez]
          have HF := Lib.hid (HV.out.symm.trans (ef_ne (.inr (.inr (.inr (.inr (.inl ez)))))))
          clear ez
          go_wp2
          go_ret
          exact ⟨by rw [HF.out] <;> rfl, HB.out⟩
        rw [decide_eq_true ez]
        have E5 := Lib.hid ez
        clear ez
        obtain ⟨x0, x1, x2, x3, x4, x5, x6, x7⟩ := HX.out.c8
        obtain ⟨y0, y1, y2, y3, y4, y5, y6, y7⟩ := HY.out.c8
        go_wp2_with fail
        clear x0 x1 x2 x3 x4 x5 x6 x7 y0 y1 y2 y3 y4 y5 y6 y7
        refine (RSame06_any _ _ awrs bwrs v2 (HA.out.w.below HB.out) (HBE.out.w.below HB.out) (by have h := ha; have h2 := hb; omega)).mono ?_
        rintro er v3 ⟨rfl, hb2⟩
        have HB := Lib.hid (btrans HB.out HB.out.size hb2)
        have HX := Lib.hid (HX.out.call hb2)
        have HY := Lib.hid (HY.out.call hb2)
        clear hb2
        by_cases ez : awrs = bwrs
        rotate_left
        · rw [decide_eq_false ez]
          have HF := Lib.hid (HV.out.symm.trans (ef_ne (.inr (.inr (.inr (.inr (.inr (.inl ez))))))))
          clear ez
          go_wp2
          go_ret
          exact ⟨by rw [HF.out] <;> rfl, HB.out⟩
        rw [decide_eq_true ez]
        have E6 := Lib.hid ez
        clear ez
        obtain ⟨x0, x1, x2, x3, x4, x5, x6, x7⟩ := HX.out.c8
        obtain ⟨y0, y1, y2, y3, y4, y5, y6, y7⟩ := HY.out.c8
        by_cases e8 : amiss = bmiss
        rotate_left
        · have t8 : (amiss == bmiss) = false := by rw [beq_eq_false_iff_ne]; exact e8
          have HF := Lib.hid (HV.out.symm.trans (ef_ne (.inr (.inr (.inr (.inr (.inr (.inr (.inl e8)))))))))
          clear e8
          go_wp2
          go_ret
          exact ⟨by rw [HF.out] <;> rfl, HB.out⟩
        have t8 : (amiss == bmiss) = true := by rw [e8]; simp
        have E8 := Lib.hid e8
        clear e8
        by_cases e9 : asteps = bsteps
        rotate_left
        · have t9 : (asteps == bsteps) = false := by rw [beq_eq_false_iff_ne]; exact e9
          have HF := Lib.hid (HV.out.symm.trans (ef_ne (.inr (.inr (.inr (.inr (.inr (.inr (.inr e9)))))))))
          clear e9
          go_wp2
          go_ret
          exact ⟨by rw [HF.out] <;> rfl, HB.out⟩
        have t9 : (asteps == bsteps) = true := by rw [e9]; simp
        have HF := Lib.hid (HV.out.symm.trans (ef_eq E1.out E2.out EO.out E4.out E5.out E6.out E8.out e9))
        clear e9
        go_wp2
        go_ret
        exact ⟨by rw [HF.out] <;> rfl, HB.out⟩
end Go.Proofs.YtnglaegofhpleaaGreatDoor
namespace Go.Proofs.YtnglaegofhpleaaGreatDoor
open Go.RowKit

def sevL : List Ins := [⟨14, 0, 0, 0, []⟩, ⟨1, 0, 0, 7, []⟩, ⟨10, 0, 0, 0, []⟩, ⟨13, 0, 0, 0, []⟩]
def sevC : Cd := ⟨[], 0, sevL⟩
def sevF : Ft := ⟨false, [], []⟩
def sevE : Ef := ⟨1, 0, [⟨1, 7, []⟩], [], [], [], [], 1⟩
theorem cellsAt_box {W : World} {b n c : Nat} {xs : List Value} {T : TypeId} (h : Bx b xs.toArray T W) : CellsAt W (.slice (some ⟨b, 0, none⟩) n c) n xs := by
  refine ⟨_, _, rfl, fun _ => ⟨_, _, rfl, fun j y hj => ?_⟩⟩
  rw [Nat.zero_add, h.cell j, List.getElem?_toArray]; exact hj
theorem cellsAt_nil (W : World) (n c : Nat) : CellsAt W (.slice none n c) n [] := ⟨_, _, rfl, fun h => absurd rfl h⟩
theorem strS_nil (W : World) (c : Nat) : StrS W (.slice none 0 c) [] := ⟨none, c, rfl, Nat.zero_le _, fun h => absurd rfl h⟩
theorem seven_args {W : World} {ia : Option Addr} (h : CellsAt W (.slice ia 4 4) 4 (insLs sevL)) : VArgs W none ia none none none none 0 4 0 0 0 0 sevC [] [] sevF := ⟨cellsAt_nil _ _ _, h, cellsAt_nil _ _ _, cellsAt_nil _ _ _, strS_nil _ _, strS_nil _ _⟩
def sevV (b : Nat) : Ev := ⟨.slice (some ⟨b, 0, none⟩) 1 1, .slice none 0 0, .slice none 0 0, .slice none 0 0⟩
theorem sevE_in {W : World} {b : Nat} (h : Bx b #[.int .i64 1, .int .i64 7, .string ⟨#[]⟩] 52 W) : EfIn sevE (sevV b) W := ⟨cellsAt_box h, strS_nil _ _, strS_nil _ _, cellsAt_nil _ _ _⟩
theorem sevE_s : EfS sevE := ⟨by decide, by decide, by decide, by decide⟩
theorem seven_run : runS sevC [] [] sevF = sevE := by decide +kernel
theorem seven_trace : traceS sevC [] [] sevF 9 = [0, 1, 2, 3] := by decide +kernel
theorem seven_lim : VLim sevC [] [] sevF := ⟨by decide, by decide, by simp, by simp, by simp [sevF], by decide, by simp, by simp⟩

set_option maxRecDepth 100000 in
set_option maxHeartbeats 8000000 in
theorem seven_any (w : World) :
    Calls Tryz.prog 25 #[] w fun e w' => ∃ ia, e = .returned (.agg #[.slice none 0 0, .int .i64 0, .slice ia 4 4]) ∧ CellsAt w' (.slice ia 4 4) 4 (insLs sevL) ∧ Below w.heap.size w w' := by
  obtain ⟨v0, hW, hb, hx, hy⟩ := boxes2 w #[.slice none 0 0, .int .i64 0, .slice (some ⟨w.heap.size + 1, 0, none⟩) 4 4] 25 #[.int .i64 14, .int .i64 0, .int .i64 0, .int .i64 0, .string ⟨#[]⟩, .int .i64 1, .int .i64 0, .int .i64 0, .int .i64 7, .string ⟨#[]⟩, .int .i64 10, .int .i64 0, .int .i64 0, .int .i64 0, .string ⟨#[]⟩, .int .i64 13, .int .i64 0, .int .i64 0, .int .i64 0, .string ⟨#[]⟩] 45
  have HW := Lib.hid hW; have HB := Lib.hid hb; have HX := Lib.hid hx; have HY := Lib.hid (show Bx (w.heap.size + 1) (insLs sevL).toArray 45 v0 from hy); clear hW hb hx hy
  go_enter Tryz.func25, Tryz.ntmps25
  go_wp2
  rw [HW.out]
  obtain ⟨k0, k1, k2⟩ := HX.out.c3
  refine bodyPost_ret (v := .agg #[.slice none 0 0, .int .i64 0, .slice (some ⟨w.heap.size + 1, 0, none⟩) 4 4]) (by simp [results, Tryz.results25, go_sem, k0, k1, k2] <;> rfl) rfl ⟨_, rfl, cellsAt_box HY.out, HB.out⟩
set_option maxRecDepth 100000 in
set_option maxHeartbeats 16000000 in
theorem lives18 (w : World) (hLB : LaidB w) :
    Calls Tryz.prog 10 #[] w fun e w' => e = .returned (.bool true) ∧ Below w.heap.size w w' := by
  obtain ⟨v0, hW, hb, hx, hy⟩ := boxes2 w #[.int .i64 1, .int .i64 7, .string ⟨#[]⟩] 52 #[.int .i64 1, .int .i64 0, .slice (some ⟨w.heap.size, 0, none⟩) 1 1, .slice none 0 0, .slice none 0 0, .slice none 0 0, .string ⟨#[]⟩, .int .i64 1] 37
  have HW := Lib.hid hW; have HB := Lib.hid hb.drew; have HX := Lib.hid hx.drew; have HY := Lib.hid hy.drew; clear hW hb hx hy
  have HLB := Lib.hid (hLB.below HB.out); clear hLB
  go_enter Tryz.func10, Tryz.ntmps10
  go_upto_region 2 with (fail)
  rw [HW.out]
  clear HW
  skip
  refine wp_region_held_drew (S := (fun w' => Bx (w.heap.size + 1) #[.int .i64 1, .int .i64 0, .slice (some ⟨w.heap.size, 0, none⟩) 1 1, .slice none 0 0, .slice none 0 0, .slice none 0 0, .string ⟨#[]⟩, .int .i64 1] 37 w')) (by kernel_rfl) ?_ (fun hHeld => ?_)
  · exact HY.out
  refine tkY (i := 1) (v := ?vv1) 7 ?yy1 ?_
  case yy1 => intro w hSw; (try dsimp only at hSw); go_simp; (try with_reducible rfl)
  simp only [sA, sB, sC]
  refine tkY (i := 3) (v := ?vv2) 9 ?yy2 ?_
  case yy2 =>
    intro wq hSw
    obtain ⟨z0, z1, z2, z3, z4, z5, z6, z7⟩ := Bx.c8 hSw
    clear hSw
    go_simp
    (try with_reducible rfl)
  simp only [sA, sB, sC]
  refine wpAnyH_ready (rs := [0]) (by kernel_rfl) (by simp) ?_
  refine (AllReadyH.cons rfl (fun K hK => ?_) AllReadyH.nil)
  go_simp
  refine (seven_any v0.drew).mono ?_
  rintro er w1 ⟨ia, rfl, hi1, hb1⟩
  have HI := Lib.hid hi1
  skip
  have HB := Lib.hid (btrans HB.out HB.out.size hb1); have HX := Lib.hid (HX.out.call hb1); have HY := Lib.hid (HY.out.call hb1); have HLB := Lib.hid (HLB.out.below hb1)
  refine hK.out _ _ ?_ (fun hHeld => ?_)
  · exact HY.out
  clear hK K
  (try simp only [Act.put, sA, sB, sC])
  clear hi1 hb1
  refine wpAnyH_ready (rs := [2]) (by kernel_rfl) (by simp) ?_
  refine (AllReadyH.cons rfl (fun K hK => ?_) AllReadyH.nil)
  go_simp
  refine (Run_any none ia none none none none 0 4 0 0 0 0 sevC [] [] sevF w1 (seven_args HI.out) seven_lim HLB.out).mono ?_
  rw [seven_run]
  rintro er w2 ⟨v, rfl, hE, hb2⟩
  have HE := Lib.hid hE
  have HB := Lib.hid (btrans HB.out HB.out.size hb2); have HX := Lib.hid (HX.out.call hb2); have HY := Lib.hid (HY.out.call hb2); have HLB := Lib.hid (HLB.out.below hb2)
  refine hK.out _ _ ?_ (fun hHeld => ?_)
  · exact HY.out
  clear hK K
  (try simp only [Act.put, sA, sB, sC])
  clear hE hb2 HI
  refine wpAnyH_ready (rs := [4]) (by kernel_rfl) (by simp) ?_
  refine (AllReadyH.cons rfl (fun K hK => ?_) AllReadyH.nil)
  go_simp
  refine (RSame_any sevE sevE v (sevV w.heap.size) w2 HE.out (sevE_in HX.out) sevE_s sevE_s).mono ?_
  rw [decide_eq_true rfl]
  rintro er w3 ⟨rfl, hb3⟩
  have HB := Lib.hid (btrans HB.out HB.out.size hb3); have HX := Lib.hid (HX.out.call hb3); have HY := Lib.hid (HY.out.call hb3); have HLB := Lib.hid (HLB.out.below hb3)
  refine hK.out _ _ ?_ (fun hHeld => ?_)
  · exact HY.out
  clear hK K
  (try simp only [Act.put, sA, sB, sC])
  clear hb3 HE
  refine tkY (i := 5) (v := ?vv3) 11 ?yy3 ?_
  case yy3 => intro w hSw; (try dsimp only at hSw); go_simp; (try with_reducible rfl)
  simp only [sA, sB, sC]
  refine tkY (i := 7) (v := ?vv4) 13 ?yy4 ?_
  case yy4 => intro w hSw; (try dsimp only at hSw); go_simp; (try with_reducible rfl)
  simp only [sA, sB, sC]
  refine wpAnyH_ready (rs := [6, 9]) (by kernel_rfl) (by simp) ?_
  refine (AllReadyH.cons rfl (fun K hK => ?_) (AllReadyH.cons rfl (fun K hK => ?_) AllReadyH.nil))
  · skip
    go_simp
    refine (seven_any w3).mono ?_
    rintro er w4 ⟨ia, rfl, hi4, hb4⟩
    have HI := Lib.hid hi4
    skip
    have HB := Lib.hid (btrans HB.out HB.out.size hb4); have HX := Lib.hid (HX.out.call hb4); have HY := Lib.hid (HY.out.call hb4); have HLB := Lib.hid (HLB.out.below hb4)
    refine hK.out _ _ ?_ (fun hHeld => ?_)
    · exact HY.out
    clear hK K
    (try simp only [Act.put, sA, sB, sC])
    clear hi4 hb4
    refine wpAnyH_ready (rs := [8, 9]) (by kernel_rfl) (by simp) ?_
    refine (AllReadyH.cons rfl (fun K hK => ?_) (AllReadyH.cons rfl (fun K hK => ?_) AllReadyH.nil))
    · skip
      go_simp
      refine (Trace_any none ia none none none none 0 4 0 0 0 0 sevC [] [] sevF 9 w4 (seven_args HI.out) seven_lim HLB.out).mono ?_
      rw [seven_trace]
      rintro er w5 ⟨rv, rfl, ho5, hb5⟩
      have HT := Lib.hid (own_intAt ho5)
      have HB := Lib.hid (btrans HB.out HB.out.size hb5); have HX := Lib.hid (HX.out.call hb5); have HY := Lib.hid (HY.out.call hb5); have HLB := Lib.hid (HLB.out.below hb5)
      refine hK.out _ _ ?_ (fun hHeld => ?_)
      · exact HY.out
      clear hK K
      (try simp only [Act.put, sA, sB, sC])
      clear ho5 hb5
      refine wpAnyH_ready (rs := [9]) (by kernel_rfl) (by simp) ?_
      refine (AllReadyH.cons rfl (fun K hK => ?_) AllReadyH.nil)
      obtain ⟨w6, hu, hb6, hs6⟩ := boxes1 w5 #[.int .i64 0, .int .i64 1, .int .i64 2, .int .i64 3] 3
      have HU := Lib.hid hu; clear hu
      have HS := Lib.hid hs6; clear hs6
      have HB := Lib.hid (btrans HB.out HB.out.size hb6); have HX := Lib.hid (HX.out.call hb6); have HY := Lib.hid (HY.out.call hb6); have HLB := Lib.hid (HLB.out.below hb6)
      have HT := Lib.hid (HT.out.below hb6)
      clear hb6
      go_simp
      (try rw [HU.out])
      focus (try go_wp2_with fail)
      (try rw [HU.out])
      refine hK.out _ _ ?_ (fun hHeld => ?_)
      · exact HY.out
      clear hK K
      (try simp only [Act.put, sA, sB, sC])
      clear HU
      refine wpAnyH_ready (rs := [10]) (by kernel_rfl) (by simp) ?_
      refine (AllReadyH.cons rfl (fun K hK => ?_) AllReadyH.nil)
      go_simp
      refine (sameInts_any rv (.slice (some ⟨w5.heap.size, 0, none⟩) 4 4) [0, 1, 2, 3] [0, 1, 2, 3] w6 HT.out (cellsAt_box HS.out) (by decide)).mono ?_
      rw [decide_eq_true rfl]
      rintro er w7 ⟨rfl, hb7⟩
      have HB := Lib.hid (btrans HB.out HB.out.size hb7); have HX := Lib.hid (HX.out.call hb7); have HY := Lib.hid (HY.out.call hb7); have HLB := Lib.hid (HLB.out.below hb7)
      refine hK.out _ _ ?_ (fun hHeld => ?_)
      · exact HY.out
      clear hK K
      (try simp only [Act.put, sA, sB, sC])
      clear hb7
      refine tkY (i := 11) (v := ?vv5) 17 ?yy5 ?_
      case yy5 => intro w hSw; (try dsimp only at hSw); go_simp; (try with_reducible rfl)
      simp only [sA, sB, sC]
      refine tkY (i := 12) (v := ?vv6) 0 ?yy6 ?_
      case yy6 => intro w hSw; (try dsimp only at hSw); go_simp; (try with_reducible rfl)
      simp only [sA, sB]
      refine wpAnyH_done (by kernel_rfl) ?_ _
      go_wp2
      go_ret
      exact ⟨rfl, HB.out⟩
    · skip
      obtain ⟨w5, hu, hb5, hs5⟩ := boxes1 w4 #[.int .i64 0, .int .i64 1, .int .i64 2, .int .i64 3] 3
      have HU := Lib.hid hu; clear hu
      have HS := Lib.hid hs5; clear hs5
      have HB := Lib.hid (btrans HB.out HB.out.size hb5); have HX := Lib.hid (HX.out.call hb5); have HY := Lib.hid (HY.out.call hb5); have HLB := Lib.hid (HLB.out.below hb5)
      have HI := Lib.hid (HI.out.below hb5)
      clear hb5
      go_simp
      (try rw [HU.out])
      focus (try go_wp2_with fail)
      (try rw [HU.out])
      refine hK.out _ _ ?_ (fun hHeld => ?_)
      · exact HY.out
      clear hK K
      (try simp only [Act.put, sA, sB, sC])
      clear HU
      refine wpAnyH_ready (rs := [8]) (by kernel_rfl) (by simp) ?_
      refine (AllReadyH.cons rfl (fun K hK => ?_) AllReadyH.nil)
      go_simp
      refine (Trace_any none ia none none none none 0 4 0 0 0 0 sevC [] [] sevF 9 w5 (seven_args HI.out) seven_lim HLB.out).mono ?_
      rw [seven_trace]
      rintro er w6 ⟨rv, rfl, ho6, hb6⟩
      have HT := Lib.hid (own_intAt ho6)
      have HB := Lib.hid (btrans HB.out HB.out.size hb6); have HX := Lib.hid (HX.out.call hb6); have HY := Lib.hid (HY.out.call hb6); have HLB := Lib.hid (HLB.out.below hb6)
      have HS := Lib.hid (HS.out.call hb6)
      refine hK.out _ _ ?_ (fun hHeld => ?_)
      · exact HY.out
      clear hK K
      (try simp only [Act.put, sA, sB, sC])
      clear ho6 hb6
      refine wpAnyH_ready (rs := [10]) (by kernel_rfl) (by simp) ?_
      refine (AllReadyH.cons rfl (fun K hK => ?_) AllReadyH.nil)
      go_simp
      refine (sameInts_any rv (.slice (some ⟨w4.heap.size, 0, none⟩) 4 4) [0, 1, 2, 3] [0, 1, 2, 3] w6 HT.out (cellsAt_box HS.out) (by decide)).mono ?_
      rw [decide_eq_true rfl]
      rintro er w7 ⟨rfl, hb7⟩
      have HB := Lib.hid (btrans HB.out HB.out.size hb7); have HX := Lib.hid (HX.out.call hb7); have HY := Lib.hid (HY.out.call hb7); have HLB := Lib.hid (HLB.out.below hb7)
      refine hK.out _ _ ?_ (fun hHeld => ?_)
      · exact HY.out
      clear hK K
      (try simp only [Act.put, sA, sB, sC])
      clear hb7
      refine tkY (i := 11) (v := ?vv7) 17 ?yy7 ?_
      case yy7 => intro w hSw; (try dsimp only at hSw); go_simp; (try with_reducible rfl)
      simp only [sA, sB, sC]
      refine tkY (i := 12) (v := ?vv8) 0 ?yy8 ?_
      case yy8 => intro w hSw; (try dsimp only at hSw); go_simp; (try with_reducible rfl)
      simp only [sA, sB]
      refine wpAnyH_done (by kernel_rfl) ?_ _
      go_wp2
      go_ret
      exact ⟨rfl, HB.out⟩
  · skip
    obtain ⟨w4, hu, hb4, hs4⟩ := boxes1 w3 #[.int .i64 0, .int .i64 1, .int .i64 2, .int .i64 3] 3
    have HU := Lib.hid hu; clear hu
    have HS := Lib.hid hs4; clear hs4
    have HB := Lib.hid (btrans HB.out HB.out.size hb4); have HX := Lib.hid (HX.out.call hb4); have HY := Lib.hid (HY.out.call hb4); have HLB := Lib.hid (HLB.out.below hb4)
    clear hb4
    go_simp
    (try rw [HU.out])
    focus (try go_wp2_with fail)
    (try rw [HU.out])
    refine hK.out _ _ ?_ (fun hHeld => ?_)
    · exact HY.out
    clear hK K
    (try simp only [Act.put, sA, sB, sC])
    clear HU
    refine wpAnyH_ready (rs := [6]) (by kernel_rfl) (by simp) ?_
    refine (AllReadyH.cons rfl (fun K hK => ?_) AllReadyH.nil)
    go_simp
    refine (seven_any w4).mono ?_
    rintro er w5 ⟨ia, rfl, hi5, hb5⟩
    have HI := Lib.hid hi5
    have HS := Lib.hid (HS.out.call hb5)
    have HB := Lib.hid (btrans HB.out HB.out.size hb5); have HX := Lib.hid (HX.out.call hb5); have HY := Lib.hid (HY.out.call hb5); have HLB := Lib.hid (HLB.out.below hb5)
    refine hK.out _ _ ?_ (fun hHeld => ?_)
    · exact HY.out
    clear hK K
    (try simp only [Act.put, sA, sB, sC])
    clear hi5 hb5
    refine wpAnyH_ready (rs := [8]) (by kernel_rfl) (by simp) ?_
    refine (AllReadyH.cons rfl (fun K hK => ?_) AllReadyH.nil)
    go_simp
    refine (Trace_any none ia none none none none 0 4 0 0 0 0 sevC [] [] sevF 9 w5 (seven_args HI.out) seven_lim HLB.out).mono ?_
    rw [seven_trace]
    rintro er w6 ⟨rv, rfl, ho6, hb6⟩
    have HT := Lib.hid (own_intAt ho6)
    have HB := Lib.hid (btrans HB.out HB.out.size hb6); have HX := Lib.hid (HX.out.call hb6); have HY := Lib.hid (HY.out.call hb6); have HLB := Lib.hid (HLB.out.below hb6)
    have HS := Lib.hid (HS.out.call hb6)
    refine hK.out _ _ ?_ (fun hHeld => ?_)
    · exact HY.out
    clear hK K
    (try simp only [Act.put, sA, sB, sC])
    clear ho6 hb6
    refine wpAnyH_ready (rs := [10]) (by kernel_rfl) (by simp) ?_
    refine (AllReadyH.cons rfl (fun K hK => ?_) AllReadyH.nil)
    go_simp
    refine (sameInts_any rv (.slice (some ⟨w3.heap.size, 0, none⟩) 4 4) [0, 1, 2, 3] [0, 1, 2, 3] w6 HT.out (cellsAt_box HS.out) (by decide)).mono ?_
    rw [decide_eq_true rfl]
    rintro er w7 ⟨rfl, hb7⟩
    have HB := Lib.hid (btrans HB.out HB.out.size hb7); have HX := Lib.hid (HX.out.call hb7); have HY := Lib.hid (HY.out.call hb7); have HLB := Lib.hid (HLB.out.below hb7)
    refine hK.out _ _ ?_ (fun hHeld => ?_)
    · exact HY.out
    clear hK K
    (try simp only [Act.put, sA, sB, sC])
    clear hb7
    refine tkY (i := 11) (v := ?vv9) 17 ?yy9 ?_
    case yy9 => intro w hSw; (try dsimp only at hSw); go_simp; (try with_reducible rfl)
    simp only [sA, sB, sC]
    refine tkY (i := 12) (v := ?vv10) 0 ?yy10 ?_
    case yy10 => intro w hSw; (try dsimp only at hSw); go_simp; (try with_reducible rfl)
    simp only [sA, sB]
    refine wpAnyH_done (by kernel_rfl) ?_ _
    go_wp2
    go_ret
    exact ⟨rfl, HB.out⟩
end Go.Proofs.YtnglaegofhpleaaGreatDoor
namespace Go.Proofs.YtnglaegofhpleaaGreatDoor
open Go.RowKit

theorem Bx.c7 {b : Nat} {u0 u1 u2 u3 u4 u5 u6 : Value} {T : TypeId} {W : World} (h : Bx b #[u0, u1, u2, u3, u4, u5, u6] T W) : W.cell? ⟨b, 0, none⟩ = some u0 ∧ W.cell? ⟨b, 1, none⟩ = some u1 ∧ W.cell? ⟨b, 2, none⟩ = some u2 ∧ W.cell? ⟨b, 3, none⟩ = some u3 ∧ W.cell? ⟨b, 4, none⟩ = some u4 ∧ W.cell? ⟨b, 5, none⟩ = some u5 ∧ W.cell? ⟨b, 6, none⟩ = some u6 := ⟨h.cell 0, h.cell 1, h.cell 2, h.cell 3, h.cell 4, h.cell 5, h.cell 6⟩
set_option maxRecDepth 100000 in
set_option maxHeartbeats 4000000 in
theorem Bx.sets5 {b : Nat} {T : TypeId} {W : World} {z0 z1 z2 z3 z4 : Value} (h : Bx b #[z0, z1, z2, z3, z4] T W) (u0 u1 u2 u3 u4 : Value) :
    Bx b #[u0, u1, u2, u3, u4] T (((((W.setCell ⟨b, 0, none⟩ u0).setCell ⟨b, 1, none⟩ u1).setCell ⟨b, 2, none⟩ u2).setCell ⟨b, 3, none⟩ u3).setCell ⟨b, 4, none⟩ u4) := (((((h.set 0 u0).set 1 u1).set 2 u2).set 3 u3).set 4 u4)
theorem below_sets5 {B : Nat} {w W : World} (h : Below B w W) (b : Nat) (hb : B ≤ b) (u0 u1 u2 u3 u4 : Value) :
    Below B w (((((W.setCell ⟨b, 0, none⟩ u0).setCell ⟨b, 1, none⟩ u1).setCell ⟨b, 2, none⟩ u2).setCell ⟨b, 3, none⟩ u3).setCell ⟨b, 4, none⟩ u4) := (below_set (below_set (below_set (below_set (below_set h b 0 hb u0) b 1 hb u1) b 2 hb u2) b 3 hb u3) b 4 hb u4)
theorem trace_chain (c : Cd) (A : List Vl) (M : List Pr) (F : Ft) (lim : Int) : chnB c.l (traceS c A M F lim) := by
  unfold traceS
  by_cases h : staB c A M F = true
  · rw [if_pos h]
    unfold staB at h
    simp only [Bool.and_eq_true, decide_eq_true_eq] at h
    have h1 := valC_parts h.1
    exact run_chain h.1 M F _ _ _ _ _ _ (fun i hi => absurd hi (Nat.not_lt_zero _)) (fun _ => ⟨⟨Int.le_refl _, by have := h1.2.2.2.2.2.1; omega⟩, fun _ => rfl, fun e => absurd rfl e⟩)
  · rw [if_neg h]; exact fun i hi => absurd hi (Nat.not_lt_zero _)
theorem trace_take (c : Cd) (A : List Vl) (M : List Pr) (F : Ft) {a b : Nat} (h : a ≤ b) : traceS c A M F (a : Int) = (traceS c A M F (b : Int)).take a := by
  unfold traceS
  by_cases hs : staB c A M F = true
  · rw [if_pos hs, if_pos hs]; exact run_take M F c.l a b h _ _ _ _ _ (Nat.zero_le _)
  · rw [if_neg hs, if_neg hs]; simp
theorem trace_lim (c : Cd) (A : List Vl) (M : List Pr) (F : Ft) (b : Nat) : (traceS c A M F (b : Int)).length ≤ b := by
  unfold traceS
  by_cases hs : staB c A M F = true
  · rw [if_pos hs]; exact run_lim M F c.l b _ _ _ _ _ (Nat.zero_le _)
  · rw [if_neg hs]; exact Nat.zero_le _
theorem trace_bad {c : Cd} (h : valC c ≠ 0) (A : List Vl) (M : List Pr) (F : Ft) (lim : Int) : traceS c A M F lim = [] := by
  unfold traceS staB
  rw [if_neg]
  simp [h]
theorem own_cap {w : World} {base size n cap : Nat} {e : TypeId} {a : Option Addr} {xs : List Value} (h : w.ownsRow base e size (.slice a n cap) n xs) : n ≤ cap := by
  rcases h.2 with ⟨h1, h2⟩ | ⟨g, c, cur, h1, _, _, h2, _⟩
  · omega
  · cases h1; exact h2
theorem cellsAt_take {W : World} {a : Option Addr} {n c k : Nat} {L : List Int} (h : CellsAt W (.slice a n c) n (intsL L)) : CellsAt W (.slice a k c) k (intsL (L.take k)) := by
  obtain ⟨a2, c2, he, hc⟩ := h
  simp only [Value.slice.injEq] at he
  obtain ⟨rfl, -, rfl⟩ := he
  refine ⟨_, _, rfl, fun hne => ?_⟩
  obtain ⟨b, off, hb, hcell⟩ := hc (fun e => hne (by rw [show L = [] from List.map_eq_nil_iff.1 e, List.take_nil]; rfl))
  refine ⟨b, off, hb, fun j y hj => hcell j y ?_⟩
  unfold intsL at hj ⊢
  rw [List.getElem?_map] at hj ⊢
  rw [List.getElem?_take] at hj
  split at hj
  · exact hj
  · simp at hj

set_option maxRecDepth 100000 in
set_option maxHeartbeats 32000000 in
theorem stepsWalk18 (pa ia aa sa ra wa : Option Addr) (pc ic ac sc rc wac : Nat) (c : Cd) (A : List Vl) (M : List Pr) (F : Ft) (most : Int) (wm : (Lit.int .u8 most).wf = true) {w : World} (hA : VArgs w pa ia aa sa ra wa pc ic ac sc rc wac c A M F) (hl : VLim c A M F) (hLB : LaidB w) :
    Calls Tryz.prog 5 #[.agg #[.slice pa c.p.length pc, .int .i64 c.sl, .slice ia c.l.length ic, .slice aa A.length ac, .bool F.all, .slice ra F.rd.length rc, .slice wa F.wr.length wac], .slice sa M.length sc, .int .u8 most] w fun e w' => e = .returned (.bool true) ∧ Below w.heap.size w w' := by
  obtain ⟨m0, m1⟩ : 0 ≤ most ∧ most ≤ 255 := by simp [Lit.wf, IntKind.min, IntKind.max, IntKind.signed, IntKind.bits] at wm; omega
  obtain ⟨mo, rfl⟩ : ∃ mo : Nat, most = (mo : Int) := ⟨most.toNat, by omega⟩
  have hmo : mo ≤ 255 := by omega
  clear wm m0 m1
  obtain ⟨Lt, hLt⟩ : ∃ t, traceS c A M F 300 = t := ⟨_, rfl⟩
  obtain ⟨Pt, hPt⟩ : ∃ t, traceS c A M F (mo : Int) = t := ⟨_, rfl⟩
  have hl3 : Lt.length ≤ 300 := by rw [← hLt]; exact trace_lim c A M F 300
  have hpt : Pt = Lt.take mo := by rw [← hLt, ← hPt]; exact trace_take c A M F (a := mo) (b := 300) (by omega)
  have hpl : Pt.length = min Lt.length mo := by rw [hpt, List.length_take, Nat.min_comm]
  have hpp : Lt.take Pt.length = Pt := by rw [hpl, hpt, Nat.min_comm]; exact (List.take_eq_take_min).symm
  have hch : chnB c.l Lt := by rw [← hLt]; exact trace_chain c A M F 300
  have hbd : valC c ≠ 0 → Lt = [] := fun h => by rw [← hLt]; exact trace_bad h A M F 300
  have HLT := Lib.hid hLt; have HPT := Lib.hid hPt; have HPP := Lib.hid hpp; have HCH := Lib.hid hch; have HBD := Lib.hid hbd; have HPL := Lib.hid hpl; have HA := Lib.hid hA; have HL := Lib.hid hl; have HLB := Lib.hid hLB; clear hLt hPt hpt hpp hpl hch hbd hA hl hLB
  obtain ⟨v0, hW0, hb0, hx0⟩ := boxes1 w #[.slice pa c.p.length pc, .int .i64 c.sl, .slice ia c.l.length ic, .slice aa A.length ac, .bool F.all, .slice ra F.rd.length rc, .slice wa F.wr.length wac] 31
  have HW := Lib.hid hW0; have HB := Lib.hid hb0; have HR := Lib.hid hx0; clear hW0 hb0 hx0
  have HA := Lib.hid (HA.out.below HB.out); have HLB := Lib.hid (HLB.out.below HB.out)
  have hwi : IntKind.i64.wrap (mo : Int) = (mo : Int) := by rw [IntKind.wrap_i64]; omega
  go_enter Tryz.func5, Tryz.ntmps5
  go_upto_region 1 with (fail)
  rw [HW.out]
  clear HW
  refine wp_region_held_drew (S := (fun w' => Bx w.heap.size #[.slice pa c.p.length pc, .int .i64 c.sl, .slice ia c.l.length ic, .slice aa A.length ac, .bool F.all, .slice ra F.rd.length rc, .slice wa F.wr.length wac] 31 w')) (by kernel_rfl) ?_ (fun hHeld => ?_)
  · exact HR.out.drew
  refine tkY (i := 0) (v := ?vv1) 12 ?yy1 ?_
  case yy1 => intro w hSw; (try dsimp only at hSw); go_simp; (try with_reducible rfl)
  simp only [sA, sB, sC]
  refine tkY (i := 1) (v := ?vv2) 13 ?yy2 ?_
  case yy2 =>
    intro wq hSw
    obtain ⟨z0, z1, z2, z3, z4, z5, z6⟩ := Bx.c7 hSw
    clear hSw
    go_simp
    (try with_reducible rfl)
  simp only [sA, sB, sC]
  refine tkY (i := 2) (v := ?vv3) 14 ?yy3 ?_
  case yy3 => intro w hSw; (try dsimp only at hSw); go_simp; (try with_reducible rfl)
  simp only [sA, sB, sC]
  refine tkY (i := 3) (v := ?vv4) 15 ?yy4 ?_
  case yy4 =>
    intro wq hSw
    obtain ⟨z0, z1, z2, z3, z4, z5, z6⟩ := Bx.c7 hSw
    clear hSw
    go_simp
    (try with_reducible rfl)
  simp only [sA, sB, sC]
  refine tkY (i := 4) (v := ?vv5) 16 ?yy5 ?_
  case yy5 => intro w hSw; (try dsimp only at hSw); go_simp; (try with_reducible rfl)
  simp only [sA, sB, sC]
  refine tkY (i := 5) (v := ?vv6) 17 ?yy6 ?_
  case yy6 => intro w hSw; (try dsimp only at hSw); go_simp; (try with_reducible rfl)
  simp only [sA, sB, sC]
  refine tkY (i := 6) (v := ?vv7) 18 ?yy7 ?_
  case yy7 =>
    intro wq hSw
    obtain ⟨z0, z1, z2, z3, z4, z5, z6⟩ := Bx.c7 hSw
    clear hSw
    go_simp
    (try with_reducible rfl)
  simp only [sA, sB, sC]
  refine tkY (i := 8) (v := ?vv8) 20 ?yy8 ?_
  case yy8 => intro w hSw; (try dsimp only at hSw); go_simp; (try with_reducible rfl)
  simp only [sA, sB, sC]
  refine tkY (i := 9) (v := ?vv9) 21 ?yy9 ?_
  case yy9 =>
    intro wq hSw
    obtain ⟨z0, z1, z2, z3, z4, z5, z6⟩ := Bx.c7 hSw
    clear hSw
    go_simp
    (try with_reducible rfl)
  simp only [sA, sB, sC]
  refine tkY (i := 10) (v := ?vv10) 22 ?yy10 ?_
  case yy10 => intro w hSw; (try dsimp only at hSw); go_simp; (try with_reducible rfl)
  simp only [sA, sB, sC]
  refine tkY (i := 11) (v := ?vv11) 23 ?yy11 ?_
  case yy11 =>
    intro wq hSw
    obtain ⟨z0, z1, z2, z3, z4, z5, z6⟩ := Bx.c7 hSw
    clear hSw
    go_simp
    (try with_reducible rfl)
  simp only [sA, sB, sC]
  refine tkY (i := 12) (v := ?vv12) 24 ?yy12 ?_
  case yy12 => intro w hSw; (try dsimp only at hSw); go_simp; (try with_reducible rfl)
  simp only [sA, sB, sC]
  refine tkY (i := 13) (v := ?vv13) 25 ?yy13 ?_
  case yy13 => intro w hSw; (try dsimp only at hSw); go_simp; (try with_reducible rfl)
  simp only [sA, sB, sC]
  refine tkY (i := 14) (v := ?vv14) 26 ?yy14 ?_
  case yy14 =>
    intro wq hSw
    obtain ⟨z0, z1, z2, z3, z4, z5, z6⟩ := Bx.c7 hSw
    clear hSw
    go_simp
    (try with_reducible rfl)
  simp only [sA, sB, sC]
  refine tkY (i := 15) (v := ?vv15) 27 ?yy15 ?_
  case yy15 => intro w hSw; (try dsimp only at hSw); go_simp; (try with_reducible rfl)
  simp only [sA, sB, sC]
  refine tkY (i := 16) (v := ?vv16) 28 ?yy16 ?_
  case yy16 => intro w hSw; (try dsimp only at hSw); go_simp; (try with_reducible rfl)
  simp only [sA, sB, sC]
  have HB := Lib.hid HB.out.drew; have HR := Lib.hid HR.out.drew; have HA := Lib.hid (HA.out.below (Below.refl _ _).drew); have HLB := Lib.hid (HLB.out.below (Below.refl _ _).drew)
  refine wpAnyH_ready (rs := [7]) (by kernel_rfl) (by simp) ?_
  refine (AllReadyH.cons rfl (fun K hK => ?_) AllReadyH.nil)
  go_simp
  refine (Trace_any pa ia aa sa ra wa pc ic ac sc rc wac c A M F 300 v0.drew HA.out HL.out HLB.out).mono ?_
  rw [HLT.out]
  rintro er w1 ⟨rv1, rfl, ho1, hb1⟩
  obtain ⟨la, lc, hrv⟩ := own_sl ho1
  subst hrv
  have hcap := own_cap ho1
  have HLA := Lib.hid (own_intAt ho1)
  have HB := Lib.hid (btrans HB.out HB.out.size hb1); have HR := Lib.hid (HR.out.call hb1); have HA := Lib.hid (HA.out.below hb1); have HLB := Lib.hid (HLB.out.below hb1)
  refine hK.out _ _ ?_ (fun hHeld => ?_)
  · exact HR.out
  clear hK K
  (try simp only [Act.put, sA, sB, sC])
  clear ho1 hb1
  refine wpAnyH_ready (rs := [17]) (by kernel_rfl) (by simp) ?_
  refine (AllReadyH.cons rfl (fun K hK => ?_) AllReadyH.nil)
  go_simp
  refine (Trace_any pa ia aa sa ra wa pc ic ac sc rc wac c A M F (mo : Int) w1 HA.out HL.out HLB.out).mono ?_
  rw [HPT.out]
  rintro er w2 ⟨rv2, rfl, ho2, hb2⟩
  obtain ⟨qa, qc, hrv⟩ := own_sl ho2
  subst hrv
  have HPA := Lib.hid (own_intAt ho2)
  have HLA := Lib.hid (HLA.out.below hb2)
  have HB := Lib.hid (btrans HB.out HB.out.size hb2); have HR := Lib.hid (HR.out.call hb2); have HA := Lib.hid (HA.out.below hb2); have HLB := Lib.hid (HLB.out.below hb2)
  refine hK.out _ _ ?_ (fun hHeld => ?_)
  · exact HR.out
  clear hK K
  (try simp only [Act.put, sA, sB, sC])
  clear ho2 hb2 hHeld
  refine tkY (i := 18) (v := ?vv17) 7 ?yy17 ?_
  case yy17 => intro w hSw; (try dsimp only at hSw); go_simp; (try with_reducible rfl)
  simp only [sA, sB, sC]
  refine tkY (i := 19) (v := ?vv18) 8 ?yy18 ?_
  case yy18 => intro w hSw; (try dsimp only at hSw); go_simp; (try with_reducible rfl)
  simp only [sA, sB, sC]
  refine wpAnyH_done (by kernel_rfl) ?_ _
  have t1 : ¬ (300 : Int) < (Lt.length : Int) := by omega
  have t2 : min (Lt.length : Int) (mo : Int) = (Pt.length : Int) := by have := HPL.out; omega
  have t3 : (0 : Int) ≤ (Pt.length : Int) ∧ (Pt.length : Int) ≤ (Lt.length : Int) := by have := HPL.out; omega
  go_upto_region 2 with (fail)
  go_wp2_with fail
  have hpm : Pt.length ≤ 300 := by omega
  refine (sameInts_any (.slice la Pt.length lc) (.slice qa Pt.length qc) Pt Pt w2 (by have h := cellsAt_take (k := Pt.length) HLA.out; rw [HPP.out] at h; exact h) HPA.out (by omega)).mono ?_
  rw [decide_eq_true rfl]
  rintro er w3 ⟨rfl, hb3⟩
  have HLA := Lib.hid (HLA.out.below hb3)
  have HB := Lib.hid (btrans HB.out HB.out.size hb3); have HR := Lib.hid (HR.out.call hb3); have HA := Lib.hid (HA.out.below hb3); have HLB := Lib.hid (HLB.out.below hb3)
  clear hb3 t1 t2 t3 hpm
  go_wp2
  go_loopw [9] (fun i wr => ∃ k : Nat, k ≤ Lt.length ∧ i = .int .i64 k ∧ Hid (CellsAt wr (.slice la Lt.length lc) Lt.length (intsL Lt)) ∧ Hid (Bx w.heap.size #[.slice pa c.p.length pc, .int .i64 c.sl, .slice ia c.l.length ic, .slice aa A.length ac, .bool F.all, .slice ra F.rd.length rc, .slice wa F.wr.length wac] 31 wr) ∧ Hid (VArgs wr pa ia aa sa ra wa pc ic ac sc rc wac c A M F) ∧ Hid (LaidB wr) ∧ Below w.heap.size w wr) (fun i _ => Lt.length - (intOf i).toNat)
  case atStart => exact ⟨0, Nat.zero_le _, rfl, HLA, HR, HA, HLB, HB.out⟩
  case round =>
    clear HLA HR HA HLB HB
    obtain ⟨k, hk, rfl, HLA, HR, HA, HLB, hB⟩ := hrel
    have HB := Lib.hid hB; clear hB
    by_cases hlt : k < Lt.length
    · have hlt' : (k : Int) < (Lt.length : Int) := by omega
      have hw1 : IntKind.i64.wrap ((k : Int) + 1) = (k : Int) + 1 := by rw [IntKind.wrap_i64]; omega
      obtain ⟨c1, c2, c3, c4⟩ := HCH.out k hlt
      obtain ⟨x, hx⟩ : ∃ x, Lt.getD k 0 = x := ⟨_, rfl⟩
      rw [hx] at c1 c2 c3 c4
      have hxg : Lt[k] = x := by rw [← hx, List.getD_eq_getElem?_getD, List.getElem?_eq_getElem hlt]; rfl
      have HX := Lib.hid hxg; clear hx hxg
      have d1 : decide (x < 0) = false := decide_eq_false (by omega)
      have d2 : decide ((c.l.length : Int) ≤ x) = false := decide_eq_false (by omega)
      have C3 := Lib.hid c3; have C4 := Lib.hid c4; clear c3 c4
      have hxr : x < (c.l.length : Int) ∧ 0 ≤ x := ⟨c2, c1⟩
      have HXR := Lib.hid hxr; clear c1 c2 hxr
      obtain ⟨bl, ol, hle, p0⟩ := int_cells HLA.out hlt
      cases hle
      rw [HX.out] at p0
      have HP0 := Lib.hid p0; clear p0
      have t0 : (0 : Int) ≤ (k : Int) := by omega
      go_upto_region 7 with (fail)
      have HS0 := Lib.hid (show (fun w' => w'.cell? ⟨bl, ol + k, none⟩ = some (.int .i64 x) ∧ Bx w.heap.size #[.slice pa c.p.length pc, .int .i64 c.sl, .slice ia c.l.length ic, .slice aa A.length ac, .bool F.all, .slice ra F.rd.length rc, .slice wa F.wr.length wac] 31 w') wr.drew from ⟨HP0.out, HR.out.drew⟩)
      by_cases hk0 : k = 0
      · have tk : ((k : Int) == 0) = true := by rw [hk0]; rfl
        have tx : (x != 0) = false := by rw [C3.out hk0]; rfl
        clear hk0
        refine wp_region_held_drew (S := (fun w' => w'.cell? ⟨bl, ol + k, none⟩ = some (.int .i64 x) ∧ Bx w.heap.size #[.slice pa c.p.length pc, .int .i64 c.sl, .slice ia c.l.length ic, .slice aa A.length ac, .bool F.all, .slice ra F.rd.length rc, .slice wa F.wr.length wac] 31 w')) (by kernel_rfl) ?_ (fun hHeld => ?_)
        · exact HS0.out
        refine tkY (i := 0) (v := ?vv19) 58 ?yy19 ?_
        case yy19 => intro w hSw; (try dsimp only at hSw); go_simp; (try with_reducible rfl)
        simp only [sA, sB, sC]
        refine tkY (i := 1) (v := ?vv20) 59 ?yy20 ?_
        case yy20 => intro w hSw; (try dsimp only at hSw); go_simp; (try with_reducible rfl)
        simp only [sA, sB, sC]
        refine tkY (i := 2) (v := ?vv21) 60 ?yy21 ?_
        case yy21 => intro w hSw; (try dsimp only at hSw); go_simp; (try with_reducible rfl)
        simp only [sA, sB, sC]
        refine tkY (i := 3) (v := ?vv22) 61 ?yy22 ?_
        case yy22 =>
          intro wq hSw
          obtain ⟨z0, zx⟩ := id hSw
          clear zx
          clear hSw
          go_simp
          (try with_reducible rfl)
        simp only [sA, sB, sC]
        refine tkY (i := 4) (v := ?vv23) 62 ?yy23 ?_
        case yy23 => intro w hSw; (try dsimp only at hSw); go_simp; (try with_reducible rfl)
        simp only [sA, sB, sC]
        refine tkY (i := 5) (v := ?vv24) 63 ?yy24 ?_
        case yy24 => intro w hSw; (try dsimp only at hSw); go_simp; (try with_reducible rfl)
        simp only [sA, sB, sC]
        refine tkY (i := 6) (v := ?vv25) 64 ?yy25 ?_
        case yy25 => intro w hSw; (try dsimp only at hSw); go_simp; (try with_reducible rfl)
        simp only [sA, sB, sC]
        refine tkY (i := 7) (v := ?vv26) 65 ?yy26 ?_
        case yy26 => intro w hSw; (try dsimp only at hSw); go_simp; (try with_reducible rfl)
        simp only [sA, sB, sC]
        refine tkY (i := 8) (v := ?vv27) 66 ?yy27 ?_
        case yy27 => intro w hSw; (try dsimp only at hSw); go_simp; (try with_reducible rfl)
        simp only [sA, sB, sC]
        refine tkY (i := 9) (v := ?vv28) 67 ?yy28 ?_
        case yy28 =>
          intro wq hSw
          obtain ⟨z0, zx⟩ := id hSw
          clear zx
          clear hSw
          go_simp
          (try with_reducible rfl)
        simp only [sA, sB, sC]
        refine tkY (i := 10) (v := ?vv29) 68 ?yy29 ?_
        case yy29 => intro w hSw; (try dsimp only at hSw); go_simp; (try with_reducible rfl)
        simp only [sA, sB, sC]
        refine tkY (i := 11) (v := ?vv30) 69 ?yy30 ?_
        case yy30 => intro w hSw; (try dsimp only at hSw); go_simp; (try with_reducible rfl)
        simp only [sA, sB, sC]
        refine tkY (i := 12) (v := ?vv31) 70 ?yy31 ?_
        case yy31 =>
          intro wq hSw
          obtain ⟨z, zx⟩ := id hSw
          clear z
          obtain ⟨z0, z1, z2, z3, z4, z5, z6⟩ := zx.c7
          clear zx
          clear hSw
          go_simp
          (try with_reducible rfl)
        simp only [sA, sB, sC]
        refine tkY (i := 13) (v := ?vv32) 71 ?yy32 ?_
        case yy32 => intro w hSw; (try dsimp only at hSw); go_simp; (try with_reducible rfl)
        simp only [sA, sB, sC]
        refine tkY (i := 14) (v := ?vv33) 72 ?yy33 ?_
        case yy33 => intro w hSw; (try dsimp only at hSw); go_simp; (try with_reducible rfl)
        simp only [sA, sB, sC]
        refine tkY (i := 15) (v := ?vv34) 73 ?yy34 ?_
        case yy34 => intro w hSw; (try dsimp only at hSw); go_simp; (try with_reducible rfl)
        simp only [sA, sB, sC]
        refine tkY (i := 16) (v := ?vv35) 74 ?yy35 ?_
        case yy35 => intro w hSw; (try dsimp only at hSw); go_simp; (try with_reducible rfl)
        simp only [sA, sB, sC]
        refine tkY (i := 17) (v := ?vv36) 75 ?yy36 ?_
        case yy36 => intro w hSw; (try dsimp only at hSw); go_simp; (try with_reducible rfl)
        simp only [sA, sB, sC]
        refine tkY (i := 18) (v := ?vv37) 76 ?yy37 ?_
        case yy37 => intro w hSw; (try dsimp only at hSw); go_simp; (try with_reducible rfl)
        simp only [sA, sB, sC]
        refine tkY (i := 19) (v := ?vv38) 77 ?yy38 ?_
        case yy38 => intro w hSw; (try dsimp only at hSw); go_simp; (try with_reducible rfl)
        simp only [sA, sB, sC]
        refine tkY (i := 20) (v := ?vv39) 78 ?yy39 ?_
        case yy39 => intro w hSw; (try dsimp only at hSw); go_simp; (try with_reducible rfl)
        simp only [sA, sB, sC]
        refine tkY (i := 21) (v := ?vv40) 79 ?yy40 ?_
        case yy40 => intro w hSw; (try dsimp only at hSw); go_simp; (try with_reducible rfl)
        simp only [sA, sB, sC]
        refine tkY (i := 22) (v := ?vv41) 80 ?yy41 ?_
        case yy41 => intro w hSw; (try dsimp only at hSw); go_simp; (try with_reducible rfl)
        simp only [sA, sB, sC]
        refine tkY (i := 23) (v := ?vv42) 81 ?yy42 ?_
        case yy42 =>
          intro wq hSw
          obtain ⟨z0, zx⟩ := id hSw
          clear zx
          clear hSw
          go_simp
          (try with_reducible rfl)
        simp only [sA, sB, sC]
        refine tkY (i := 24) (v := ?vv43) 82 ?yy43 ?_
        case yy43 => intro w hSw; (try dsimp only at hSw); go_simp; (try with_reducible rfl)
        simp only [sA, sB, sC]
        refine tkY (i := 25) (v := ?vv44) 83 ?yy44 ?_
        case yy44 => intro w hSw; (try dsimp only at hSw); go_simp; (try with_reducible rfl)
        simp only [sA, sB, sC]
        refine tkY (i := 26) (v := ?vv45) 84 ?yy45 ?_
        case yy45 => intro w hSw; (try dsimp only at hSw); go_simp; (try with_reducible rfl)
        simp only [sA, sB, sC]
        refine wpAnyH_done (by kernel_rfl) ?_ _
        clear hHeld
        have HB := Lib.hid (HB.out.trans (Below.refl _ _).drew); have HLA := Lib.hid (HLA.out.below (Below.refl _ _).drew); have HR := Lib.hid HR.out.drew; have HA := Lib.hid (HA.out.below (Below.refl _ _).drew); have HLB := Lib.hid (HLB.out.below (Below.refl _ _).drew)
        go_wp2
        go_roundw
        case rel => exact ⟨k + 1, by omega, by go_num, HLA, HR, HA, HLB, HB.out⟩
        case measure => simp [intOf]; omega
      have tk : ((k : Int) == 0) = false := by rw [beq_eq_false_iff_ne]; omega
      have CF := Lib.hid (C4.out (by omega))
      obtain ⟨j, hj⟩ : ∃ j, k - 1 = j := ⟨_, rfl⟩
      rw [hj] at CF
      have hjl : j < Lt.length := by omega
      have hjl' : (j : Int) < (Lt.length : Int) := by omega
      have tj : (0 : Int) ≤ (j : Int) := by omega
      have hwj : IntKind.i64.wrap ((k : Int) - 1) = (j : Int) := by rw [IntKind.wrap_i64]; omega
      refine wp_region_held_drew (S := (fun w' => w'.cell? ⟨bl, ol + k, none⟩ = some (.int .i64 x) ∧ Bx w.heap.size #[.slice pa c.p.length pc, .int .i64 c.sl, .slice ia c.l.length ic, .slice aa A.length ac, .bool F.all, .slice ra F.rd.length rc, .slice wa F.wr.length wac] 31 w')) (by kernel_rfl) ?_ (fun hHeld => ?_)
      · exact HS0.out
      refine tkY (i := 0) (v := ?vv46) 58 ?yy46 ?_
      case yy46 => intro w hSw; (try dsimp only at hSw); go_simp; (try with_reducible rfl)
      simp only [sA, sB, sC]
      refine tkY (i := 1) (v := ?vv47) 59 ?yy47 ?_
      case yy47 => intro w hSw; (try dsimp only at hSw); go_simp; (try with_reducible rfl)
      simp only [sA, sB, sC]
      refine tkY (i := 2) (v := ?vv48) 60 ?yy48 ?_
      case yy48 => intro w hSw; (try dsimp only at hSw); go_simp; (try with_reducible rfl)
      simp only [sA, sB, sC]
      refine tkY (i := 3) (v := ?vv49) 61 ?yy49 ?_
      case yy49 =>
        intro wq hSw
        obtain ⟨z0, zx⟩ := id hSw
        clear zx
        clear hSw
        go_simp
        (try with_reducible rfl)
      simp only [sA, sB, sC]
      refine tkY (i := 4) (v := ?vv50) 62 ?yy50 ?_
      case yy50 => intro w hSw; (try dsimp only at hSw); go_simp; (try with_reducible rfl)
      simp only [sA, sB, sC]
      refine tkY (i := 5) (v := ?vv51) 63 ?yy51 ?_
      case yy51 => intro w hSw; (try dsimp only at hSw); go_simp; (try with_reducible rfl)
      simp only [sA, sB, sC]
      refine tkY (i := 6) (v := ?vv52) 64 ?yy52 ?_
      case yy52 => intro w hSw; (try dsimp only at hSw); go_simp; (try with_reducible rfl)
      simp only [sA, sB, sC]
      refine tkY (i := 7) (v := ?vv53) 65 ?yy53 ?_
      case yy53 => intro w hSw; (try dsimp only at hSw); go_simp; (try with_reducible rfl)
      simp only [sA, sB, sC]
      refine tkY (i := 8) (v := ?vv54) 66 ?yy54 ?_
      case yy54 => intro w hSw; (try dsimp only at hSw); go_simp; (try with_reducible rfl)
      simp only [sA, sB, sC]
      refine tkY (i := 9) (v := ?vv55) 67 ?yy55 ?_
      case yy55 =>
        intro wq hSw
        obtain ⟨z0, zx⟩ := id hSw
        clear zx
        clear hSw
        go_simp
        (try with_reducible rfl)
      simp only [sA, sB, sC]
      refine tkY (i := 10) (v := ?vv56) 68 ?yy56 ?_
      case yy56 => intro w hSw; (try dsimp only at hSw); go_simp; (try with_reducible rfl)
      simp only [sA, sB, sC]
      refine tkY (i := 11) (v := ?vv57) 69 ?yy57 ?_
      case yy57 => intro w hSw; (try dsimp only at hSw); go_simp; (try with_reducible rfl)
      simp only [sA, sB, sC]
      refine tkY (i := 12) (v := ?vv58) 70 ?yy58 ?_
      case yy58 =>
        intro wq hSw
        obtain ⟨z, zx⟩ := id hSw
        clear z
        obtain ⟨z0, z1, z2, z3, z4, z5, z6⟩ := zx.c7
        clear zx
        clear hSw
        go_simp
        (try with_reducible rfl)
      simp only [sA, sB, sC]
      refine tkY (i := 13) (v := ?vv59) 71 ?yy59 ?_
      case yy59 => intro w hSw; (try dsimp only at hSw); go_simp; (try with_reducible rfl)
      simp only [sA, sB, sC]
      refine tkY (i := 14) (v := ?vv60) 72 ?yy60 ?_
      case yy60 => intro w hSw; (try dsimp only at hSw); go_simp; (try with_reducible rfl)
      simp only [sA, sB, sC]
      refine tkY (i := 15) (v := ?vv61) 73 ?yy61 ?_
      case yy61 => intro w hSw; (try dsimp only at hSw); go_simp; (try with_reducible rfl)
      simp only [sA, sB, sC]
      refine tkY (i := 16) (v := ?vv62) 74 ?yy62 ?_
      case yy62 => intro w hSw; (try dsimp only at hSw); go_simp; (try with_reducible rfl)
      simp only [sA, sB, sC]
      refine tkY (i := 17) (v := ?vv63) 75 ?yy63 ?_
      case yy63 => intro w hSw; (try dsimp only at hSw); go_simp; (try with_reducible rfl)
      simp only [sA, sB, sC]
      refine tkY (i := 18) (v := ?vv64) 76 ?yy64 ?_
      case yy64 => intro w hSw; (try dsimp only at hSw); go_simp; (try with_reducible rfl)
      simp only [sA, sB, sC]
      refine tkY (i := 19) (v := ?vv65) 77 ?yy65 ?_
      case yy65 => intro w hSw; (try dsimp only at hSw); go_simp; (try with_reducible rfl)
      simp only [sA, sB, sC]
      refine tkZ (i := 20) 78 ?_
      simp only [sA, sB, sC]
      refine tkZ (i := 21) 79 ?_
      simp only [sA, sB, sC]
      refine tkZ (i := 22) 80 ?_
      simp only [sA, sB, sC]
      refine tkZ (i := 23) 81 ?_
      simp only [sA, sB, sC]
      refine tkZ (i := 24) 82 ?_
      simp only [sA, sB, sC]
      refine tkY (i := 25) (v := ?vv66) 83 ?yy66 ?_
      case yy66 => intro w hSw; (try dsimp only at hSw); go_simp; (try with_reducible rfl)
      simp only [sA, sB, sC]
      refine tkY (i := 26) (v := ?vv67) 84 ?yy67 ?_
      case yy67 => intro w hSw; (try dsimp only at hSw); go_simp; (try with_reducible rfl)
      simp only [sA, sB, sC]
      refine wpAnyH_done (by kernel_rfl) ?_ _
      clear hHeld HS0 HP0
      have HB := Lib.hid (HB.out.trans (Below.refl _ _).drew); have HLA := Lib.hid (HLA.out.below (Below.refl _ _).drew); have HR := Lib.hid HR.out.drew; have HA := Lib.hid (HA.out.below (Below.refl _ _).drew); have HLB := Lib.hid (HLB.out.below (Below.refl _ _).drew)
      clear d1 d2
      obtain ⟨y1, y2, -, -⟩ := HCH.out j hjl
      obtain ⟨y, hy⟩ : ∃ y, Lt.getD j 0 = y := ⟨_, rfl⟩
      rw [hy] at y1 y2 CF
      have hyg : Lt[j] = y := by rw [← hy, List.getD_eq_getElem?_getD, List.getElem?_eq_getElem hjl]; rfl
      have HY := Lib.hid hyg; clear hy hyg
      obtain ⟨n, rfl⟩ : ∃ n : Nat, y = (n : Int) := ⟨y.toNat, by omega⟩
      have hn : n < c.l.length := by omega
      have hcl : c.l.length ≤ 4096 := by by_cases hv : valC c = 0; exact (valC_parts hv).1; exact absurd (HBD.out hv) (fun e => by rw [e] at hlt; simp at hlt)
      have hn' : (n : Int) < (c.l.length : Int) := by omega
      have tn : (0 : Int) ≤ (n : Int) := by omega
      clear y1 y2
      generalize hWr : wr.drew = u1 at HB HLA HR HA HLB ⊢
      clear hWr
      obtain ⟨bq, oq, hqe, q0⟩ := int_cells HLA.out hlt
      cases hqe
      rw [HX.out] at q0
      have HP0 := Lib.hid q0; clear q0
      obtain ⟨bq, oq, hqe, q0⟩ := int_cells HLA.out hjl
      cases hqe
      rw [HY.out] at q0
      have HP1 := Lib.hid q0; clear q0
      obtain ⟨bi, oi, hie, i0, i1, i2, i3, i4⟩ := ins_cells HA.out.I hn
      subst hie
      obtain ⟨⟨op, a, b, n2, s⟩, hin⟩ : ∃ x, c.l[n] = x := ⟨_, rfl⟩
      rw [hin] at i0 i1 i2 i3 i4
      simp only at i0 i1 i2 i3 i4
      have HI0 := Lib.hid i0; have HI1 := Lib.hid i1; have HI2 := Lib.hid i2; have HI3 := Lib.hid i3; have HI4 := Lib.hid i4; clear i0 i1 i2 i3 i4
      have hgd : c.l.getD (n : Int).toNat ins0 = ⟨op, a, b, n2, s⟩ := by rw [Int.toNat_natCast, List.getD_eq_getElem?_getD, List.getElem?_eq_getElem hn, Option.getD_some, hin]
      have hfo := CF.out
      unfold folB at hfo
      rw [hgd] at hfo
      simp only at hfo
      have HFO := Lib.hid hfo; clear hfo hgd hin CF
      have hbd : Below u1.heap.size u1 u1.drew := (Below.refl _ _).drew
      have HBD1 := Lib.hid hbd
      go_upto_region 10 with (fail)
      refine wp_region_held_drew (S := (fun w' => Below u1.heap.size u1 w')) (by kernel_rfl) ?_ (fun hHeld => ?_)
      · exact HBD1.out
      refine tkY (i := 0) (v := ?vv68) 87 ?yy68 ?_
      case yy68 => intro w hSw; (try dsimp only at hSw); go_simp; (try with_reducible rfl)
      simp only [sA, sB, sC]
      refine tkY (i := 1) (v := ?vv69) 88 ?yy69 ?_
      case yy69 => intro w hSw; (try dsimp only at hSw); go_simp; (try with_reducible rfl)
      simp only [sA, sB, sC]
      refine tkY (i := 2) (v := ?vv70) 89 ?yy70 ?_
      case yy70 =>
        intro wq hSw
        obtain ⟨z0, z1, z2, z3, z4, z5, z6⟩ := (HR.out.call hSw).c7
        clear hSw
        go_simp
        (try with_reducible rfl)
      simp only [sA, sB, sC]
      refine tkY (i := 3) (v := ?vv71) 90 ?yy71 ?_
      case yy71 => intro w hSw; (try dsimp only at hSw); go_simp; (try with_reducible rfl)
      simp only [sA, sB, sC]
      refine tkY (i := 4) (v := ?vv72) 91 ?yy72 ?_
      case yy72 => intro w hSw; (try dsimp only at hSw); go_simp; (try with_reducible rfl)
      simp only [sA, sB, sC]
      refine tkY (i := 5) (v := ?vv73) 92 ?yy73 ?_
      case yy73 => intro w hSw; (try dsimp only at hSw); go_simp; (try with_reducible rfl)
      simp only [sA, sB, sC]
      refine tkY (i := 6) (v := ?vv74) 93 ?yy74 ?_
      case yy74 => intro w hSw; (try dsimp only at hSw); go_simp; (try with_reducible rfl)
      simp only [sA, sB, sC]
      refine tkY (i := 7) (v := ?vv75) 94 ?yy75 ?_
      case yy75 =>
        intro wq hSw
        have z0 := cell1_below HP1.out hSw
        clear hSw
        go_simp
        (try with_reducible rfl)
      simp only [sA, sB, sC]
      refine tkY (i := 8) (v := ?vv76) 95 ?yy76 ?_
      case yy76 => intro w hSw; (try dsimp only at hSw); go_simp; (try with_reducible rfl)
      simp only [sA, sB, sC]
      refine tkY (i := 9) (v := ?vv77) 96 ?yy77 ?_
      case yy77 =>
        intro wq hSw
        have z0 := cell1_below HI0.out hSw
        have z1 := cell1_below HI1.out hSw
        have z2 := cell1_below HI2.out hSw
        have z3 := cell1_below HI3.out hSw
        have z4 := cell1_below HI4.out hSw
        clear hSw
        go_simp
        (try with_reducible rfl)
      simp only [sA, sB, sC]
      refine wpAnyH_ready (rs := [10]) (by kernel_rfl) (by simp) ?_
      refine (AllReadyH.cons rfl (fun K hK => ?_) AllReadyH.nil)
      obtain ⟨v0, hu, hb1, hs1⟩ := boxes1 u1 #[.int .i64 0, .int .i64 0, .int .i64 0, .int .i64 0, .string ⟨#[]⟩] 45
      have HU := Lib.hid hu
      have HV := Lib.hid hb1.drew
      have HS := Lib.hid hs1.drew
      clear hu hb1 hs1
      go_simp
      (try rw [HU.out])
      focus (try go_wp2_with fail)
      (try rw [HU.out])
      generalize hW : v0.drew = v1 at HV HS ⊢
      clear hW
      refine hK.out _ _ ?_ (fun hHeld => ?_)
      · exact HV.out
      clear hK K
      (try simp only [Act.put, sA, sB, sC])
      clear HU hHeld
      refine wpAnyH_ready (rs := [11]) (by kernel_rfl) (by simp) ?_
      refine (AllReadyH.cons rfl (fun K hK => ?_) AllReadyH.nil)
      obtain ⟨r0, r1, r2, r3, r4⟩ := HS.out.c5
      have f0 := HS.out.free 0
      have f1 := HS.out.free 1
      have f2 := HS.out.free 2
      have f3 := HS.out.free 3
      have f4 := HS.out.free 4
      have HS2 := Lib.hid (HS.out.sets5 (.int .i64 op) (.int .i64 a) (.int .i64 b) (.int .i64 n2) (.string (bs s)))
      have HV2 := Lib.hid (below_sets5 HV.out u1.heap.size (Nat.le_refl _) (.int .i64 op) (.int .i64 a) (.int .i64 b) (.int .i64 n2) (.string (bs s)))
      go_simp
      refine hK.out _ _ ?_ (fun hHeld => ?_)
      · exact HV2.out
      clear hK K
      (try simp only [Act.put, sA, sB, sC])
      clear hHeld HS HV r0 r1 r2 r3 r4 f0 f1 f2 f3 f4
      refine wpAnyH_done (by kernel_rfl) ?_ _
      generalize hW : (((((v1.setCell ⟨u1.heap.size, 0, none⟩ (.int .i64 op)).setCell ⟨u1.heap.size, 1, none⟩ (.int .i64 a)).setCell ⟨u1.heap.size, 2, none⟩ (.int .i64 b)).setCell ⟨u1.heap.size, 3, none⟩ (.int .i64 n2)).setCell ⟨u1.heap.size, 4, none⟩ (.string (bs s))) = v2 at HS2 HV2 ⊢
      clear hW
      obtain ⟨ub, hub⟩ : ∃ n, u1.heap.size = n := ⟨_, rfl⟩
      have hub1 : w.heap.size ≤ ub := by rw [← hub]; exact HB.out.size
      have HLA := Lib.hid (HLA.out.below HV2.out); have HR := Lib.hid (HR.out.call HV2.out); have HA := Lib.hid (HA.out.below HV2.out); have HLB := Lib.hid (HLB.out.below HV2.out); have HB := Lib.hid (btrans HB.out HB.out.size HV2.out); have HP0 := Lib.hid (cell1_below HP0.out HV2.out); have HP1 := Lib.hid (cell1_below HP1.out HV2.out)
      rw [hub] at HS2
      (try rw [hub])
      clear HI0 HI1 HI2 HI3 HI4 HV2 hbd HBD1
      obtain ⟨nb, hnb⟩ : ∃ b, (x == (n : Int) + 1) = b := ⟨_, rfl⟩
      have HNB := Lib.hid hnb
      go_upto_region 11 with (fail)
      have hw2 : IntKind.i64.wrap ((n : Int) + 1) = (n : Int) + 1 := by rw [IntKind.wrap_i64]; omega
      have hbd : Below v2.heap.size v2 v2.drew := (Below.refl _ _).drew
      refine wp_region_held_drew (S := (fun w' => Below v2.heap.size v2 w')) (by kernel_rfl) ?_ (fun hHeld => ?_)
      · exact hbd
      refine tkY (i := 0) (v := ?vv78) 97 ?yy78 ?_
      case yy78 => intro w hSw; (try dsimp only at hSw); go_simp; (try with_reducible rfl)
      simp only [sA, sB, sC]
      refine tkY (i := 1) (v := ?vv79) 98 ?yy79 ?_
      case yy79 => intro w hSw; (try dsimp only at hSw); go_simp; (try with_reducible rfl)
      simp only [sA, sB, sC]
      refine tkY (i := 2) (v := ?vv80) 99 ?yy80 ?_
      case yy80 => intro w hSw; (try dsimp only at hSw); go_simp; (try with_reducible rfl)
      simp only [sA, sB, sC]
      refine tkY (i := 3) (v := ?vv81) 100 ?yy81 ?_
      case yy81 =>
        intro wq hSw
        have z0 := cell1_below HP0.out hSw
        clear hSw
        go_simp
        (try with_reducible rfl)
      simp only [sA, sB, sC]
      refine tkY (i := 4) (v := ?vv82) 101 ?yy82 ?_
      case yy82 => intro w hSw; (try dsimp only at hSw); go_simp; (try with_reducible rfl)
      simp only [sA, sB, sC]
      refine tkY (i := 5) (v := ?vv83) 102 ?yy83 ?_
      case yy83 => intro w hSw; (try dsimp only at hSw); go_simp; (try with_reducible rfl)
      simp only [sA, sB, sC]
      refine tkY (i := 6) (v := ?vv84) 103 ?yy84 ?_
      case yy84 => intro w hSw; (try dsimp only at hSw); go_simp; (try with_reducible rfl)
      simp only [sA, sB, sC]
      refine tkY (i := 7) (v := ?vv85) 104 ?yy85 ?_
      case yy85 => intro w hSw; (try dsimp only at hSw); go_simp; (try with_reducible rfl)
      simp only [sA, sB, sC]
      refine tkY (i := 8) (v := ?vv86) 105 ?yy86 ?_
      case yy86 =>
        intro wq hSw
        have z0 := cell1_below HP1.out hSw
        clear hSw
        go_simp
        (try with_reducible rfl)
      simp only [sA, sB, sC]
      refine tkY (i := 9) (v := ?vv87) 106 ?yy87 ?_
      case yy87 => intro w hSw; (try dsimp only at hSw); go_simp; (try with_reducible rfl)
      simp only [sA, sB, sC]
      refine tkY (i := 10) (v := ?vv88) 107 ?yy88 ?_
      case yy88 => intro w hSw; (try dsimp only at hSw); go_simp; (try with_reducible rfl)
      simp only [sA, sB, sC]
      refine tkY (i := 11) (v := ?vv89) 11 ?yy89 ?_
      case yy89 => intro w hSw; (try dsimp only at hSw); go_simp; (try with_reducible rfl)
      simp only [sA, sB, sC]
      refine wpAnyH_done (by kernel_rfl) ?_ _
      have HLA := Lib.hid (HLA.out.below hbd); have HR := Lib.hid (HR.out.call hbd); have HA := Lib.hid (HA.out.below hbd); have HLB := Lib.hid (HLB.out.below hbd); have HB := Lib.hid (btrans HB.out HB.out.size hbd); have HP0 := Lib.hid (cell1_below HP0.out hbd); have HS2 := Lib.hid (HS2.out.call hbd)
      clear hHeld hnb
      generalize hW : v2.drew = v3 at HLA HR HA HLB HB HP0 HS2 ⊢
      clear hW hbd HP1
      obtain ⟨g1, g2, g3, g4, g5⟩ := HFO.out
      have t13 : (op == 13) = false := by rw [beq_eq_false_iff_ne]; exact g1
      have t11 : (op == 11) = false := by rw [beq_eq_false_iff_ne]; exact g2
      clear g1 g2
      have hbd : Below v3.heap.size v3 v3.drew := (Below.refl _ _).drew
      have HBD3 := Lib.hid hbd
      by_cases e6 : op = 6
      · have t6 : (op == 6) = true := by rw [e6]; rfl
        have t7 : (op == 7) = false := by rw [e6]; rfl
        have n6 : (op != 6) = false := by rw [e6]; rfl
        have tx : (x != a) = false := by rw [g3 e6]; simp
        clear g3 g4 g5 e6
        go_upto_region 12 with (fail)
        refine wp_region_held_drew (S := (fun w' => Below v3.heap.size v3 w')) (by kernel_rfl) ?_ (fun hHeld => ?_)
        · exact HBD3.out
        refine tkY (i := 0) (v := ?vv90) 108 ?yy90 ?_
        case yy90 => intro w hSw; (try dsimp only at hSw); go_simp; (try with_reducible rfl)
        simp only [sA, sB, sC]
        refine tkY (i := 1) (v := ?vv91) 109 ?yy91 ?_
        case yy91 =>
          intro wq hSw
          obtain ⟨z0, z1, z2, z3, z4⟩ := (HS2.out.call hSw).c5
          clear hSw
          go_simp
          (try with_reducible rfl)
        simp only [sA, sB, sC]
        refine tkY (i := 2) (v := ?vv92) 110 ?yy92 ?_
        case yy92 => intro w hSw; (try dsimp only at hSw); go_simp; (try with_reducible rfl)
        simp only [sA, sB, sC]
        refine tkY (i := 3) (v := ?vv93) 111 ?yy93 ?_
        case yy93 => intro w hSw; (try dsimp only at hSw); go_simp; (try with_reducible rfl)
        simp only [sA, sB, sC]
        refine tkY (i := 4) (v := ?vv94) 112 ?yy94 ?_
        case yy94 => intro w hSw; (try dsimp only at hSw); go_simp; (try with_reducible rfl)
        simp only [sA, sB, sC]
        refine tkY (i := 5) (v := ?vv95) 113 ?yy95 ?_
        case yy95 =>
          intro wq hSw
          obtain ⟨z0, z1, z2, z3, z4⟩ := (HS2.out.call hSw).c5
          clear hSw
          go_simp
          (try with_reducible rfl)
        simp only [sA, sB, sC]
        refine tkY (i := 6) (v := ?vv96) 114 ?yy96 ?_
        case yy96 => intro w hSw; (try dsimp only at hSw); go_simp; (try with_reducible rfl)
        simp only [sA, sB, sC]
        refine tkY (i := 7) (v := ?vv97) 115 ?yy97 ?_
        case yy97 => intro w hSw; (try dsimp only at hSw); go_simp; (try with_reducible rfl)
        simp only [sA, sB, sC]
        refine tkY (i := 8) (v := ?vv98) 116 ?yy98 ?_
        case yy98 => intro w hSw; (try dsimp only at hSw); go_simp; (try with_reducible rfl)
        simp only [sA, sB, sC]
        refine tkY (i := 9) (v := ?vv99) 117 ?yy99 ?_
        case yy99 => intro w hSw; (try dsimp only at hSw); go_simp; (try with_reducible rfl)
        simp only [sA, sB, sC]
        refine tkY (i := 10) (v := ?vv100) 118 ?yy100 ?_
        case yy100 =>
          intro wq hSw
          obtain ⟨z0, z1, z2, z3, z4⟩ := (HS2.out.call hSw).c5
          clear hSw
          go_simp
          (try with_reducible rfl)
        simp only [sA, sB, sC]
        refine tkY (i := 11) (v := ?vv101) 119 ?yy101 ?_
        case yy101 => intro w hSw; (try dsimp only at hSw); go_simp; (try with_reducible rfl)
        simp only [sA, sB, sC]
        refine tkY (i := 12) (v := ?vv102) 120 ?yy102 ?_
        case yy102 => intro w hSw; (try dsimp only at hSw); go_simp; (try with_reducible rfl)
        simp only [sA, sB, sC]
        refine tkY (i := 13) (v := ?vv103) 121 ?yy103 ?_
        case yy103 => intro w hSw; (try dsimp only at hSw); go_simp; (try with_reducible rfl)
        simp only [sA, sB, sC]
        refine tkY (i := 14) (v := ?vv104) 122 ?yy104 ?_
        case yy104 => intro w hSw; (try dsimp only at hSw); go_simp; (try with_reducible rfl)
        simp only [sA, sB, sC]
        refine tkY (i := 15) (v := ?vv105) 123 ?yy105 ?_
        case yy105 => intro w hSw; (try dsimp only at hSw); go_simp; (try with_reducible rfl)
        simp only [sA, sB, sC]
        refine tkY (i := 16) (v := ?vv106) 124 ?yy106 ?_
        case yy106 =>
          intro wq hSw
          have z0 := cell1_below HP0.out hSw
          clear hSw
          go_simp
          (try with_reducible rfl)
        simp only [sA, sB, sC]
        refine tkY (i := 17) (v := ?vv107) 125 ?yy107 ?_
        case yy107 => intro w hSw; (try dsimp only at hSw); go_simp; (try with_reducible rfl)
        simp only [sA, sB, sC]
        refine tkY (i := 18) (v := ?vv108) 126 ?yy108 ?_
        case yy108 =>
          intro wq hSw
          obtain ⟨z0, z1, z2, z3, z4⟩ := (HS2.out.call hSw).c5
          clear hSw
          go_simp
          (try with_reducible rfl)
        simp only [sA, sB, sC]
        refine tkY (i := 19) (v := ?vv109) 127 ?yy109 ?_
        case yy109 => intro w hSw; (try dsimp only at hSw); go_simp; (try with_reducible rfl)
        simp only [sA, sB, sC]
        refine tkY (i := 20) (v := ?vv110) 128 ?yy110 ?_
        case yy110 => intro w hSw; (try dsimp only at hSw); go_simp; (try with_reducible rfl)
        simp only [sA, sB, sC]
        refine tkY (i := 21) (v := ?vv111) 129 ?yy111 ?_
        case yy111 => intro w hSw; (try dsimp only at hSw); go_simp; (try with_reducible rfl)
        simp only [sA, sB, sC]
        refine tkY (i := 22) (v := ?vv112) 130 ?yy112 ?_
        case yy112 => intro w hSw; (try dsimp only at hSw); go_simp; (try with_reducible rfl)
        simp only [sA, sB, sC]
        refine tkY (i := 23) (v := ?vv113) 131 ?yy113 ?_
        case yy113 => intro w hSw; (try dsimp only at hSw); go_simp; (try with_reducible rfl)
        simp only [sA, sB, sC]
        refine tkY (i := 24) (v := ?vv114) 132 ?yy114 ?_
        case yy114 =>
          intro wq hSw
          obtain ⟨z0, z1, z2, z3, z4⟩ := (HS2.out.call hSw).c5
          clear hSw
          go_simp
          (try with_reducible rfl)
        simp only [sA, sB, sC]
        refine tkY (i := 25) (v := ?vv115) 133 ?yy115 ?_
        case yy115 => intro w hSw; (try dsimp only at hSw); go_simp; (try with_reducible rfl)
        simp only [sA, sB, sC]
        refine tkY (i := 26) (v := ?vv116) 134 ?yy116 ?_
        case yy116 => intro w hSw; (try dsimp only at hSw); go_simp; (try with_reducible rfl)
        simp only [sA, sB, sC]
        refine tkZ (i := 27) 135 ?_
        simp only [sA, sB, sC]
        refine tkZ (i := 28) 136 ?_
        simp only [sA, sB, sC]
        refine tkZ (i := 29) 137 ?_
        simp only [sA, sB, sC]
        refine tkZ (i := 30) 138 ?_
        simp only [sA, sB, sC]
        refine tkZ (i := 31) 139 ?_
        simp only [sA, sB, sC]
        refine tkZ (i := 32) 140 ?_
        simp only [sA, sB, sC]
        refine tkZ (i := 33) 141 ?_
        simp only [sA, sB, sC]
        refine tkY (i := 34) (v := ?vv117) 142 ?yy117 ?_
        case yy117 => intro w hSw; (try dsimp only at hSw); go_simp; (try with_reducible rfl)
        simp only [sA, sB, sC]
        refine tkY (i := 35) (v := ?vv118) 143 ?yy118 ?_
        case yy118 => intro w hSw; (try dsimp only at hSw); go_simp; (try with_reducible rfl)
        simp only [sA, sB, sC]
        refine tkZ (i := 36) 144 ?_
        simp only [sA, sB, sC]
        refine tkZ (i := 37) 145 ?_
        simp only [sA, sB, sC]
        refine tkY (i := 38) (v := ?vv119) 146 ?yy119 ?_
        case yy119 => intro w hSw; (try dsimp only at hSw); go_simp; (try with_reducible rfl)
        simp only [sA, sB, sC]
        refine tkY (i := 39) (v := ?vv120) 147 ?yy120 ?_
        case yy120 => intro w hSw; (try dsimp only at hSw); go_simp; (try with_reducible rfl)
        simp only [sA, sB, sC]
        refine tkY (i := 40) (v := ?vv121) 148 ?yy121 ?_
        case yy121 => intro w hSw; (try dsimp only at hSw); go_simp; (try with_reducible rfl)
        simp only [sA, sB, sC]
        refine tkY (i := 41) (v := ?vv122) 149 ?yy122 ?_
        case yy122 => intro w hSw; (try dsimp only at hSw); go_simp; (try with_reducible rfl)
        simp only [sA, sB, sC]
        refine tkY (i := 42) (v := ?vv123) 150 ?yy123 ?_
        case yy123 =>
          intro wq hSw
          obtain ⟨z0, z1, z2, z3, z4⟩ := (HS2.out.call hSw).c5
          clear hSw
          go_simp
          (try with_reducible rfl)
        simp only [sA, sB, sC]
        refine tkY (i := 43) (v := ?vv124) 151 ?yy124 ?_
        case yy124 => intro w hSw; (try dsimp only at hSw); go_simp; (try with_reducible rfl)
        simp only [sA, sB, sC]
        refine tkY (i := 44) (v := ?vv125) 152 ?yy125 ?_
        case yy125 => intro w hSw; (try dsimp only at hSw); go_simp; (try with_reducible rfl)
        simp only [sA, sB, sC]
        refine tkZ (i := 45) 153 ?_
        simp only [sA, sB, sC]
        refine tkZ (i := 46) 154 ?_
        simp only [sA, sB, sC]
        refine tkZ (i := 47) 155 ?_
        simp only [sA, sB, sC]
        refine tkY (i := 48) (v := ?vv126) 156 ?yy126 ?_
        case yy126 => intro w hSw; (try dsimp only at hSw); go_simp; (try with_reducible rfl)
        simp only [sA, sB, sC]
        refine tkY (i := 49) (v := ?vv127) 157 ?yy127 ?_
        case yy127 => intro w hSw; (try dsimp only at hSw); go_simp; (try with_reducible rfl)
        simp only [sA, sB, sC]
        refine tkZ (i := 50) 158 ?_
        simp only [sA, sB, sC]
        refine tkZ (i := 51) 159 ?_
        simp only [sA, sB, sC]
        refine tkY (i := 52) (v := ?vv128) 160 ?yy128 ?_
        case yy128 => intro w hSw; (try dsimp only at hSw); go_simp; (try with_reducible rfl)
        simp only [sA, sB, sC]
        refine tkY (i := 53) (v := ?vv129) 161 ?yy129 ?_
        case yy129 => intro w hSw; (try dsimp only at hSw); go_simp; (try with_reducible rfl)
        simp only [sA, sB, sC]
        refine wpAnyH_done (by kernel_rfl) ?_ _
        clear hHeld
        have HLA := Lib.hid (HLA.out.below hbd); have HR := Lib.hid (HR.out.call hbd); have HA := Lib.hid (HA.out.below hbd); have HLB := Lib.hid (HLB.out.below hbd); have HB := Lib.hid (btrans HB.out HB.out.size hbd)
        clear hbd
        go_wp2
        go_roundw
        case rel => exact ⟨k + 1, by omega, by go_num, HLA, HR, HA, HLB, HB.out⟩
        case measure => simp [intOf]; omega
      have t6 : (op == 6) = false := by rw [beq_eq_false_iff_ne]; exact e6
      have n6 : (op != 6) = true := by rw [bne_iff_ne]; exact e6
      by_cases e7 : op = 7
      rotate_left
      · have t7 : (op == 7) = false := by rw [beq_eq_false_iff_ne]; exact e7
        have n7 : (op != 7) = true := by rw [bne_iff_ne]; exact e7
        have hnt : nb = true := by rw [← HNB.out, g5 e6 e7]; simp
        subst hnt
        clear g3 g4 g5 e6 e7
        go_upto_region 12 with (fail)
        refine wp_region_held_drew (S := (fun w' => Below v3.heap.size v3 w')) (by kernel_rfl) ?_ (fun hHeld => ?_)
        · exact HBD3.out
        refine tkY (i := 0) (v := ?vv130) 108 ?yy130 ?_
        case yy130 => intro w hSw; (try dsimp only at hSw); go_simp; (try with_reducible rfl)
        simp only [sA, sB, sC]
        refine tkY (i := 1) (v := ?vv131) 109 ?yy131 ?_
        case yy131 =>
          intro wq hSw
          obtain ⟨z0, z1, z2, z3, z4⟩ := (HS2.out.call hSw).c5
          clear hSw
          go_simp
          (try with_reducible rfl)
        simp only [sA, sB, sC]
        refine tkY (i := 2) (v := ?vv132) 110 ?yy132 ?_
        case yy132 => intro w hSw; (try dsimp only at hSw); go_simp; (try with_reducible rfl)
        simp only [sA, sB, sC]
        refine tkY (i := 3) (v := ?vv133) 111 ?yy133 ?_
        case yy133 => intro w hSw; (try dsimp only at hSw); go_simp; (try with_reducible rfl)
        simp only [sA, sB, sC]
        refine tkY (i := 4) (v := ?vv134) 112 ?yy134 ?_
        case yy134 => intro w hSw; (try dsimp only at hSw); go_simp; (try with_reducible rfl)
        simp only [sA, sB, sC]
        refine tkY (i := 5) (v := ?vv135) 113 ?yy135 ?_
        case yy135 =>
          intro wq hSw
          obtain ⟨z0, z1, z2, z3, z4⟩ := (HS2.out.call hSw).c5
          clear hSw
          go_simp
          (try with_reducible rfl)
        simp only [sA, sB, sC]
        refine tkY (i := 6) (v := ?vv136) 114 ?yy136 ?_
        case yy136 => intro w hSw; (try dsimp only at hSw); go_simp; (try with_reducible rfl)
        simp only [sA, sB, sC]
        refine tkY (i := 7) (v := ?vv137) 115 ?yy137 ?_
        case yy137 => intro w hSw; (try dsimp only at hSw); go_simp; (try with_reducible rfl)
        simp only [sA, sB, sC]
        refine tkY (i := 8) (v := ?vv138) 116 ?yy138 ?_
        case yy138 => intro w hSw; (try dsimp only at hSw); go_simp; (try with_reducible rfl)
        simp only [sA, sB, sC]
        refine tkY (i := 9) (v := ?vv139) 117 ?yy139 ?_
        case yy139 => intro w hSw; (try dsimp only at hSw); go_simp; (try with_reducible rfl)
        simp only [sA, sB, sC]
        refine tkY (i := 10) (v := ?vv140) 118 ?yy140 ?_
        case yy140 =>
          intro wq hSw
          obtain ⟨z0, z1, z2, z3, z4⟩ := (HS2.out.call hSw).c5
          clear hSw
          go_simp
          (try with_reducible rfl)
        simp only [sA, sB, sC]
        refine tkY (i := 11) (v := ?vv141) 119 ?yy141 ?_
        case yy141 => intro w hSw; (try dsimp only at hSw); go_simp; (try with_reducible rfl)
        simp only [sA, sB, sC]
        refine tkY (i := 12) (v := ?vv142) 120 ?yy142 ?_
        case yy142 => intro w hSw; (try dsimp only at hSw); go_simp; (try with_reducible rfl)
        simp only [sA, sB, sC]
        refine tkZ (i := 13) 121 ?_
        simp only [sA, sB, sC]
        refine tkZ (i := 14) 122 ?_
        simp only [sA, sB, sC]
        refine tkZ (i := 15) 123 ?_
        simp only [sA, sB, sC]
        refine tkZ (i := 16) 124 ?_
        simp only [sA, sB, sC]
        refine tkZ (i := 17) 125 ?_
        simp only [sA, sB, sC]
        refine tkZ (i := 18) 126 ?_
        simp only [sA, sB, sC]
        refine tkZ (i := 19) 127 ?_
        simp only [sA, sB, sC]
        refine tkY (i := 20) (v := ?vv143) 128 ?yy143 ?_
        case yy143 => intro w hSw; (try dsimp only at hSw); go_simp; (try with_reducible rfl)
        simp only [sA, sB, sC]
        refine tkY (i := 21) (v := ?vv144) 129 ?yy144 ?_
        case yy144 => intro w hSw; (try dsimp only at hSw); go_simp; (try with_reducible rfl)
        simp only [sA, sB, sC]
        refine tkY (i := 22) (v := ?vv145) 130 ?yy145 ?_
        case yy145 => intro w hSw; (try dsimp only at hSw); go_simp; (try with_reducible rfl)
        simp only [sA, sB, sC]
        refine tkY (i := 23) (v := ?vv146) 131 ?yy146 ?_
        case yy146 => intro w hSw; (try dsimp only at hSw); go_simp; (try with_reducible rfl)
        simp only [sA, sB, sC]
        refine tkY (i := 24) (v := ?vv147) 132 ?yy147 ?_
        case yy147 =>
          intro wq hSw
          obtain ⟨z0, z1, z2, z3, z4⟩ := (HS2.out.call hSw).c5
          clear hSw
          go_simp
          (try with_reducible rfl)
        simp only [sA, sB, sC]
        refine tkY (i := 25) (v := ?vv148) 133 ?yy148 ?_
        case yy148 => intro w hSw; (try dsimp only at hSw); go_simp; (try with_reducible rfl)
        simp only [sA, sB, sC]
        refine tkY (i := 26) (v := ?vv149) 134 ?yy149 ?_
        case yy149 => intro w hSw; (try dsimp only at hSw); go_simp; (try with_reducible rfl)
        simp only [sA, sB, sC]
        refine tkZ (i := 27) 135 ?_
        simp only [sA, sB, sC]
        refine tkZ (i := 28) 136 ?_
        simp only [sA, sB, sC]
        refine tkZ (i := 29) 137 ?_
        simp only [sA, sB, sC]
        refine tkZ (i := 30) 138 ?_
        simp only [sA, sB, sC]
        refine tkZ (i := 31) 139 ?_
        simp only [sA, sB, sC]
        refine tkZ (i := 32) 140 ?_
        simp only [sA, sB, sC]
        refine tkZ (i := 33) 141 ?_
        simp only [sA, sB, sC]
        refine tkY (i := 34) (v := ?vv150) 142 ?yy150 ?_
        case yy150 => intro w hSw; (try dsimp only at hSw); go_simp; (try with_reducible rfl)
        simp only [sA, sB, sC]
        refine tkY (i := 35) (v := ?vv151) 143 ?yy151 ?_
        case yy151 => intro w hSw; (try dsimp only at hSw); go_simp; (try with_reducible rfl)
        simp only [sA, sB, sC]
        refine tkZ (i := 36) 144 ?_
        simp only [sA, sB, sC]
        refine tkZ (i := 37) 145 ?_
        simp only [sA, sB, sC]
        refine tkY (i := 38) (v := ?vv152) 146 ?yy152 ?_
        case yy152 => intro w hSw; (try dsimp only at hSw); go_simp; (try with_reducible rfl)
        simp only [sA, sB, sC]
        refine tkY (i := 39) (v := ?vv153) 147 ?yy153 ?_
        case yy153 => intro w hSw; (try dsimp only at hSw); go_simp; (try with_reducible rfl)
        simp only [sA, sB, sC]
        refine tkY (i := 40) (v := ?vv154) 148 ?yy154 ?_
        case yy154 => intro w hSw; (try dsimp only at hSw); go_simp; (try with_reducible rfl)
        simp only [sA, sB, sC]
        refine tkY (i := 41) (v := ?vv155) 149 ?yy155 ?_
        case yy155 => intro w hSw; (try dsimp only at hSw); go_simp; (try with_reducible rfl)
        simp only [sA, sB, sC]
        refine tkY (i := 42) (v := ?vv156) 150 ?yy156 ?_
        case yy156 =>
          intro wq hSw
          obtain ⟨z0, z1, z2, z3, z4⟩ := (HS2.out.call hSw).c5
          clear hSw
          go_simp
          (try with_reducible rfl)
        simp only [sA, sB, sC]
        refine tkY (i := 43) (v := ?vv157) 151 ?yy157 ?_
        case yy157 => intro w hSw; (try dsimp only at hSw); go_simp; (try with_reducible rfl)
        simp only [sA, sB, sC]
        refine tkY (i := 44) (v := ?vv158) 152 ?yy158 ?_
        case yy158 => intro w hSw; (try dsimp only at hSw); go_simp; (try with_reducible rfl)
        simp only [sA, sB, sC]
        refine tkY (i := 45) (v := ?vv159) 153 ?yy159 ?_
        case yy159 => intro w hSw; (try dsimp only at hSw); go_simp; (try with_reducible rfl)
        simp only [sA, sB, sC]
        refine tkY (i := 46) (v := ?vv160) 154 ?yy160 ?_
        case yy160 =>
          intro wq hSw
          obtain ⟨z0, z1, z2, z3, z4⟩ := (HS2.out.call hSw).c5
          clear hSw
          go_simp
          (try with_reducible rfl)
        simp only [sA, sB, sC]
        refine tkY (i := 47) (v := ?vv161) 155 ?yy161 ?_
        case yy161 => intro w hSw; (try dsimp only at hSw); go_simp; (try with_reducible rfl)
        simp only [sA, sB, sC]
        refine tkY (i := 48) (v := ?vv162) 156 ?yy162 ?_
        case yy162 => intro w hSw; (try dsimp only at hSw); go_simp; (try with_reducible rfl)
        simp only [sA, sB, sC]
        refine tkY (i := 49) (v := ?vv163) 157 ?yy163 ?_
        case yy163 => intro w hSw; (try dsimp only at hSw); go_simp; (try with_reducible rfl)
        simp only [sA, sB, sC]
        refine tkY (i := 50) (v := ?vv164) 158 ?yy164 ?_
        case yy164 => intro w hSw; (try dsimp only at hSw); go_simp; (try with_reducible rfl)
        simp only [sA, sB, sC]
        refine tkY (i := 51) (v := ?vv165) 159 ?yy165 ?_
        case yy165 => intro w hSw; (try dsimp only at hSw); go_simp; (try with_reducible rfl)
        simp only [sA, sB, sC]
        refine tkY (i := 52) (v := ?vv166) 160 ?yy166 ?_
        case yy166 => intro w hSw; (try dsimp only at hSw); go_simp; (try with_reducible rfl)
        simp only [sA, sB, sC]
        refine tkY (i := 53) (v := ?vv167) 161 ?yy167 ?_
        case yy167 => intro w hSw; (try dsimp only at hSw); go_simp; (try with_reducible rfl)
        simp only [sA, sB, sC]
        refine wpAnyH_done (by kernel_rfl) ?_ _
        clear hHeld
        have HLA := Lib.hid (HLA.out.below hbd); have HR := Lib.hid (HR.out.call hbd); have HA := Lib.hid (HA.out.below hbd); have HLB := Lib.hid (HLB.out.below hbd); have HB := Lib.hid (btrans HB.out HB.out.size hbd)
        clear hbd
        go_wp2
        go_roundw
        case rel => exact ⟨k + 1, by omega, by go_num, HLA, HR, HA, HLB, HB.out⟩
        case measure => simp [intOf]; omega
      have t7 : (op == 7) = true := by rw [e7]; rfl
      have n7 : (op != 7) = false := by rw [e7]; rfl
      by_cases ea : x = a
      · have tx : (x != a) = false := by rw [ea]; simp
        clear g3 g4 g5 e6 e7 ea
        go_upto_region 12 with (fail)
        refine wp_region_held_drew (S := (fun w' => Below v3.heap.size v3 w')) (by kernel_rfl) ?_ (fun hHeld => ?_)
        · exact HBD3.out
        refine tkY (i := 0) (v := ?vv168) 108 ?yy168 ?_
        case yy168 => intro w hSw; (try dsimp only at hSw); go_simp; (try with_reducible rfl)
        simp only [sA, sB, sC]
        refine tkY (i := 1) (v := ?vv169) 109 ?yy169 ?_
        case yy169 =>
          intro wq hSw
          obtain ⟨z0, z1, z2, z3, z4⟩ := (HS2.out.call hSw).c5
          clear hSw
          go_simp
          (try with_reducible rfl)
        simp only [sA, sB, sC]
        refine tkY (i := 2) (v := ?vv170) 110 ?yy170 ?_
        case yy170 => intro w hSw; (try dsimp only at hSw); go_simp; (try with_reducible rfl)
        simp only [sA, sB, sC]
        refine tkY (i := 3) (v := ?vv171) 111 ?yy171 ?_
        case yy171 => intro w hSw; (try dsimp only at hSw); go_simp; (try with_reducible rfl)
        simp only [sA, sB, sC]
        refine tkY (i := 4) (v := ?vv172) 112 ?yy172 ?_
        case yy172 => intro w hSw; (try dsimp only at hSw); go_simp; (try with_reducible rfl)
        simp only [sA, sB, sC]
        refine tkY (i := 5) (v := ?vv173) 113 ?yy173 ?_
        case yy173 =>
          intro wq hSw
          obtain ⟨z0, z1, z2, z3, z4⟩ := (HS2.out.call hSw).c5
          clear hSw
          go_simp
          (try with_reducible rfl)
        simp only [sA, sB, sC]
        refine tkY (i := 6) (v := ?vv174) 114 ?yy174 ?_
        case yy174 => intro w hSw; (try dsimp only at hSw); go_simp; (try with_reducible rfl)
        simp only [sA, sB, sC]
        refine tkY (i := 7) (v := ?vv175) 115 ?yy175 ?_
        case yy175 => intro w hSw; (try dsimp only at hSw); go_simp; (try with_reducible rfl)
        simp only [sA, sB, sC]
        refine tkY (i := 8) (v := ?vv176) 116 ?yy176 ?_
        case yy176 => intro w hSw; (try dsimp only at hSw); go_simp; (try with_reducible rfl)
        simp only [sA, sB, sC]
        refine tkY (i := 9) (v := ?vv177) 117 ?yy177 ?_
        case yy177 => intro w hSw; (try dsimp only at hSw); go_simp; (try with_reducible rfl)
        simp only [sA, sB, sC]
        refine tkY (i := 10) (v := ?vv178) 118 ?yy178 ?_
        case yy178 =>
          intro wq hSw
          obtain ⟨z0, z1, z2, z3, z4⟩ := (HS2.out.call hSw).c5
          clear hSw
          go_simp
          (try with_reducible rfl)
        simp only [sA, sB, sC]
        refine tkY (i := 11) (v := ?vv179) 119 ?yy179 ?_
        case yy179 => intro w hSw; (try dsimp only at hSw); go_simp; (try with_reducible rfl)
        simp only [sA, sB, sC]
        refine tkY (i := 12) (v := ?vv180) 120 ?yy180 ?_
        case yy180 => intro w hSw; (try dsimp only at hSw); go_simp; (try with_reducible rfl)
        simp only [sA, sB, sC]
        refine tkZ (i := 13) 121 ?_
        simp only [sA, sB, sC]
        refine tkZ (i := 14) 122 ?_
        simp only [sA, sB, sC]
        refine tkZ (i := 15) 123 ?_
        simp only [sA, sB, sC]
        refine tkZ (i := 16) 124 ?_
        simp only [sA, sB, sC]
        refine tkZ (i := 17) 125 ?_
        simp only [sA, sB, sC]
        refine tkZ (i := 18) 126 ?_
        simp only [sA, sB, sC]
        refine tkZ (i := 19) 127 ?_
        simp only [sA, sB, sC]
        refine tkY (i := 20) (v := ?vv181) 128 ?yy181 ?_
        case yy181 => intro w hSw; (try dsimp only at hSw); go_simp; (try with_reducible rfl)
        simp only [sA, sB, sC]
        refine tkY (i := 21) (v := ?vv182) 129 ?yy182 ?_
        case yy182 => intro w hSw; (try dsimp only at hSw); go_simp; (try with_reducible rfl)
        simp only [sA, sB, sC]
        refine tkY (i := 22) (v := ?vv183) 130 ?yy183 ?_
        case yy183 => intro w hSw; (try dsimp only at hSw); go_simp; (try with_reducible rfl)
        simp only [sA, sB, sC]
        refine tkY (i := 23) (v := ?vv184) 131 ?yy184 ?_
        case yy184 => intro w hSw; (try dsimp only at hSw); go_simp; (try with_reducible rfl)
        simp only [sA, sB, sC]
        refine tkY (i := 24) (v := ?vv185) 132 ?yy185 ?_
        case yy185 =>
          intro wq hSw
          obtain ⟨z0, z1, z2, z3, z4⟩ := (HS2.out.call hSw).c5
          clear hSw
          go_simp
          (try with_reducible rfl)
        simp only [sA, sB, sC]
        refine tkY (i := 25) (v := ?vv186) 133 ?yy186 ?_
        case yy186 => intro w hSw; (try dsimp only at hSw); go_simp; (try with_reducible rfl)
        simp only [sA, sB, sC]
        refine tkY (i := 26) (v := ?vv187) 134 ?yy187 ?_
        case yy187 => intro w hSw; (try dsimp only at hSw); go_simp; (try with_reducible rfl)
        simp only [sA, sB, sC]
        refine tkY (i := 27) (v := ?vv188) 135 ?yy188 ?_
        case yy188 => intro w hSw; (try dsimp only at hSw); go_simp; (try with_reducible rfl)
        simp only [sA, sB, sC]
        refine tkY (i := 28) (v := ?vv189) 136 ?yy189 ?_
        case yy189 => intro w hSw; (try dsimp only at hSw); go_simp; (try with_reducible rfl)
        simp only [sA, sB, sC]
        refine tkY (i := 29) (v := ?vv190) 137 ?yy190 ?_
        case yy190 => intro w hSw; (try dsimp only at hSw); go_simp; (try with_reducible rfl)
        simp only [sA, sB, sC]
        refine tkY (i := 30) (v := ?vv191) 138 ?yy191 ?_
        case yy191 =>
          intro wq hSw
          have z0 := cell1_below HP0.out hSw
          clear hSw
          go_simp
          (try with_reducible rfl)
        simp only [sA, sB, sC]
        refine tkY (i := 31) (v := ?vv192) 139 ?yy192 ?_
        case yy192 => intro w hSw; (try dsimp only at hSw); go_simp; (try with_reducible rfl)
        simp only [sA, sB, sC]
        refine tkY (i := 32) (v := ?vv193) 140 ?yy193 ?_
        case yy193 =>
          intro wq hSw
          obtain ⟨z0, z1, z2, z3, z4⟩ := (HS2.out.call hSw).c5
          clear hSw
          go_simp
          (try with_reducible rfl)
        simp only [sA, sB, sC]
        refine tkY (i := 33) (v := ?vv194) 141 ?yy194 ?_
        case yy194 => intro w hSw; (try dsimp only at hSw); go_simp; (try with_reducible rfl)
        simp only [sA, sB, sC]
        refine tkY (i := 34) (v := ?vv195) 142 ?yy195 ?_
        case yy195 => intro w hSw; (try dsimp only at hSw); go_simp; (try with_reducible rfl)
        simp only [sA, sB, sC]
        refine tkY (i := 35) (v := ?vv196) 143 ?yy196 ?_
        case yy196 => intro w hSw; (try dsimp only at hSw); go_simp; (try with_reducible rfl)
        simp only [sA, sB, sC]
        refine tkZ (i := 36) 144 ?_
        simp only [sA, sB, sC]
        refine tkZ (i := 37) 145 ?_
        simp only [sA, sB, sC]
        refine tkY (i := 38) (v := ?vv197) 146 ?yy197 ?_
        case yy197 => intro w hSw; (try dsimp only at hSw); go_simp; (try with_reducible rfl)
        simp only [sA, sB, sC]
        refine tkY (i := 39) (v := ?vv198) 147 ?yy198 ?_
        case yy198 => intro w hSw; (try dsimp only at hSw); go_simp; (try with_reducible rfl)
        simp only [sA, sB, sC]
        refine tkY (i := 40) (v := ?vv199) 148 ?yy199 ?_
        case yy199 => intro w hSw; (try dsimp only at hSw); go_simp; (try with_reducible rfl)
        simp only [sA, sB, sC]
        refine tkY (i := 41) (v := ?vv200) 149 ?yy200 ?_
        case yy200 => intro w hSw; (try dsimp only at hSw); go_simp; (try with_reducible rfl)
        simp only [sA, sB, sC]
        refine tkY (i := 42) (v := ?vv201) 150 ?yy201 ?_
        case yy201 =>
          intro wq hSw
          obtain ⟨z0, z1, z2, z3, z4⟩ := (HS2.out.call hSw).c5
          clear hSw
          go_simp
          (try with_reducible rfl)
        simp only [sA, sB, sC]
        refine tkY (i := 43) (v := ?vv202) 151 ?yy202 ?_
        case yy202 => intro w hSw; (try dsimp only at hSw); go_simp; (try with_reducible rfl)
        simp only [sA, sB, sC]
        refine tkY (i := 44) (v := ?vv203) 152 ?yy203 ?_
        case yy203 => intro w hSw; (try dsimp only at hSw); go_simp; (try with_reducible rfl)
        simp only [sA, sB, sC]
        refine tkY (i := 45) (v := ?vv204) 153 ?yy204 ?_
        case yy204 => intro w hSw; (try dsimp only at hSw); go_simp; (try with_reducible rfl)
        simp only [sA, sB, sC]
        refine tkY (i := 46) (v := ?vv205) 154 ?yy205 ?_
        case yy205 =>
          intro wq hSw
          obtain ⟨z0, z1, z2, z3, z4⟩ := (HS2.out.call hSw).c5
          clear hSw
          go_simp
          (try with_reducible rfl)
        simp only [sA, sB, sC]
        refine tkY (i := 47) (v := ?vv206) 155 ?yy206 ?_
        case yy206 => intro w hSw; (try dsimp only at hSw); go_simp; (try with_reducible rfl)
        simp only [sA, sB, sC]
        refine tkY (i := 48) (v := ?vv207) 156 ?yy207 ?_
        case yy207 => intro w hSw; (try dsimp only at hSw); go_simp; (try with_reducible rfl)
        simp only [sA, sB, sC]
        refine tkY (i := 49) (v := ?vv208) 157 ?yy208 ?_
        case yy208 => intro w hSw; (try dsimp only at hSw); go_simp; (try with_reducible rfl)
        simp only [sA, sB, sC]
        refine tkZ (i := 50) 158 ?_
        simp only [sA, sB, sC]
        refine tkZ (i := 51) 159 ?_
        simp only [sA, sB, sC]
        refine tkY (i := 52) (v := ?vv209) 160 ?yy209 ?_
        case yy209 => intro w hSw; (try dsimp only at hSw); go_simp; (try with_reducible rfl)
        simp only [sA, sB, sC]
        refine tkY (i := 53) (v := ?vv210) 161 ?yy210 ?_
        case yy210 => intro w hSw; (try dsimp only at hSw); go_simp; (try with_reducible rfl)
        simp only [sA, sB, sC]
        refine wpAnyH_done (by kernel_rfl) ?_ _
        clear hHeld
        have HLA := Lib.hid (HLA.out.below hbd); have HR := Lib.hid (HR.out.call hbd); have HA := Lib.hid (HA.out.below hbd); have HLB := Lib.hid (HLB.out.below hbd); have HB := Lib.hid (btrans HB.out HB.out.size hbd)
        clear hbd
        go_wp2
        go_roundw
        case rel => exact ⟨k + 1, by omega, by go_num, HLA, HR, HA, HLB, HB.out⟩
        case measure => simp [intOf]; omega
      have tx : (x != a) = true := by rw [bne_iff_ne]; exact ea
      have hnt : nb = true := by rw [← HNB.out, (g4 e7).resolve_left ea]; simp
      subst hnt
      clear g3 g4 g5 e6 e7 ea
      go_upto_region 12 with (fail)
      refine wp_region_held_drew (S := (fun w' => Below v3.heap.size v3 w')) (by kernel_rfl) ?_ (fun hHeld => ?_)
      · exact HBD3.out
      refine tkY (i := 0) (v := ?vv211) 108 ?yy211 ?_
      case yy211 => intro w hSw; (try dsimp only at hSw); go_simp; (try with_reducible rfl)
      simp only [sA, sB, sC]
      refine tkY (i := 1) (v := ?vv212) 109 ?yy212 ?_
      case yy212 =>
        intro wq hSw
        obtain ⟨z0, z1, z2, z3, z4⟩ := (HS2.out.call hSw).c5
        clear hSw
        go_simp
        (try with_reducible rfl)
      simp only [sA, sB, sC]
      refine tkY (i := 2) (v := ?vv213) 110 ?yy213 ?_
      case yy213 => intro w hSw; (try dsimp only at hSw); go_simp; (try with_reducible rfl)
      simp only [sA, sB, sC]
      refine tkY (i := 3) (v := ?vv214) 111 ?yy214 ?_
      case yy214 => intro w hSw; (try dsimp only at hSw); go_simp; (try with_reducible rfl)
      simp only [sA, sB, sC]
      refine tkY (i := 4) (v := ?vv215) 112 ?yy215 ?_
      case yy215 => intro w hSw; (try dsimp only at hSw); go_simp; (try with_reducible rfl)
      simp only [sA, sB, sC]
      refine tkY (i := 5) (v := ?vv216) 113 ?yy216 ?_
      case yy216 =>
        intro wq hSw
        obtain ⟨z0, z1, z2, z3, z4⟩ := (HS2.out.call hSw).c5
        clear hSw
        go_simp
        (try with_reducible rfl)
      simp only [sA, sB, sC]
      refine tkY (i := 6) (v := ?vv217) 114 ?yy217 ?_
      case yy217 => intro w hSw; (try dsimp only at hSw); go_simp; (try with_reducible rfl)
      simp only [sA, sB, sC]
      refine tkY (i := 7) (v := ?vv218) 115 ?yy218 ?_
      case yy218 => intro w hSw; (try dsimp only at hSw); go_simp; (try with_reducible rfl)
      simp only [sA, sB, sC]
      refine tkY (i := 8) (v := ?vv219) 116 ?yy219 ?_
      case yy219 => intro w hSw; (try dsimp only at hSw); go_simp; (try with_reducible rfl)
      simp only [sA, sB, sC]
      refine tkY (i := 9) (v := ?vv220) 117 ?yy220 ?_
      case yy220 => intro w hSw; (try dsimp only at hSw); go_simp; (try with_reducible rfl)
      simp only [sA, sB, sC]
      refine tkY (i := 10) (v := ?vv221) 118 ?yy221 ?_
      case yy221 =>
        intro wq hSw
        obtain ⟨z0, z1, z2, z3, z4⟩ := (HS2.out.call hSw).c5
        clear hSw
        go_simp
        (try with_reducible rfl)
      simp only [sA, sB, sC]
      refine tkY (i := 11) (v := ?vv222) 119 ?yy222 ?_
      case yy222 => intro w hSw; (try dsimp only at hSw); go_simp; (try with_reducible rfl)
      simp only [sA, sB, sC]
      refine tkY (i := 12) (v := ?vv223) 120 ?yy223 ?_
      case yy223 => intro w hSw; (try dsimp only at hSw); go_simp; (try with_reducible rfl)
      simp only [sA, sB, sC]
      refine tkZ (i := 13) 121 ?_
      simp only [sA, sB, sC]
      refine tkZ (i := 14) 122 ?_
      simp only [sA, sB, sC]
      refine tkZ (i := 15) 123 ?_
      simp only [sA, sB, sC]
      refine tkZ (i := 16) 124 ?_
      simp only [sA, sB, sC]
      refine tkZ (i := 17) 125 ?_
      simp only [sA, sB, sC]
      refine tkZ (i := 18) 126 ?_
      simp only [sA, sB, sC]
      refine tkZ (i := 19) 127 ?_
      simp only [sA, sB, sC]
      refine tkY (i := 20) (v := ?vv224) 128 ?yy224 ?_
      case yy224 => intro w hSw; (try dsimp only at hSw); go_simp; (try with_reducible rfl)
      simp only [sA, sB, sC]
      refine tkY (i := 21) (v := ?vv225) 129 ?yy225 ?_
      case yy225 => intro w hSw; (try dsimp only at hSw); go_simp; (try with_reducible rfl)
      simp only [sA, sB, sC]
      refine tkY (i := 22) (v := ?vv226) 130 ?yy226 ?_
      case yy226 => intro w hSw; (try dsimp only at hSw); go_simp; (try with_reducible rfl)
      simp only [sA, sB, sC]
      refine tkY (i := 23) (v := ?vv227) 131 ?yy227 ?_
      case yy227 => intro w hSw; (try dsimp only at hSw); go_simp; (try with_reducible rfl)
      simp only [sA, sB, sC]
      refine tkY (i := 24) (v := ?vv228) 132 ?yy228 ?_
      case yy228 =>
        intro wq hSw
        obtain ⟨z0, z1, z2, z3, z4⟩ := (HS2.out.call hSw).c5
        clear hSw
        go_simp
        (try with_reducible rfl)
      simp only [sA, sB, sC]
      refine tkY (i := 25) (v := ?vv229) 133 ?yy229 ?_
      case yy229 => intro w hSw; (try dsimp only at hSw); go_simp; (try with_reducible rfl)
      simp only [sA, sB, sC]
      refine tkY (i := 26) (v := ?vv230) 134 ?yy230 ?_
      case yy230 => intro w hSw; (try dsimp only at hSw); go_simp; (try with_reducible rfl)
      simp only [sA, sB, sC]
      refine tkY (i := 27) (v := ?vv231) 135 ?yy231 ?_
      case yy231 => intro w hSw; (try dsimp only at hSw); go_simp; (try with_reducible rfl)
      simp only [sA, sB, sC]
      refine tkY (i := 28) (v := ?vv232) 136 ?yy232 ?_
      case yy232 => intro w hSw; (try dsimp only at hSw); go_simp; (try with_reducible rfl)
      simp only [sA, sB, sC]
      refine tkY (i := 29) (v := ?vv233) 137 ?yy233 ?_
      case yy233 => intro w hSw; (try dsimp only at hSw); go_simp; (try with_reducible rfl)
      simp only [sA, sB, sC]
      refine tkY (i := 30) (v := ?vv234) 138 ?yy234 ?_
      case yy234 =>
        intro wq hSw
        have z0 := cell1_below HP0.out hSw
        clear hSw
        go_simp
        (try with_reducible rfl)
      simp only [sA, sB, sC]
      refine tkY (i := 31) (v := ?vv235) 139 ?yy235 ?_
      case yy235 => intro w hSw; (try dsimp only at hSw); go_simp; (try with_reducible rfl)
      simp only [sA, sB, sC]
      refine tkY (i := 32) (v := ?vv236) 140 ?yy236 ?_
      case yy236 =>
        intro wq hSw
        obtain ⟨z0, z1, z2, z3, z4⟩ := (HS2.out.call hSw).c5
        clear hSw
        go_simp
        (try with_reducible rfl)
      simp only [sA, sB, sC]
      refine tkY (i := 33) (v := ?vv237) 141 ?yy237 ?_
      case yy237 => intro w hSw; (try dsimp only at hSw); go_simp; (try with_reducible rfl)
      simp only [sA, sB, sC]
      refine tkY (i := 34) (v := ?vv238) 142 ?yy238 ?_
      case yy238 => intro w hSw; (try dsimp only at hSw); go_simp; (try with_reducible rfl)
      simp only [sA, sB, sC]
      refine tkY (i := 35) (v := ?vv239) 143 ?yy239 ?_
      case yy239 => intro w hSw; (try dsimp only at hSw); go_simp; (try with_reducible rfl)
      simp only [sA, sB, sC]
      refine tkY (i := 36) (v := ?vv240) 144 ?yy240 ?_
      case yy240 => intro w hSw; (try dsimp only at hSw); go_simp; (try with_reducible rfl)
      simp only [sA, sB, sC]
      refine tkY (i := 37) (v := ?vv241) 145 ?yy241 ?_
      case yy241 => intro w hSw; (try dsimp only at hSw); go_simp; (try with_reducible rfl)
      simp only [sA, sB, sC]
      refine tkY (i := 38) (v := ?vv242) 146 ?yy242 ?_
      case yy242 => intro w hSw; (try dsimp only at hSw); go_simp; (try with_reducible rfl)
      simp only [sA, sB, sC]
      refine tkY (i := 39) (v := ?vv243) 147 ?yy243 ?_
      case yy243 => intro w hSw; (try dsimp only at hSw); go_simp; (try with_reducible rfl)
      simp only [sA, sB, sC]
      refine tkY (i := 40) (v := ?vv244) 148 ?yy244 ?_
      case yy244 => intro w hSw; (try dsimp only at hSw); go_simp; (try with_reducible rfl)
      simp only [sA, sB, sC]
      refine tkY (i := 41) (v := ?vv245) 149 ?yy245 ?_
      case yy245 => intro w hSw; (try dsimp only at hSw); go_simp; (try with_reducible rfl)
      simp only [sA, sB, sC]
      refine tkY (i := 42) (v := ?vv246) 150 ?yy246 ?_
      case yy246 =>
        intro wq hSw
        obtain ⟨z0, z1, z2, z3, z4⟩ := (HS2.out.call hSw).c5
        clear hSw
        go_simp
        (try with_reducible rfl)
      simp only [sA, sB, sC]
      refine tkY (i := 43) (v := ?vv247) 151 ?yy247 ?_
      case yy247 => intro w hSw; (try dsimp only at hSw); go_simp; (try with_reducible rfl)
      simp only [sA, sB, sC]
      refine tkY (i := 44) (v := ?vv248) 152 ?yy248 ?_
      case yy248 => intro w hSw; (try dsimp only at hSw); go_simp; (try with_reducible rfl)
      simp only [sA, sB, sC]
      refine tkY (i := 45) (v := ?vv249) 153 ?yy249 ?_
      case yy249 => intro w hSw; (try dsimp only at hSw); go_simp; (try with_reducible rfl)
      simp only [sA, sB, sC]
      refine tkY (i := 46) (v := ?vv250) 154 ?yy250 ?_
      case yy250 =>
        intro wq hSw
        obtain ⟨z0, z1, z2, z3, z4⟩ := (HS2.out.call hSw).c5
        clear hSw
        go_simp
        (try with_reducible rfl)
      simp only [sA, sB, sC]
      refine tkY (i := 47) (v := ?vv251) 155 ?yy251 ?_
      case yy251 => intro w hSw; (try dsimp only at hSw); go_simp; (try with_reducible rfl)
      simp only [sA, sB, sC]
      refine tkY (i := 48) (v := ?vv252) 156 ?yy252 ?_
      case yy252 => intro w hSw; (try dsimp only at hSw); go_simp; (try with_reducible rfl)
      simp only [sA, sB, sC]
      refine tkY (i := 49) (v := ?vv253) 157 ?yy253 ?_
      case yy253 => intro w hSw; (try dsimp only at hSw); go_simp; (try with_reducible rfl)
      simp only [sA, sB, sC]
      refine tkZ (i := 50) 158 ?_
      simp only [sA, sB, sC]
      refine tkZ (i := 51) 159 ?_
      simp only [sA, sB, sC]
      refine tkY (i := 52) (v := ?vv254) 160 ?yy254 ?_
      case yy254 => intro w hSw; (try dsimp only at hSw); go_simp; (try with_reducible rfl)
      simp only [sA, sB, sC]
      refine tkY (i := 53) (v := ?vv255) 161 ?yy255 ?_
      case yy255 => intro w hSw; (try dsimp only at hSw); go_simp; (try with_reducible rfl)
      simp only [sA, sB, sC]
      refine wpAnyH_done (by kernel_rfl) ?_ _
      clear hHeld
      have HLA := Lib.hid (HLA.out.below hbd); have HR := Lib.hid (HR.out.call hbd); have HA := Lib.hid (HA.out.below hbd); have HLB := Lib.hid (HLB.out.below hbd); have HB := Lib.hid (btrans HB.out HB.out.size hbd)
      clear hbd
      go_wp2
      go_roundw
      case rel => exact ⟨k + 1, by omega, by go_num, HLA, HR, HA, HLB, HB.out⟩
      case measure => simp [intOf]; omega
    have hlt' : ¬ (k : Int) < (Lt.length : Int) := by omega
    skip
    obtain ⟨r0, r1, r2, r3, r4, r5, r6⟩ := HR.out.c7
    go_wp2_with fail
    clear r0 r1 r2 r3 r4 r5 r6
    refine (Validate_any pa ia pc ic c.p c.sl c.l _ HA.out.P HA.out.I HL.out.len.1 HL.out.sl HLB.out).mono ?_
    have he : (⟨c.p, c.sl, c.l⟩ : Cd) = c := rfl
    rw [he]
    clear he
    rintro er w4 ⟨rfl, hb4⟩
    have HB := Lib.hid (btrans HB.out HB.out.size hb4); have HR := Lib.hid (HR.out.call hb4); have HA := Lib.hid (HA.out.below hb4); have HLB := Lib.hid (HLB.out.below hb4)
    clear hb4
    by_cases hv : valC c = 0
    · have tv : (valC c == 0) = true := by rw [hv]; rfl
      clear hv
      go_wp2_with fail
      refine (lives18 _ HLB.out).mono ?_
      rintro er w5 ⟨rfl, hb5⟩
      have HB := Lib.hid (btrans HB.out HB.out.size hb5)
      go_wp2
      go_ret
      exact ⟨rfl, HB.out⟩
    have tv : (valC c == 0) = false := by rw [beq_eq_false_iff_ne]; exact hv
    have tl : ((Lt.length : Int) == 0) = true := by rw [HBD.out hv]; rfl
    clear hv
    go_wp2_with fail
    refine (lives18 _ HLB.out).mono ?_
    rintro er w5 ⟨rfl, hb5⟩
    have HB := Lib.hid (btrans HB.out HB.out.size hb5)
    go_wp2
    go_ret
    exact ⟨rfl, HB.out⟩
end Go.Proofs.YtnglaegofhpleaaGreatDoor
namespace Go.Proofs.YtnglaegofhpleaaGreatDoor
open Go.ChangeShapes Go.WideShapes Go.ChangeAt Go.RowKit


theorem returnsInHanded_of_change_and_shaped {H : Type} {enc : TypeId × Value → H} {a : Assume} {C : Checked} {os : Os} {f : FuncId} {fn : Func} {s : ChangeSpec} {conds : List PathCond} {apart fresh handsOn again : Bool} {X : World → Array Value → Prop}
    (hX : ∀ (w w' : World) (args : Array Value), w.heap = w'.heap → X w args → X w' args)
    (own : ownKnob C.prog.godebug = none) (started : os.Started) (noInit : C.prog.inits.idxOf? f = none) (hfn : C.prog.funcs[f]? = some fn)
    (witness : ∃ (w : World) (tape : Tape) (i : Input), w.os = os ∧ (w.forCall tape i).Shaped C.prog ∧ i.vars = [] ∧ Input.okWide C.prog (w.forCall tape i) .any w.heap.size f i ∧
      ((s.pre enc C.prog fn conds apart (w.forCall tape i).memory i.args ∧ X (w.forCall tape i).memory i.args) ∧ sizedMet enc C.prog fn (OpenSpec.ofChange s) apart (w.forCall tape i).memory i.args) ∧ a.holds C.prog (lone (Frame.enter C.prog f i.args .normal) [] (w.forCall tape i)))
    (contract : ∀ (W : World) (base : Nat) (args : Array Value) (ds gs : List (DataW H)) (before : List MemPlace),
      (∀ (j : Nat) t v, fn.params[j]? = some t → args[j]? = some v → Value.okWide C.prog W .any base t v) →
      DataW.Whole enc C.prog fn.params.toList s.vars apart W args.toList ds gs before →
      conds.all (PathCond.test C.prog ⟨fn.params.toList, ds, s.plain.varTypes C.prog, gs⟩) = true →
      (DataW.weightsEach C.prog (fn.params.toList ++ s.plain.varTypes C.prog) (ds ++ gs)).all (· ≤ reachBytes) = true → X W args →
      W.ShapedOpen C.prog →
      a.holds C.prog (lone (Frame.enter C.prog f args .normal) [] W) →
      Calls C.prog f args W fun e W' => ∃ v, e = .returned v ∧ s.post enc C.prog fn apart fresh handsOn again W args v W') :
    ReturnsInHanded a C os f .any (fun w args => (s.pre enc C.prog fn conds apart w args ∧ X w args) ∧ sizedMet enc C.prog fn (OpenSpec.ofChange s) apart w args) (s.post enc C.prog fn apart fresh handsOn again) := by
  refine returnsInHanded_of_calls own started noInit witness ?_
  intro w tape i _ hsh _ hok hpre hholds
  obtain ⟨_, _, _, fn', hfn', _, _, _, _, hval⟩ := hok
  have e : fn' = fn := Option.some.inj (hfn'.symm.trans hfn)
  subst e
  obtain ⟨⟨⟨ds, gs, before, hw, hc⟩, hx⟩, hz⟩ := hpre
  have hw' := DataW.Whole.of_heap (w' := w.forCall tape i) (by rfl) hw
  refine (contract (w.forCall tape i) w.heap.size i.args ds gs before hval hw' hc (hz.weights hw) (hX _ _ _ (by rfl) hx) hsh hholds).mono fun e W' ⟨v, he, hp⟩ => ?_
  subst he
  exact ChangeSpec.post_blind hp
theorem sized_of {H : Type} {P : Program} {ts : List TypeId} {ds : List (DataW H)} (h : (DataW.weightsEach P ts ds).all (· ≤ reachBytes) = true) {j : Nat} {t : TypeId} {d : DataW H} (ht : ts[j]? = some t) (hd : ds[j]? = some d) : ∀ n ∈ d.weights P t, n ≤ reachBytes := by
  intro n hn
  have := List.all_eq_true.1 h n (DataW.weights_mem_each ht hd n hn)
  simpa using this

set_option maxRecDepth 100000 in
theorem laidB_of {W : World} (h : laidMetH Tryz.prog Rows.vmStepsRow.laid W) (hS : W.ShapedOpen Tryz.prog) : LaidB W := by
  rw [MakeChecks.laidMetH_plain _ _ _ (by kernel_rfl)] at h
  have h3 := h.tail.tail
  have h5 := h3.tail.tail
  refine ⟨⟨?_, trivial⟩, ?_, ?_⟩
  · exact Lib.tabIs_of_head (name := Tryz.slashName0) (k := .u64) (zs := Lib.pow10Tab) gTab (by kernel_rfl) Tryz.underlying215 Tryz.underlying121 (by kernel_rfl) (by kernel_rfl) h3
  · exact Lib.tabIs_of_head (name := "strings.asciiSpace") (k := .u8) (zs := Lib.asciiSpaceTab) gSpace (by kernel_rfl) Tryz.underlying130 Tryz.underlying5 (by kernel_rfl) (by kernel_rfl) h5
  · exact cell_of_shapedOpen_int hS (zero := #[.int .i64 0]) (g := 3) (of_decide_eq_true (by kernel_rfl)) (h0 := by kernel_rfl) rfl (by kernel_rfl) (by kernel_rfl) Tryz.underlying3
theorem addr_add (b off i : Nat) : (⟨b, off, none⟩ : Addr).add i = ⟨b, off + i, none⟩ := by unfold Addr.add; split <;> simp_all
theorem flat_at {X : Type} {f : X → List Value} {nc : Nat} (hlen : ∀ x, (f x).length = nc) : ∀ (M : List X) (k q : Nat) (h : k < M.length), q < nc → (M.flatMap f)[k * nc + q]? = (f M[k])[q]?
  | [], k, q, h, _ => by simp at h
  | x :: r, 0, q, h, hq => by
    rw [List.flatMap_cons, List.getElem?_append_left (by rw [hlen]; omega), Nat.zero_mul, Nat.zero_add]; rfl
  | x :: r, k + 1, q, h, hq => by
    have ih := flat_at hlen r k q (by simpa using h) hq
    rw [List.flatMap_cons, List.getElem?_append_right (by rw [hlen, Nat.succ_mul]; omega), show (k + 1) * nc + q - (f x).length = k * nc + q by rw [hlen, Nat.succ_mul]; omega, ih]; rfl
theorem flat_len {X : Type} {f : X → List Value} {nc : Nat} (hlen : ∀ x, (f x).length = nc) : ∀ M : List X, (M.flatMap f).length = M.length * nc
  | [] => by simp
  | x :: r => by rw [List.flatMap_cons, List.length_append, hlen, flat_len hlen r, List.length_cons, Nat.succ_mul]; omega
theorem wf_rng {q : Int} (w : (Lit.int .i64 q).wf = true) : fits q = true := by
  simp only [Lit.wf, IntKind.min, IntKind.max, IntKind.signed, IntKind.bits, Bool.and_eq_true, decide_eq_true_eq, if_true] at w
  unfold fits; simp only [Bool.and_eq_true, decide_eq_true_eq]; omega
def InsN (x : Ins) : Prop := fits x.n = true ∧ x.s.length ≤ 140737488351232
def VlN (x : Vl) : Prop := fits x.n = true ∧ x.s.length ≤ 140737488351232
def PrN (x : Pr) : Prop := x.key.length ≤ 140737488351232 ∧ VlN x.v
section
variable {H : Type} {enc : TypeId × Value → H} {W : World} {base : Nat} {spare : Nat → Bool} {held : Bool}
theorem weightsAll_mem {P : Program} {e : TypeId} {l : List (DataW H)} {d : DataW H} (hd : d ∈ l) {n : Nat} (hn : n ∈ d.weights P e) : n ∈ DataW.weightsAll P e l := by
  induction l with
  | nil => cases hd
  | cons x r ih =>
    simp only [DataW.weightsAll, List.mem_append]
    rcases List.mem_cons.1 hd with h | h
    · subst h; exact .inl hn
    · exact .inr (ih h)
theorem open_list {X : Type} {elT slT : TypeId} {f : X → List Value} {nc : Nat} {d0 : X} {Q : X → Prop} (hu : Tryz.prog.underlying slT = some (.slice elT)) (hce : Tryz.prog.cellsOf elT = nc) (hnc : 0 < nc) (hlen : ∀ x, (f x).length = nc)
    (htrod : ∀ {fuel : Nat} {cs : List Value} {x : DataW H × List MemPlace}, DataW.trod enc Tryz.prog W base spare held fuel elT cs = some x → (∀ n ∈ x.1.weights Tryz.prog elT, n ≤ reachBytes) → ∃ y, cs = f y ∧ Q y)
    {fuel : Nat} {cs : List Value} {x : DataW H × List MemPlace} (h : DataW.trod enc Tryz.prog W base spare held fuel slT cs = some x) (hz : ∀ n ∈ x.1.weights Tryz.prog slT, n ≤ reachBytes) :
    ∃ (a : Option Addr) (c : Nat) (M : List X), cs = [.slice a M.length c] ∧ M.length ≤ c ∧ CellsAt W (.slice a M.length c) M.length (M.flatMap f) ∧ M.length * Tryz.prog.bytesOf elT ≤ reachBytes ∧ ∀ x ∈ M, Q x := by
  rcases Deep.open_slice hu h with ⟨rfl, _⟩ | ⟨a, len0, cap0, m, n, D, Pl, rfl, _, hl, _, hm, hx, hi⟩
  · exact ⟨none, 0, [], rfl, Nat.le_refl _, ⟨none, 0, rfl, fun hne => absurd rfl hne⟩, by simp, by simp⟩
  · have hlm : len0 ≤ m := by rw [hm]; split <;> omega
    have hx1 := congrArg Prod.fst hx
    simp only at hx1
    rw [hx1] at hz
    have hsz : len0 * Tryz.prog.bytesOf elT ≤ reachBytes := by
      have h1 := hz ((((List.range len0).map D).length + (((List.range (m - len0)).map fun j => D (len0 + j))).length) * Tryz.prog.bytesOf elT) (by simp [DataW.weights, hu])
      rw [List.length_map, List.length_range, Nat.add_mul] at h1
      omega
    have hel : ∀ i, i < len0 → ∃ x : X, (∀ j u, (f x)[j]? = some u → W.cell? ((a.add (i * nc)).add j) = some u) ∧ Q x := by
      intro i hil
      obtain ⟨cs', hc, ht⟩ := hi i (by omega)
      rw [hce] at hc
      obtain ⟨y, rfl, y0⟩ := htrod ht (fun n hn => hz n (by
        simp only [DataW.weights, hu, List.mem_cons, List.mem_append]
        exact .inr (.inl (weightsAll_mem (List.mem_map.2 ⟨i, List.mem_range.2 hil, rfl⟩) hn))))
      obtain ⟨_, _, hat⟩ := World.cells?_some hc
      refine ⟨y, fun j u hj => ?_, y0⟩
      have hj4 : j < (f y).length := by
        rcases Nat.lt_or_ge j (f y).length with h | h
        · exact h
        · rw [List.getElem?_eq_none h] at hj; cases hj
      exact (hat j (by rw [hlen] at hj4; exact hj4)).trans hj
    obtain ⟨F, hF⟩ : ∃ F : Nat → X, ∀ i, i < len0 → (∀ j u, (f (F i))[j]? = some u → W.cell? ((a.add (i * nc)).add j) = some u) ∧ Q (F i) :=
      ⟨fun i => if h : i < len0 then (hel i h).choose else d0, fun i h => by simp only [dif_pos h]; exact (hel i h).choose_spec⟩
    have hML : ((List.range len0).map F).length = len0 := by simp
    refine ⟨some a, cap0, (List.range len0).map F, by rw [hML], by rw [hML]; exact hl, ⟨some a, cap0, by rw [hML], fun hne => ?_⟩, by rw [hML]; exact hsz, ?_⟩
    · have h0 : 0 < len0 := by
        rcases Nat.eq_zero_or_pos len0 with h | h
        · subst h; exact absurd rfl hne
        · exact h
      obtain ⟨b, off, spot⟩ := a
      have hspot : spot = none := by
        have h9 := (hF 0 h0).1 0 _ (List.getElem?_eq_getElem (by rw [hlen]; exact hnc))
        have h10 := World.cell?_spot h9
        cases spot with
        | none => rfl
        | some q => simp [Addr.add] at h10
      subst hspot
      refine ⟨b, off, rfl, fun j u hj => ?_⟩
      have hl2 := flat_len hlen ((List.range len0).map F)
      rw [hML] at hl2
      have hj4 : j < len0 * nc := by
        rcases Nat.lt_or_ge j (len0 * nc) with h | h
        · exact h
        · rw [List.getElem?_eq_none (by rw [hl2]; exact h)] at hj; cases hj
      have hjd : j / nc < len0 := Nat.div_lt_of_lt_mul (by rw [Nat.mul_comm]; exact hj4)
      have hjm : j / nc * nc + j % nc = j := by rw [Nat.mul_comm]; exact Nat.div_add_mod j nc
      have hq := flat_at hlen ((List.range len0).map F) (j / nc) (j % nc) (by rw [hML]; exact hjd) (Nat.mod_lt _ hnc)
      rw [hjm, hj] at hq
      simp only [List.getElem_map, List.getElem_range] at hq
      have h8 := (hF (j / nc) hjd).1 (j % nc) u hq.symm
      rw [addr_add, addr_add] at h8
      rw [show off + j = off + j / nc * nc + j % nc by omega]
      exact h8
    · intro x hxm
      obtain ⟨i, hi2, rfl⟩ := List.mem_map.1 hxm
      exact (hF i (List.mem_range.1 hi2)).2
set_option maxRecDepth 100000 in
theorem trod_vl {fuel : Nat} {cs : List Value} {x : DataW H × List MemPlace} (h : DataW.trod enc Tryz.prog W base spare held fuel 52 cs = some x) (hz : ∀ n ∈ x.1.weights Tryz.prog 52, n ≤ reachBytes) :
    ∃ y : Vl, cs = vlL y ∧ VlN y := by
  obtain ⟨ys, n, _, hx, hlen, hyl, hf⟩ := DataW.trod_struct Tryz.underlying52 h
  rw [show Tryz.prog.cellsOf 52 = 3 by kernel_rfl] at hlen
  match cs, hlen with
  | [u0, u1, u2], _ =>
    match ys, hyl with
    | [y0, y1, y2], _ =>
      have g0 : DataW.trod enc Tryz.prog W base spare held n 3 (([u0, u1, u2].drop 0).take (Tryz.prog.cellsOf 3)) = some y0 := hf 0 _ rfl
      rw [show Tryz.prog.cellsOf 3 = 1 by kernel_rfl] at g0
      have g1 : DataW.trod enc Tryz.prog W base spare held n 2 (([u0, u1, u2].drop 1).take (Tryz.prog.cellsOf 2)) = some y1 := hf 1 _ rfl
      rw [show Tryz.prog.cellsOf 2 = 1 by kernel_rfl] at g1
      have g2 : DataW.trod enc Tryz.prog W base spare held n 9 (([u0, u1, u2].drop 2).take (Tryz.prog.cellsOf 9)) = some y2 := hf 2 _ rfl
      rw [show Tryz.prog.cellsOf 9 = 1 by kernel_rfl] at g2
      have z2 : ∀ n ∈ y2.1.weights Tryz.prog 9, n ≤ reachBytes := fun n hn => hz n (by rw [hx]; simp only [DataW.weights, Tryz.underlying52, List.map_cons, List.map_nil, DataW.weightsEach, List.mem_append]; exact Or.inr (Or.inr (Or.inl hn)))
      obtain ⟨k, e0, _⟩ := DataW.trod_int Tryz.underlying3 g0
      obtain ⟨q, e1, _, w1⟩ := DataW.trod_int Tryz.underlying2 g1
      obtain ⟨s, e2, f2⟩ := DataW.trod_string Tryz.underlying9 g2
      simp at e0 e1 e2
      subst e0 e1 e2
      rw [f2.1] at z2
      have l2 : s.data.toList.length ≤ 140737488351232 := by have := z2 s.data.toList.length (by simp [DataW.weights]); unfold reachBytes at this; omega
      exact ⟨⟨k, q, s.data.toList⟩, by simp only [vlL, bs_toList], wf_rng w1, l2⟩
set_option maxRecDepth 100000 in
theorem trod_pr {fuel : Nat} {cs : List Value} {x : DataW H × List MemPlace} (h : DataW.trod enc Tryz.prog W base spare held fuel 55 cs = some x) (hz : ∀ n ∈ x.1.weights Tryz.prog 55, n ≤ reachBytes) :
    ∃ y : Pr, cs = prL y ∧ PrN y := by
  obtain ⟨ys, n, _, hx, hlen, hyl, hf⟩ := DataW.trod_struct Tryz.underlying55 h
  rw [show Tryz.prog.cellsOf 55 = 4 by kernel_rfl] at hlen
  match cs, hlen with
  | [u0, u1, u2, u3], _ =>
    match ys, hyl with
    | [y0, y1], _ =>
      have g0 : DataW.trod enc Tryz.prog W base spare held n 9 (([u0, u1, u2, u3].drop 0).take (Tryz.prog.cellsOf 9)) = some y0 := hf 0 _ rfl
      rw [show Tryz.prog.cellsOf 9 = 1 by kernel_rfl] at g0
      have z0 : ∀ n ∈ y0.1.weights Tryz.prog 9, n ≤ reachBytes := fun n hn => hz n (by rw [hx]; simp only [DataW.weights, Tryz.underlying55, List.map_cons, List.map_nil, DataW.weightsEach, List.mem_append]; exact Or.inl hn)
      have g1 : DataW.trod enc Tryz.prog W base spare held n 52 (([u0, u1, u2, u3].drop 1).take (Tryz.prog.cellsOf 52)) = some y1 := hf 1 _ rfl
      rw [show Tryz.prog.cellsOf 52 = 3 by kernel_rfl] at g1
      have z1 : ∀ n ∈ y1.1.weights Tryz.prog 52, n ≤ reachBytes := fun n hn => hz n (by rw [hx]; simp only [DataW.weights, Tryz.underlying55, List.map_cons, List.map_nil, DataW.weightsEach, List.mem_append]; exact Or.inr (Or.inl hn))
      obtain ⟨s, e0, f0⟩ := DataW.trod_string Tryz.underlying9 g0
      obtain ⟨v, e1, hv⟩ := trod_vl g1 z1
      simp [vlL] at e0 e1
      obtain ⟨rfl, rfl, rfl⟩ := e1
      subst e0
      rw [f0.1] at z0
      have l0 : s.data.toList.length ≤ 140737488351232 := by have := z0 s.data.toList.length (by simp [DataW.weights]); unfold reachBytes at this; omega
      exact ⟨⟨s.data.toList, v⟩, by simp only [prL, bs_toList], l0, hv⟩
set_option maxRecDepth 100000 in
theorem trod_ins {fuel : Nat} {cs : List Value} {x : DataW H × List MemPlace} (h : DataW.trod enc Tryz.prog W base spare held fuel 45 cs = some x) (hz : ∀ n ∈ x.1.weights Tryz.prog 45, n ≤ reachBytes) :
    ∃ y : Ins, cs = insL y ∧ InsN y := by
  obtain ⟨ys, n, _, hx, hlen, hyl, hf⟩ := DataW.trod_struct Tryz.underlying45 h
  rw [show Tryz.prog.cellsOf 45 = 5 by kernel_rfl] at hlen
  match cs, hlen with
  | [u0, u1, u2, u3, u4], _ =>
    match ys, hyl with
    | [y0, y1, y2, y3, y4], _ =>
      have g0 : DataW.trod enc Tryz.prog W base spare held n 3 (([u0, u1, u2, u3, u4].drop 0).take (Tryz.prog.cellsOf 3)) = some y0 := hf 0 _ rfl
      rw [show Tryz.prog.cellsOf 3 = 1 by kernel_rfl] at g0
      have g1 : DataW.trod enc Tryz.prog W base spare held n 3 (([u0, u1, u2, u3, u4].drop 1).take (Tryz.prog.cellsOf 3)) = some y1 := hf 1 _ rfl
      rw [show Tryz.prog.cellsOf 3 = 1 by kernel_rfl] at g1
      have g2 : DataW.trod enc Tryz.prog W base spare held n 3 (([u0, u1, u2, u3, u4].drop 2).take (Tryz.prog.cellsOf 3)) = some y2 := hf 2 _ rfl
      rw [show Tryz.prog.cellsOf 3 = 1 by kernel_rfl] at g2
      have g3 : DataW.trod enc Tryz.prog W base spare held n 2 (([u0, u1, u2, u3, u4].drop 3).take (Tryz.prog.cellsOf 2)) = some y3 := hf 3 _ rfl
      rw [show Tryz.prog.cellsOf 2 = 1 by kernel_rfl] at g3
      have g4 : DataW.trod enc Tryz.prog W base spare held n 9 (([u0, u1, u2, u3, u4].drop 4).take (Tryz.prog.cellsOf 9)) = some y4 := hf 4 _ rfl
      rw [show Tryz.prog.cellsOf 9 = 1 by kernel_rfl] at g4
      have z4 : ∀ n ∈ y4.1.weights Tryz.prog 9, n ≤ reachBytes := fun n hn => hz n (by rw [hx]; simp only [DataW.weights, Tryz.underlying45, List.map_cons, List.map_nil, DataW.weightsEach, List.mem_append]; exact Or.inr (Or.inr (Or.inr (Or.inr (Or.inl hn)))))
      obtain ⟨op, e0, _⟩ := DataW.trod_int Tryz.underlying3 g0
      obtain ⟨a, e1, _⟩ := DataW.trod_int Tryz.underlying3 g1
      obtain ⟨b, e2, _⟩ := DataW.trod_int Tryz.underlying3 g2
      obtain ⟨q, e3, _, w3⟩ := DataW.trod_int Tryz.underlying2 g3
      obtain ⟨s, e4, f4⟩ := DataW.trod_string Tryz.underlying9 g4
      simp at e0 e1 e2 e3 e4
      subst e0 e1 e2 e3 e4
      rw [f4.1] at z4
      have l4 : s.data.toList.length ≤ 140737488351232 := by have := z4 s.data.toList.length (by simp [DataW.weights]); unfold reachBytes at this; omega
      exact ⟨⟨op, a, b, q, s.data.toList⟩, by simp only [insL, bs_toList], wf_rng w3, l4⟩
theorem trod_int1 {fuel : Nat} {cs : List Value} {x : DataW H × List MemPlace} (h : DataW.trod enc Tryz.prog W base spare held fuel 3 cs = some x) (_hz : ∀ n ∈ x.1.weights Tryz.prog 3, n ≤ reachBytes) : ∃ y : Int, cs = [.int .i64 y] ∧ True := by
  obtain ⟨k, e0, _⟩ := DataW.trod_int Tryz.underlying3 h
  exact ⟨k, e0, trivial⟩
theorem trod_str1 {fuel : Nat} {cs : List Value} {x : DataW H × List MemPlace} (h : DataW.trod enc Tryz.prog W base spare held fuel 9 cs = some x) (hz : ∀ n ∈ x.1.weights Tryz.prog 9, n ≤ reachBytes) : ∃ y : List UInt8, cs = [strV y] ∧ y.length ≤ 140737488351232 := by
  obtain ⟨s, e0, f0⟩ := DataW.trod_string Tryz.underlying9 h
  rw [f0.1] at hz
  refine ⟨s.data.toList, by rw [e0]; unfold strV; rw [bs_toList], ?_⟩
  have := hz s.data.toList.length (by simp [DataW.weights])
  unfold reachBytes at this
  omega
theorem flat_one {X : Type} (g : X → Value) : ∀ M : List X, M.flatMap (fun x => [g x]) = M.map g
  | [] => rfl
  | x :: r => by rw [List.flatMap_cons, flat_one g r]; rfl
theorem strS_cells {W : World} {a : Option Addr} {c : Nat} {M : List (List UInt8)} (hc : M.length ≤ c) (h : CellsAt W (.slice a M.length c) M.length (M.map strV)) : StrS W (.slice a M.length c) M := by
  obtain ⟨a2, c2, he, hx⟩ := h
  simp only [Value.slice.injEq] at he
  obtain ⟨rfl, -, rfl⟩ := he
  refine ⟨_, _, rfl, hc, fun hne => ?_⟩
  obtain ⟨b, off, hb, hcell⟩ := hx (by intro e; exact hne (List.map_eq_nil_iff.1 e))
  exact ⟨b, off, hb, fun i hi => hcell i _ (by rw [List.getElem?_map, List.getElem?_eq_getElem hi]; rfl)⟩
set_option maxRecDepth 100000 in
theorem trod_vls {fuel : Nat} {cs : List Value} {x : DataW H × List MemPlace} (h : DataW.trod enc Tryz.prog W base spare held fuel 26 cs = some x) (hz : ∀ n ∈ x.1.weights Tryz.prog 26, n ≤ reachBytes) :
    ∃ (a : Option Addr) (c : Nat) (M : List Vl), cs = [.slice a M.length c] ∧ CellsAt W (.slice a M.length c) M.length (vlLs M) ∧ M.length ≤ 4398046511103 ∧ ∀ x ∈ M, VlN x := by
  obtain ⟨a, c, M, e, hc, hM, hb, hq⟩ := open_list (f := vlL) (nc := 3) (d0 := v00) (Q := fun x => VlN x) Tryz.underlying26 (by kernel_rfl) (by decide) (fun _ => rfl) (fun h hz => trod_vl h hz) h hz
  rw [show Tryz.prog.bytesOf 52 = 32 by kernel_rfl] at hb
  unfold reachBytes at hb
  exact ⟨a, c, M, e, hM, by omega, hq⟩
set_option maxRecDepth 100000 in
theorem trod_prs {fuel : Nat} {cs : List Value} {x : DataW H × List MemPlace} (h : DataW.trod enc Tryz.prog W base spare held fuel 32 cs = some x) (hz : ∀ n ∈ x.1.weights Tryz.prog 32, n ≤ reachBytes) :
    ∃ (a : Option Addr) (c : Nat) (M : List Pr), cs = [.slice a M.length c] ∧ CellsAt W (.slice a M.length c) M.length (prLs M) ∧ M.length ≤ 2932031007402 ∧ ∀ x ∈ M, PrN x := by
  obtain ⟨a, c, M, e, hc, hM, hb, hq⟩ := open_list (f := prL) (nc := 4) (d0 := ⟨[], v00⟩) (Q := fun x => PrN x) Tryz.underlying32 (by kernel_rfl) (by decide) (fun _ => rfl) (fun h hz => trod_pr h hz) h hz
  rw [show Tryz.prog.bytesOf 55 = 48 by kernel_rfl] at hb
  unfold reachBytes at hb
  exact ⟨a, c, M, e, hM, by omega, hq⟩
set_option maxRecDepth 100000 in
theorem trod_inss {fuel : Nat} {cs : List Value} {x : DataW H × List MemPlace} (h : DataW.trod enc Tryz.prog W base spare held fuel 23 cs = some x) (hz : ∀ n ∈ x.1.weights Tryz.prog 23, n ≤ reachBytes) :
    ∃ (a : Option Addr) (c : Nat) (M : List Ins), cs = [.slice a M.length c] ∧ CellsAt W (.slice a M.length c) M.length (insLs M) ∧ M.length ≤ 8796093022208 ∧ ∀ x ∈ M, InsN x := by
  obtain ⟨a, c, M, e, hc, hM, hb, hq⟩ := open_list (f := insL) (nc := 5) (d0 := ins0) (Q := fun x => InsN x) Tryz.underlying23 (by kernel_rfl) (by decide) (fun _ => rfl) (fun h hz => trod_ins h hz) h hz
  rw [show Tryz.prog.bytesOf 45 = 48 by kernel_rfl] at hb
  unfold reachBytes at hb
  exact ⟨a, c, M, e, hM, by omega, hq⟩
set_option maxRecDepth 100000 in
theorem trod_ints {fuel : Nat} {cs : List Value} {x : DataW H × List MemPlace} (h : DataW.trod enc Tryz.prog W base spare held fuel 22 cs = some x) (hz : ∀ n ∈ x.1.weights Tryz.prog 22, n ≤ reachBytes) :
    ∃ (a : Option Addr) (c : Nat) (M : List Int), cs = [.slice a M.length c] ∧ CellsAt W (.slice a M.length c) M.length (intsL M) ∧ M.length ≤ 17592186044415 ∧ ∀ x ∈ M, True := by
  obtain ⟨a, c, M, e, hc, hM, hb, hq⟩ := open_list (f := (fun x => [.int .i64 x])) (nc := 1) (d0 := 0) (Q := fun x => True) Tryz.underlying22 (by kernel_rfl) (by decide) (fun _ => rfl) (fun h hz => trod_int1 h hz) h hz
  rw [show Tryz.prog.bytesOf 3 = 8 by kernel_rfl] at hb
  unfold reachBytes at hb
  exact ⟨a, c, M, e, (by rw [flat_one] at hM; exact hM), by omega, hq⟩
set_option maxRecDepth 100000 in
theorem trod_strs {fuel : Nat} {cs : List Value} {x : DataW H × List MemPlace} (h : DataW.trod enc Tryz.prog W base spare held fuel 27 cs = some x) (hz : ∀ n ∈ x.1.weights Tryz.prog 27, n ≤ reachBytes) :
    ∃ (a : Option Addr) (c : Nat) (M : List (List UInt8)), cs = [.slice a M.length c] ∧ StrS W (.slice a M.length c) M ∧ M.length ≤ 8796093022207 ∧ ∀ x ∈ M, x.length ≤ 140737488351232 := by
  obtain ⟨a, c, M, e, hc, hM, hb, hq⟩ := open_list (f := (fun x => [strV x])) (nc := 1) (d0 := []) (Q := fun x => x.length ≤ 140737488351232) Tryz.underlying27 (by kernel_rfl) (by decide) (fun _ => rfl) (fun h hz => trod_str1 h hz) h hz
  rw [show Tryz.prog.bytesOf 9 = 16 by kernel_rfl] at hb
  unfold reachBytes at hb
  exact ⟨a, c, M, e, strS_cells hc (by rw [flat_one] at hM; exact hM), by omega, hq⟩
set_option maxRecDepth 100000 in
theorem trod_code {fuel : Nat} {cs : List Value} {x : DataW H × List MemPlace} (h : DataW.trod enc Tryz.prog W base spare held fuel 25 cs = some x) (hz : ∀ n ∈ x.1.weights Tryz.prog 25, n ≤ reachBytes) :
    ∃ (pa ia : Option Addr) (pc ic : Nat) (c : Cd), cs = [.slice pa c.p.length pc, .int .i64 c.sl, .slice ia c.l.length ic] ∧ CellsAt W (.slice pa c.p.length pc) c.p.length (intsL c.p) ∧ CellsAt W (.slice ia c.l.length ic) c.l.length (insLs c.l) ∧ c.p.length ≤ 17592186044415 ∧ ∀ x ∈ c.l, InsN x := by
  obtain ⟨ys, n, _, hx, hlen, hyl, hf⟩ := DataW.trod_struct Tryz.underlying25 h
  rw [show Tryz.prog.cellsOf 25 = 3 by kernel_rfl] at hlen
  match cs, hlen with
  | [u0, u1, u2], _ =>
    match ys, hyl with
    | [y0, y1, y2], _ =>
      have g0 : DataW.trod enc Tryz.prog W base spare held n 22 (([u0, u1, u2].drop 0).take (Tryz.prog.cellsOf 22)) = some y0 := hf 0 _ rfl
      rw [show Tryz.prog.cellsOf 22 = 1 by kernel_rfl] at g0
      have z0 : ∀ n ∈ y0.1.weights Tryz.prog 22, n ≤ reachBytes := fun n hn => hz n (by rw [hx]; simp only [DataW.weights, Tryz.underlying25, List.map_cons, List.map_nil, DataW.weightsEach, List.mem_append]; exact Or.inl hn)
      have g1 : DataW.trod enc Tryz.prog W base spare held n 3 (([u0, u1, u2].drop 1).take (Tryz.prog.cellsOf 3)) = some y1 := hf 1 _ rfl
      rw [show Tryz.prog.cellsOf 3 = 1 by kernel_rfl] at g1
      have g2 : DataW.trod enc Tryz.prog W base spare held n 23 (([u0, u1, u2].drop 2).take (Tryz.prog.cellsOf 23)) = some y2 := hf 2 _ rfl
      rw [show Tryz.prog.cellsOf 23 = 1 by kernel_rfl] at g2
      have z2 : ∀ n ∈ y2.1.weights Tryz.prog 23, n ≤ reachBytes := fun n hn => hz n (by rw [hx]; simp only [DataW.weights, Tryz.underlying25, List.map_cons, List.map_nil, DataW.weightsEach, List.mem_append]; exact Or.inr (Or.inr (Or.inl hn)))
      obtain ⟨pa, pc, P, e0, hP, bP, _⟩ := trod_ints g0 z0
      obtain ⟨sl, e1, _⟩ := DataW.trod_int Tryz.underlying3 g1
      obtain ⟨ia, ic, M, e2, hM, _, hR⟩ := trod_inss g2 z2
      simp at e0 e1 e2
      subst e0 e1 e2
      exact ⟨pa, ia, pc, ic, ⟨P, sl, M⟩, rfl, hP, hM, bP, hR⟩
set_option maxRecDepth 100000 in
theorem trod_foot {fuel : Nat} {cs : List Value} {x : DataW H × List MemPlace} (h : DataW.trod enc Tryz.prog W base spare held fuel 29 cs = some x) (hz : ∀ n ∈ x.1.weights Tryz.prog 29, n ≤ reachBytes) :
    ∃ (ra wa : Option Addr) (rc wac : Nat) (F : Ft), cs = [.bool F.all, .slice ra F.rd.length rc, .slice wa F.wr.length wac] ∧ StrS W (.slice ra F.rd.length rc) F.rd ∧ StrS W (.slice wa F.wr.length wac) F.wr ∧ F.rd.length ≤ 8796093022207 ∧ F.wr.length ≤ 8796093022207 ∧ (∀ q ∈ F.rd, q.length ≤ 140737488351232) ∧ ∀ q ∈ F.wr, q.length ≤ 140737488351232 := by
  obtain ⟨ys, n, _, hx, hlen, hyl, hf⟩ := DataW.trod_struct Tryz.underlying29 h
  rw [show Tryz.prog.cellsOf 29 = 3 by kernel_rfl] at hlen
  match cs, hlen with
  | [u0, u1, u2], _ =>
    match ys, hyl with
    | [y0, y1, y2], _ =>
      have g0 : DataW.trod enc Tryz.prog W base spare held n 4 (([u0, u1, u2].drop 0).take (Tryz.prog.cellsOf 4)) = some y0 := hf 0 _ rfl
      rw [show Tryz.prog.cellsOf 4 = 1 by kernel_rfl] at g0
      have g1 : DataW.trod enc Tryz.prog W base spare held n 27 (([u0, u1, u2].drop 1).take (Tryz.prog.cellsOf 27)) = some y1 := hf 1 _ rfl
      rw [show Tryz.prog.cellsOf 27 = 1 by kernel_rfl] at g1
      have z1 : ∀ n ∈ y1.1.weights Tryz.prog 27, n ≤ reachBytes := fun n hn => hz n (by rw [hx]; simp only [DataW.weights, Tryz.underlying29, List.map_cons, List.map_nil, DataW.weightsEach, List.mem_append]; exact Or.inr (Or.inl hn))
      have g2 : DataW.trod enc Tryz.prog W base spare held n 27 (([u0, u1, u2].drop 2).take (Tryz.prog.cellsOf 27)) = some y2 := hf 2 _ rfl
      rw [show Tryz.prog.cellsOf 27 = 1 by kernel_rfl] at g2
      have z2 : ∀ n ∈ y2.1.weights Tryz.prog 27, n ≤ reachBytes := fun n hn => hz n (by rw [hx]; simp only [DataW.weights, Tryz.underlying29, List.map_cons, List.map_nil, DataW.weightsEach, List.mem_append]; exact Or.inr (Or.inr (Or.inl hn)))
      obtain ⟨al, e0, _⟩ := DataW.trod_bool Tryz.underlying4 g0
      obtain ⟨ra, rc, R, e1, hR, bR, qR⟩ := trod_strs g1 z1
      obtain ⟨wa, wc, Q, e2, hQ, bQ, qQ⟩ := trod_strs g2 z2
      simp at e0 e1 e2
      subst e0 e1 e2
      exact ⟨ra, wa, rc, wc, ⟨al, R, Q⟩, rfl, hR, hQ, bR, bQ, qR, qQ⟩
structure RunIn (W : World) (pa ia aa ra wa : Option Addr) (pc ic ac rc wac : Nat) (c : Cd) (A : List Vl) (F : Ft) : Prop where
  cP : CellsAt W (.slice pa c.p.length pc) c.p.length (intsL c.p)
  cI : CellsAt W (.slice ia c.l.length ic) c.l.length (insLs c.l)
  cA : CellsAt W (.slice aa A.length ac) A.length (vlLs A)
  cR : StrS W (.slice ra F.rd.length rc) F.rd
  cW : StrS W (.slice wa F.wr.length wac) F.wr
  lP : c.p.length ≤ 17592186044415
  lA : A.length ≤ 4398046511103
  lR : F.rd.length ≤ 8796093022207 ∧ F.wr.length ≤ 8796093022207
  nI : ∀ x ∈ c.l, InsN x
  nA : ∀ x ∈ A, VlN x
  sR : (∀ q ∈ F.rd, q.length ≤ 140737488351232) ∧ ∀ q ∈ F.wr, q.length ≤ 140737488351232
set_option maxRecDepth 100000 in
theorem trod_run {fuel : Nat} {cs : List Value} {x : DataW H × List MemPlace} (h : DataW.trod enc Tryz.prog W base spare held fuel 31 cs = some x) (hz : ∀ n ∈ x.1.weights Tryz.prog 31, n ≤ reachBytes) :
    ∃ (pa ia aa ra wa : Option Addr) (pc ic ac rc wac : Nat) (c : Cd) (A : List Vl) (F : Ft), cs = [.slice pa c.p.length pc, .int .i64 c.sl, .slice ia c.l.length ic, .slice aa A.length ac, .bool F.all, .slice ra F.rd.length rc, .slice wa F.wr.length wac] ∧ RunIn W pa ia aa ra wa pc ic ac rc wac c A F := by
  obtain ⟨ys, n, _, hx, hlen, hyl, hf⟩ := DataW.trod_struct Tryz.underlying31 h
  rw [show Tryz.prog.cellsOf 31 = 7 by kernel_rfl] at hlen
  match cs, hlen with
  | [u0, u1, u2, u3, u4, u5, u6], _ =>
    match ys, hyl with
    | [y0, y1, y2], _ =>
      have g0 : DataW.trod enc Tryz.prog W base spare held n 25 (([u0, u1, u2, u3, u4, u5, u6].drop 0).take (Tryz.prog.cellsOf 25)) = some y0 := hf 0 _ rfl
      rw [show Tryz.prog.cellsOf 25 = 3 by kernel_rfl] at g0
      have z0 : ∀ n ∈ y0.1.weights Tryz.prog 25, n ≤ reachBytes := fun n hn => hz n (by rw [hx]; simp only [DataW.weights, Tryz.underlying31, List.map_cons, List.map_nil, DataW.weightsEach, List.mem_append]; exact Or.inl hn)
      have g1 : DataW.trod enc Tryz.prog W base spare held n 26 (([u0, u1, u2, u3, u4, u5, u6].drop 3).take (Tryz.prog.cellsOf 26)) = some y1 := hf 1 _ rfl
      rw [show Tryz.prog.cellsOf 26 = 1 by kernel_rfl] at g1
      have z1 : ∀ n ∈ y1.1.weights Tryz.prog 26, n ≤ reachBytes := fun n hn => hz n (by rw [hx]; simp only [DataW.weights, Tryz.underlying31, List.map_cons, List.map_nil, DataW.weightsEach, List.mem_append]; exact Or.inr (Or.inl hn))
      have g2 : DataW.trod enc Tryz.prog W base spare held n 29 (([u0, u1, u2, u3, u4, u5, u6].drop 4).take (Tryz.prog.cellsOf 29)) = some y2 := hf 2 _ rfl
      rw [show Tryz.prog.cellsOf 29 = 3 by kernel_rfl] at g2
      have z2 : ∀ n ∈ y2.1.weights Tryz.prog 29, n ≤ reachBytes := fun n hn => hz n (by rw [hx]; simp only [DataW.weights, Tryz.underlying31, List.map_cons, List.map_nil, DataW.weightsEach, List.mem_append]; exact Or.inr (Or.inr (Or.inl hn)))
      obtain ⟨pa, ia, pc, ic, c, e0, a1, a2, a3, a4⟩ := trod_code g0 z0
      obtain ⟨aa, ac, A, e1, b1, b2, b3⟩ := trod_vls g1 z1
      obtain ⟨ra, wa, rc, wac, F, e2, c1, c2, c3, c4, c5, c6⟩ := trod_foot g2 z2
      simp at e0 e1 e2
      obtain ⟨rfl, rfl, rfl⟩ := e0
      subst e1
      obtain ⟨rfl, rfl, rfl⟩ := e2
      exact ⟨pa, ia, aa, ra, wa, pc, ic, ac, rc, wac, c, A, F, rfl, ⟨a1, a2, b1, c1, c2, a3, b2, ⟨c3, c4⟩, a4, b3, ⟨c5, c6⟩⟩⟩
set_option maxRecDepth 100000 in
theorem open_run {r : Reach} {b0 : Nat} {v : Value} {d : DataW H} {p : List MemPlace} (hv : Value.okWide Tryz.prog W r b0 31 v) (h : DataW.Trod enc Tryz.prog W base spare held 31 v d p) (hz : ∀ n ∈ d.weights Tryz.prog 31, n ≤ reachBytes) :
    ∃ (pa ia aa ra wa : Option Addr) (pc ic ac rc wac : Nat) (c : Cd) (A : List Vl) (F : Ft), v = .agg #[.slice pa c.p.length pc, .int .i64 c.sl, .slice ia c.l.length ic, .slice aa A.length ac, .bool F.all, .slice ra F.rd.length rc, .slice wa F.wr.length wac] ∧ RunIn W pa ia aa ra wa pc ic ac rc wac c A F := by
  obtain ⟨cs, rfl, hsz⟩ := okWide_struct Tryz.underlying31 hv
  obtain ⟨l⟩ := cs
  obtain ⟨fuel, hf⟩ := h
  obtain ⟨pa, ia, aa, ra, wa, pc, ic, ac, rc, wac, c, A, F, e, hr⟩ := trod_run (x := (d, p)) hf hz
  exact ⟨pa, ia, aa, ra, wa, pc, ic, ac, rc, wac, c, A, F, congrArg (fun l => Value.agg ⟨l⟩) e, hr⟩
set_option maxRecDepth 100000 in
theorem open_prs {r : Reach} {b0 : Nat} {v : Value} {d : DataW H} {p : List MemPlace} (hv : Value.okWide Tryz.prog W r b0 32 v) (h : DataW.Trod enc Tryz.prog W base spare held 32 v d p) (hz : ∀ n ∈ d.weights Tryz.prog 32, n ≤ reachBytes) :
    ∃ (sa : Option Addr) (sc : Nat) (M : List Pr), v = .slice sa M.length sc ∧ CellsAt W (.slice sa M.length sc) M.length (prLs M) ∧ M.length ≤ 2932031007402 ∧ ∀ x ∈ M, PrN x := by
  obtain ⟨a0, len0, cap0, rfl⟩ := okWide_slice Tryz.underlying32 hv
  obtain ⟨fuel, hf⟩ := h
  obtain ⟨a, c, M, e, h1, h2, h3⟩ := trod_prs (x := (d, p)) hf hz
  simp [Value.cells] at e
  obtain ⟨rfl, rfl, rfl⟩ := e
  exact ⟨_, _, M, rfl, h1, h2, h3⟩
end
theorem vargs_of {W : World} {pa ia aa sa ra wa : Option Addr} {pc ic ac sc rc wac : Nat} {c : Cd} {A : List Vl} {M : List Pr} {F : Ft} (h : RunIn W pa ia aa ra wa pc ic ac rc wac c A F) (hM : CellsAt W (.slice sa M.length sc) M.length (prLs M)) : VArgs W pa ia aa sa ra wa pc ic ac sc rc wac c A M F := ⟨h.cP, h.cI, h.cA, hM, h.cR, h.cW⟩
theorem vlim_of {W : World} {pa ia aa ra wa : Option Addr} {pc ic ac rc wac : Nat} {c : Cd} {A : List Vl} {M : List Pr} {F : Ft} (h : RunIn W pa ia aa ra wa pc ic ac rc wac c A F) (hM : M.length ≤ 2932031007402) (hn : ∀ x ∈ M, PrN x) : VLim c A M F := by
  have h1 := h.lP; have h2 := h.lA; have h3 := h.lR
  refine ⟨⟨by omega, by omega, by omega, by omega, by omega⟩, fun x hx => ?_, fun x hx => ?_, fun x hx => ?_, fun q hq => ?_, fun x hx => (h.nI x hx).1, fun x hx => (h.nA x hx).1, fun x hx => (hn x hx).2.1⟩
  · have := (h.nI x hx).2; omega
  · have := (h.nA x hx).2; omega
  · have := (hn x hx).1; have := (hn x hx).2.2; omega
  · rcases List.mem_append.1 hq with hq | hq
    · have := h.sR.1 q hq; omega
    · have := h.sR.2 q hq; omega
end Go.Proofs.YtnglaegofhpleaaGreatDoor
namespace Go.Proofs.YtnglaegofhpleaaGreatDoor
open Go.ChangeShapes Go.RowKit

theorem stepsLaw18 (pa ia aa ra wa : Option Addr) (pc ic ac rc wac : Nat) (c : Cd) (A : List Vl) (F : Ft) {W : World} (hr : RunIn W pa ia aa ra wa pc ic ac rc wac c A F) (sa : Option Addr) (sc : Nat) (M : List Pr) (hM : CellsAt W (.slice sa M.length sc) M.length (prLs M)) (hl : M.length ≤ 2932031007402) (hn : ∀ x ∈ M, PrN x) (most : Int) (wm : (Lit.int .u8 most).wf = true) (hLB : LaidB W) :
    Calls Tryz.prog 5 #[.agg #[.slice pa c.p.length pc, .int .i64 c.sl, .slice ia c.l.length ic, .slice aa A.length ac, .bool F.all, .slice ra F.rd.length rc, .slice wa F.wr.length wac], .slice sa M.length sc, .int .u8 most] W fun e w' => e = .returned (.bool true) ∧ Below W.heap.size W w' :=
  stepsWalk18 pa ia aa sa ra wa pc ic ac sc rc wac c A M F most wm (vargs_of hr hM) (vlim_of hr hl hn) hLB
end Go.Proofs.YtnglaegofhpleaaGreatDoor
