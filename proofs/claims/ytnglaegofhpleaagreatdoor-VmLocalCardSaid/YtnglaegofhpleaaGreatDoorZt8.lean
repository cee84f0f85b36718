/- What the claim needs of: VmYc, VmArgs, VmLawB. No conditions. -/
import Derived.Test.YtnglaegofhpleaaGreatDoorZt7
import Derived.Test.YtnglaegofhpleaaGreatDoorRows
import Derived.WalkKit
import Derived.WalkSpells
import Derived.WalkLawsBesides
import Derived.Lib.SlBytesRow
import Derived.Lib.Hide
import Derived.Lib.ParseIntBTie
import Derived.Lib.ItoaLen
import Derived.Shelf.Small.Strs
import Derived.Shelf.Small.Wraps
import Derived.Shelf.Strconv.Itoa0
import Derived.Shelf.Strconv.Itoa1
import Derived.Shelf.LaysM
import Derived.Shelf.Strconv.Itoa2
import Derived.Shelf.Strconv.Itoa3
import Derived.Shelf.Strconv.Itoa4
import Derived.Shelf.Strings.Fields
import Derived.Shelf.Slices.Turned
import Derived.Lib.SmallJoins
import Derived.Lib.AppendIntMem
import Derived.Deep.RegionHeld3
import Derived.Outline
import Derived.Deep.Cut
import Derived.Deep.CutRange
import Derived.Deep.DeepCutAuto
import Derived.Deep.RegionLaw
import Derived.Lib.Builder
import Derived.Lib.AppendStr
import Derived.Lib.UnsafeStr
import Derived.Laws.Externs
import Derived.Laws.AppendOwnNone
import Derived.Deep.DeepAppendWide
import Derived.Laws.RangeAny
import Derived.Lib.IndexLaws
import Derived.Lib.LaidTab
import Derived.Shelf.Spec.SlicesInsert
import Derived.Shelf.Spec.SlicesInsertGrow
import Derived.Shelf.Spec.SearchS
import Derived.OrdersIn
import Derived.TacticsIn
import Derived.BigQuiet
import Derived.Tactics
import Derived.Tactics2
import Derived.Defers
import Derived.Recover
import Derived.Laws.Pointers
import Derived.Deep.AppendLies
import Derived.Laws.CopyOwn
import Derived.Stop.LaidErr
import Derived.LaidMore
import Derived.Deep.Slices
import Derived.OpenShut
import Derived.ProofKit
import Derived.SizedLaws
import Derived.SliceStrings
import Derived.HandedShaped
import Derived.Shelf.Vars
namespace Go.Proofs.YtnglaegofhpleaaGreatDoor
open Go.RowKit

theorem Bx.c7 {b : Nat} {u0 u1 u2 u3 u4 u5 u6 : Value} {T : TypeId} {W : World} (h : Bx b #[u0, u1, u2, u3, u4, u5, u6] T W) : W.cell? ⟨b, 0, none⟩ = some u0 ∧ W.cell? ⟨b, 1, none⟩ = some u1 ∧ W.cell? ⟨b, 2, none⟩ = some u2 ∧ W.cell? ⟨b, 3, none⟩ = some u3 ∧ W.cell? ⟨b, 4, none⟩ = some u4 ∧ W.cell? ⟨b, 5, none⟩ = some u5 ∧ W.cell? ⟨b, 6, none⟩ = some u6 := ⟨h.cell 0, h.cell 1, h.cell 2, h.cell 3, h.cell 4, h.cell 5, h.cell 6⟩

set_option maxRecDepth 100000 in
set_option maxHeartbeats 32000000 in
theorem localWalk18 (pa ia aa sa ta ra wa : Option Addr) (pc ic ac sc tc rc wac : Nat) (c : Cd) (A : List Vl) (M U : List Pr) (F : Ft) {w : World} (hA : VArgs w pa ia aa sa ra wa pc ic ac sc rc wac c A M F) (hU : CellsAt w (.slice ta U.length tc) U.length (prLs U)) (hl : VLim c A M F) (hl2 : VLim c A U F) (hU2 : U.length ≤ 2932031007402) (hLB : LaidB w) :
    Calls Tryz.prog 6 #[.agg #[.slice pa c.p.length pc, .int .i64 c.sl, .slice ia c.l.length ic, .slice aa A.length ac, .bool F.all, .slice ra F.rd.length rc, .slice wa F.wr.length wac], .slice sa M.length sc, .slice ta U.length tc] w fun e w' => e = .returned (.bool true) ∧ Below w.heap.size w w' := by
  obtain ⟨E, hE⟩ : ∃ t, runS c A M F = t := ⟨_, rfl⟩
  have hES : EfS E := by rw [← hE]; exact runS_size c A M F
  obtain ⟨hk1, hk2, hk3, hk4⟩ : SortK E.rds ∧ (∀ k ∈ E.rds, keyB k = true ∧ (F.all = true ∨ F.rd.contains k = true)) ∧ (∀ k ∈ E.puts, F.all = true ∨ F.wr.contains k = true) ∧ E.rds.length ≤ 17000000 := by rw [← hE]; exact runS_kp c A M F
  have hp4 : E.puts.length ≤ 1000000000000 := hES.2.2.1
  have HE := Lib.hid hE; have HES := Lib.hid hES; have HK1 := Lib.hid hk1; have HK2 := Lib.hid hk2; have HK3 := Lib.hid hk3; have HA := Lib.hid hA; have HU := Lib.hid hU; have HL := Lib.hid hl; have HL2 := Lib.hid hl2; have HLB := Lib.hid hLB; clear hE hES hk1 hk2 hk3 hA hU hl hl2 hLB
  obtain ⟨v0, hW0, hb0, hx0⟩ := boxes1 w #[.slice pa c.p.length pc, .int .i64 c.sl, .slice ia c.l.length ic, .slice aa A.length ac, .bool F.all, .slice ra F.rd.length rc, .slice wa F.wr.length wac] 31
  have HW := Lib.hid hW0; have HB := Lib.hid hb0; have HR := Lib.hid hx0; clear hW0 hb0 hx0
  have HA := Lib.hid (HA.out.below HB.out); have HU := Lib.hid (HU.out.below HB.out); have HLB := Lib.hid (HLB.out.below HB.out)
  go_enter Tryz.func6, Tryz.ntmps6
  go_upto_region 1 with (fail)
  rw [HW.out]
  clear HW
  obtain ⟨z0, z1, z2, z3, z4, z5, z6⟩ := HR.out.c7
  go_wp2_with fail
  refine (Run_any pa ia aa sa ra wa pc ic ac sc rc wac c A M F v0 HA.out HL.out HLB.out).mono ?_
  rw [HE.out]
  rintro er w1 ⟨ev, rfl, hin, hb1⟩
  obtain ⟨oa, oc, ho, -⟩ := id hin.o
  obtain ⟨ea, ec, hr⟩ := hin.r.len2
  obtain ⟨ua, uc, hp⟩ := hin.p.len2
  obtain ⟨xa, xc, hw, -⟩ := id hin.w
  obtain ⟨eo, erv, ep, ew⟩ := ev
  simp only at ho hr hp hw
  subst ho hr hp hw
  simp only [efV]
  have HIN1 := Lib.hid hin; clear hin z0 z1 z2 z3 z4 z5 z6
  have HB := Lib.hid (btrans HB.out HB.out.size hb1); have HR := Lib.hid (HR.out.call hb1); have HA := Lib.hid (HA.out.below hb1); have HU := Lib.hid (HU.out.below hb1); have HLB := Lib.hid (HLB.out.below hb1)
  clear hb1
  have hbs := (Below.refl w1.heap.size w1).alloc (Nat.le_refl _) (.cells #[.int .i64 E.st, .int .i64 E.code, .slice oa E.out.length oc, .slice ea E.rds.length ec, .slice ua E.puts.length uc, .slice xa E.wrs.length xc, .string (bs E.miss), .int .i64 E.steps] 37)
  have HX := Lib.hid (Bx.new w1 #[.int .i64 E.st, .int .i64 E.code, .slice oa E.out.length oc, .slice ea E.rds.length ec, .slice ua E.puts.length uc, .slice xa E.wrs.length xc, .string (bs E.miss), .int .i64 E.steps] 37)
  go_upto_region 2 with (fail)
  generalize hW : w1.alloc (.cells #[.int .i64 E.st, .int .i64 E.code, .slice oa E.out.length oc, .slice ea E.rds.length ec, .slice ua E.puts.length uc, .slice xa E.wrs.length xc, .string (bs E.miss), .int .i64 E.steps] 37) = v1 at HX hbs ⊢
  clear hW
  have HB := Lib.hid (btrans HB.out HB.out.size hbs); have HR := Lib.hid (HR.out.call hbs); have HA := Lib.hid (HA.out.below hbs); have HU := Lib.hid (HU.out.below hbs); have HLB := Lib.hid (HLB.out.below hbs)
  have HIN := Lib.hid (HIN1.out.below hbs)
  clear hbs HIN1
  obtain ⟨xb, hxb⟩ : ∃ n, w1.heap.size = n := ⟨_, rfl⟩
  rw [hxb] at HX
  (try rw [hxb])
  clear hxb
  obtain ⟨z0, z1, z2, z3, z4, z5, z6⟩ := HR.out.c7
  go_wp2_with fail
  refine (Validate_any pa ia pc ic c.p c.sl c.l _ HA.out.P HA.out.I HL.out.len.1 HL.out.sl HLB.out).mono ?_
  have he : (⟨c.p, c.sl, c.l⟩ : Cd) = c := rfl
  rw [he]
  clear he
  rintro er w2 ⟨rfl, hb2⟩
  have HB := Lib.hid (btrans HB.out HB.out.size hb2); have HR := Lib.hid (HR.out.call hb2); have HA := Lib.hid (HA.out.below hb2); have HU := Lib.hid (HU.out.below hb2); have HLB := Lib.hid (HLB.out.below hb2)
  have HX := Lib.hid (HX.out.call hb2); have HIN := Lib.hid (HIN.out.below hb2); clear hb2
  by_cases hv : valC c = 0
  rotate_left
  · have tv : (valC c != 0) = true := by rw [bne_iff_ne]; exact hv
    have te : (valC c == 0) = false := by rw [beq_eq_false_iff_ne]; exact hv
    have hEab : E = abE := HE.out.symm.trans (runS_bad (.inl hv))
    clear hv
    clear z0 z1 z2 z3 z4 z5 z6
    obtain ⟨z0, z1, z2, z3, z4, z5, z6⟩ := HR.out.c7
    go_wp2_with fail
    refine (Validate_any pa ia pc ic c.p c.sl c.l _ HA.out.P HA.out.I HL.out.len.1 HL.out.sl HLB.out).mono ?_
    have he : (⟨c.p, c.sl, c.l⟩ : Cd) = c := rfl
    rw [he]
    clear he
    rintro er w3 ⟨rfl, hb3⟩
    have HB := Lib.hid (btrans HB.out HB.out.size hb3); have HR := Lib.hid (HR.out.call hb3); have HA := Lib.hid (HA.out.below hb3); have HU := Lib.hid (HU.out.below hb3); have HLB := Lib.hid (HLB.out.below hb3)
    have HX := Lib.hid (HX.out.call hb3); have HIN := Lib.hid (HIN.out.below hb3); clear hb3
    subst hEab
    obtain ⟨y0, y1, y2, y3, y4, y5, y6, y7⟩ := HX.out.c8
    go_wp2_with fail
    refine (RSame_any abE abE ⟨.slice oa abE.out.length oc, .slice ea abE.rds.length ec, .slice ua abE.puts.length uc, .slice xa abE.wrs.length xc⟩ ⟨.slice none 0 0, .slice none 0 0, .slice none 0 0, .slice none 0 0⟩ _ HIN.out ⟨⟨none, 0, rfl, fun h => absurd rfl h⟩, strS_nil _ 0, strS_nil _ 0, ⟨none, 0, rfl, fun h => absurd rfl h⟩⟩ HES.out HES.out).mono ?_
    rw [decide_eq_true rfl]
    rintro er w4 ⟨rfl, hb4⟩
    have HB := Lib.hid (btrans HB.out HB.out.size hb4); have HR := Lib.hid (HR.out.call hb4); have HA := Lib.hid (HA.out.below hb4); have HU := Lib.hid (HU.out.below hb4); have HLB := Lib.hid (HLB.out.below hb4)
    have HX := Lib.hid (HX.out.call hb4); have HIN := Lib.hid (HIN.out.below hb4); clear hb4
    clear y0 y1 y2 y3 y4 y5 y6 y7
    go_wp2_with fail
    refine (lives18 _ HLB.out).mono ?_
    rintro er w5 ⟨rfl, hb5⟩
    have HB := Lib.hid (btrans HB.out HB.out.size hb5)
    go_wp2
    go_ret
    exact ⟨rfl, HB.out⟩
  have tv : (valC c != 0) = false := by rw [hv]; rfl
  have te : (valC c == 0) = true := by rw [hv]; rfl
  clear hv
  obtain ⟨sm, hsm⟩ : ∃ b, stB M = b := ⟨_, rfl⟩
  obtain ⟨su, hsu⟩ : ∃ b, stB U = b := ⟨_, rfl⟩
  have HSM := Lib.hid hsm; have HSU := Lib.hid hsu; clear hsm hsu
  go_wp2_with fail
  refine (RSV06_any sa sc M _ (by exact HL.out.len.2.2.1) HL.out.sM HA.out.M).mono ?_
  rw [HSM.out]
  rintro er w3 ⟨rfl, hb3⟩
  have HB := Lib.hid (btrans HB.out HB.out.size hb3); have HR := Lib.hid (HR.out.call hb3); have HA := Lib.hid (HA.out.below hb3); have HU := Lib.hid (HU.out.below hb3); have HLB := Lib.hid (HLB.out.below hb3)
  have HX := Lib.hid (HX.out.call hb3); have HIN := Lib.hid (HIN.out.below hb3); clear hb3
  cases sm with
  | false =>
    have hEab : E = abE := HE.out.symm.trans (runS_bad (.inr HSM.out))
    clear z0 z1 z2 z3 z4 z5 z6
    obtain ⟨z0, z1, z2, z3, z4, z5, z6⟩ := HR.out.c7
    go_wp2_with fail
    refine (Validate_any pa ia pc ic c.p c.sl c.l _ HA.out.P HA.out.I HL.out.len.1 HL.out.sl HLB.out).mono ?_
    have he : (⟨c.p, c.sl, c.l⟩ : Cd) = c := rfl
    rw [he]
    clear he
    rintro er w4 ⟨rfl, hb4⟩
    have HB := Lib.hid (btrans HB.out HB.out.size hb4); have HR := Lib.hid (HR.out.call hb4); have HA := Lib.hid (HA.out.below hb4); have HU := Lib.hid (HU.out.below hb4); have HLB := Lib.hid (HLB.out.below hb4)
    have HX := Lib.hid (HX.out.call hb4); have HIN := Lib.hid (HIN.out.below hb4); clear hb4
    go_wp2_with fail
    refine (RSV06_any sa sc M _ (by exact HL.out.len.2.2.1) HL.out.sM HA.out.M).mono ?_
    rw [HSM.out]
    rintro er w5 ⟨rfl, hb5⟩
    have HB := Lib.hid (btrans HB.out HB.out.size hb5); have HR := Lib.hid (HR.out.call hb5); have HA := Lib.hid (HA.out.below hb5); have HU := Lib.hid (HU.out.below hb5); have HLB := Lib.hid (HLB.out.below hb5)
    have HX := Lib.hid (HX.out.call hb5); have HIN := Lib.hid (HIN.out.below hb5); clear hb5
    subst hEab
    obtain ⟨y0, y1, y2, y3, y4, y5, y6, y7⟩ := HX.out.c8
    go_wp2_with fail
    refine (RSame_any abE abE ⟨.slice oa abE.out.length oc, .slice ea abE.rds.length ec, .slice ua abE.puts.length uc, .slice xa abE.wrs.length xc⟩ ⟨.slice none 0 0, .slice none 0 0, .slice none 0 0, .slice none 0 0⟩ _ HIN.out ⟨⟨none, 0, rfl, fun h => absurd rfl h⟩, strS_nil _ 0, strS_nil _ 0, ⟨none, 0, rfl, fun h => absurd rfl h⟩⟩ HES.out HES.out).mono ?_
    rw [decide_eq_true rfl]
    rintro er w6 ⟨rfl, hb6⟩
    have HB := Lib.hid (btrans HB.out HB.out.size hb6); have HR := Lib.hid (HR.out.call hb6); have HA := Lib.hid (HA.out.below hb6); have HU := Lib.hid (HU.out.below hb6); have HLB := Lib.hid (HLB.out.below hb6)
    have HX := Lib.hid (HX.out.call hb6); have HIN := Lib.hid (HIN.out.below hb6); clear hb6
    clear y0 y1 y2 y3 y4 y5 y6 y7
    go_wp2_with fail
    refine (lives18 _ HLB.out).mono ?_
    rintro er w7 ⟨rfl, hb7⟩
    have HB := Lib.hid (btrans HB.out HB.out.size hb7)
    go_wp2
    go_ret
    exact ⟨rfl, HB.out⟩
  | true =>
    go_wp2_with fail
    refine (RSV06_any ta tc U _ (by omega) HL2.out.sM HU.out).mono ?_
    rw [HSU.out]
    rintro er w4 ⟨rfl, hb4⟩
    have HB := Lib.hid (btrans HB.out HB.out.size hb4); have HR := Lib.hid (HR.out.call hb4); have HA := Lib.hid (HA.out.below hb4); have HU := Lib.hid (HU.out.below hb4); have HLB := Lib.hid (HLB.out.below hb4)
    have HX := Lib.hid (HX.out.call hb4); have HIN := Lib.hid (HIN.out.below hb4); clear hb4
    cases su with
    | false =>
      clear z0 z1 z2 z3 z4 z5 z6
      obtain ⟨z0, z1, z2, z3, z4, z5, z6⟩ := HR.out.c7
      go_wp2_with fail
      refine (Validate_any pa ia pc ic c.p c.sl c.l _ HA.out.P HA.out.I HL.out.len.1 HL.out.sl HLB.out).mono ?_
      have he : (⟨c.p, c.sl, c.l⟩ : Cd) = c := rfl
      rw [he]
      clear he
      rintro er w5 ⟨rfl, hb5⟩
      have HB := Lib.hid (btrans HB.out HB.out.size hb5); have HR := Lib.hid (HR.out.call hb5); have HA := Lib.hid (HA.out.below hb5); have HU := Lib.hid (HU.out.below hb5); have HLB := Lib.hid (HLB.out.below hb5)
      have HX := Lib.hid (HX.out.call hb5); have HIN := Lib.hid (HIN.out.below hb5); clear hb5
      go_wp2_with fail
      refine (RSV06_any sa sc M _ (by exact HL.out.len.2.2.1) HL.out.sM HA.out.M).mono ?_
      rw [HSM.out]
      rintro er w6 ⟨rfl, hb6⟩
      have HB := Lib.hid (btrans HB.out HB.out.size hb6); have HR := Lib.hid (HR.out.call hb6); have HA := Lib.hid (HA.out.below hb6); have HU := Lib.hid (HU.out.below hb6); have HLB := Lib.hid (HLB.out.below hb6)
      have HX := Lib.hid (HX.out.call hb6); have HIN := Lib.hid (HIN.out.below hb6); clear hb6
      go_wp2_with fail
      refine (lives18 _ HLB.out).mono ?_
      rintro er w7 ⟨rfl, hb7⟩
      have HB := Lib.hid (btrans HB.out HB.out.size hb7)
      go_wp2
      go_ret
      exact ⟨rfl, HB.out⟩
    | true =>
      clear tv te
      clear z0 z1 z2 z3 z4 z5 z6
      go_wp2
      go_loopw [8, 9] (fun v i wr => ∃ k : Nat, k ≤ E.rds.length ∧ i = .int .i64 k ∧ Hid (wr.ownsRow w4.heap.size 55 4 v (sameP M (E.rds.take k)).length (prLs (sameP M (E.rds.take k)))) ∧ Below w4.heap.size w4 wr) (fun _ i _ => E.rds.length - (intOf i).toNat)
      case atStart => exact ⟨0, Nat.zero_le _, by first | exact True.intro | rfl, Lib.hid (own_nil _ _ _ _), Below.refl _ _⟩
      case round =>
        obtain ⟨k, hk, rfl, HO, hG⟩ := hrel
        have HG := Lib.hid hG; clear hG
        have hx3 : wr.cell? ⟨xb, 3, none⟩ = some (.slice ea E.rds.length ec) := (HX.out.call HG.out).cell 3
        by_cases hlt : k < E.rds.length
        · skip
          have hlt' : (k : Int) < (E.rds.length : Int) := by omega
          have hkb : (0 : Int) ≤ (k : Int) ∧ (k : Int) < (E.rds.length : Int) := ⟨by omega, by omega⟩
          have hk0 : (0 : Int) ≤ (k : Int) := by omega
          have hw1 : IntKind.i64.wrap ((k : Int) + 1) = (k : Int) + 1 := by rw [IntKind.wrap_i64]; omega
          obtain ⟨bb, off, hbe, p0⟩ := str_cell HIN.out.r hlt
          have HBE := Lib.hid hbe; clear hbe
          obtain ⟨x, hx⟩ : ∃ x, E.rds[k] = x := ⟨_, rfl⟩
          rw [hx] at p0
          have HP0 := Lib.hid p0; have HXK := Lib.hid hx; clear p0 hx
          have hkx := HK2.out x (HXK.out ▸ List.getElem_mem hlt)
          have HKX := Lib.hid hkx; clear hkx
          go_upto_region 8 with (fail)
          clear hx3
          have HS0 := Lib.hid (show Below w4.heap.size w4 wr.drew from HG.out.trans (Below.refl _ _).drew)
          have hea : ea = some ⟨bb, off, none⟩ := HBE.out
          subst hea
          have hor := Bool.eq_false_or_eq_true F.all
          rcases hor with hal | hal
          · skip
            have HRl := Lib.hid (show Bx w.heap.size #[.slice pa c.p.length pc, .int .i64 c.sl, .slice ia c.l.length ic, .slice aa A.length ac, .bool true, .slice ra F.rd.length rc, .slice wa F.wr.length wac] 31 w4 from by have h := HR.out; rw [hal] at h; exact h)
            clear hal
            refine wp_region_held_drew (S := (fun w' => Below w4.heap.size w4 w')) (by kernel_rfl) ?_ (fun hHeld => ?_)
            · exact HS0.out
            refine tkX (i := 0) 59 ?_
            simp only [sA, sB, sC]
            refine tkX (i := 1) 60 ?_
            simp only [sA, sB, sC]
            refine tkY (i := 2) (v := ?vv3) 61 ?yy3 ?_
            case yy3 =>
              intro wq hSw
              obtain ⟨z0, z1, z2, z3, z4, z5, z6⟩ := (HRl.out.call hSw).c7
              clear hSw
              go_simp
              (try with_reducible rfl)
            simp only [sA, sB, sC]
            refine tkX (i := 3) 62 ?_
            simp only [sA, sB, sC]
            refine tkX (i := 4) 63 ?_
            simp only [sA, sB, sC]
            refine tkZ (i := 5) 64 ?_
            simp only [sA, sB, sC]
            refine tkZ (i := 6) 65 ?_
            simp only [sA, sB, sC]
            refine tkZ (i := 7) 66 ?_
            simp only [sA, sB, sC]
            refine tkZ (i := 8) 67 ?_
            simp only [sA, sB, sC]
            refine tkZ (i := 9) 68 ?_
            simp only [sA, sB, sC]
            refine tkZ (i := 10) 69 ?_
            simp only [sA, sB, sC]
            refine tkZ (i := 11) 70 ?_
            simp only [sA, sB, sC]
            refine tkZ (i := 12) 71 ?_
            simp only [sA, sB, sC]
            refine tkZ (i := 13) 72 ?_
            simp only [sA, sB, sC]
            refine tkZ (i := 14) 73 ?_
            simp only [sA, sB, sC]
            refine tkX (i := 15) 74 ?_
            simp only [sA, sB, sC]
            refine wpAnyH_done (by kernel_rfl) ?_ _
            clear hHeld HRl
            have HG := Lib.hid (HG.out.trans (Below.refl _ _).drew)
            have HO := Lib.hid (own_below HO.out (Below.refl _ _).drew)
            generalize hWd : wr.drew = u0 at HS0 HG HO ⊢
            clear hWd HS0
            obtain ⟨va, vc, hvv⟩ := own_sl HO.out
            subst hvv
            go_upto_region 10 with (fail)
            have HO := Lib.hid (own_below HO.out (Below.refl _ _).drew)
            have HS0 := Lib.hid (show Below w4.heap.size w4 u0.drew from HG.out.trans (Below.refl _ _).drew)
            obtain ⟨gv, hgv⟩ : ∃ gg, getP M x = gg := ⟨_, rfl⟩
            have HGV := Lib.hid hgv; clear hgv
            refine wp_region_held_drew (S := (fun w' => Below w4.heap.size w4 w')) (by kernel_rfl) ?_ (fun hHeld => ?_)
            · exact HS0.out
            refine tkX (i := 0) 75 ?_
            simp only [sA, sB, sC]
            refine tkX (i := 1) 76 ?_
            simp only [sA, sB, sC]
            refine tkY (i := 2) (v := ?vv9) 77 ?yy9 ?_
            case yy9 =>
              intro wq hSw
              obtain ⟨y0, y1, y2, y3, y4, y5, y6, y7⟩ := (HX.out.call hSw).c8
              clear hSw
              go_simp
              (try with_reducible rfl)
            simp only [sA, sB, sC]
            refine tkX (i := 3) 78 ?_
            simp only [sA, sB, sC]
            refine tkX (i := 4) 79 ?_
            simp only [sA, sB, sC]
            refine tkY (i := 5) (v := ?vv12) 80 ?yy12 ?_
            case yy12 =>
              intro wq hSw
              have z0 := cell1_below HP0.out hSw
              clear hSw
              go_simp
              (try with_reducible rfl)
            simp only [sA, sB, sC]
            refine tkX (i := 6) 81 ?_
            simp only [sA, sB, sC]
            refine tkX (i := 7) 82 ?_
            simp only [sA, sB, sC]
            refine tkY (i := 8) (v := ?vv15) 83 ?yy15 ?_
            case yy15 =>
              intro wq hSw
              obtain ⟨y0, y1, y2, y3, y4, y5, y6, y7⟩ := (HX.out.call hSw).c8
              clear hSw
              go_simp
              (try with_reducible rfl)
            simp only [sA, sB, sC]
            refine tkX (i := 9) 84 ?_
            simp only [sA, sB, sC]
            refine tkX (i := 10) 85 ?_
            simp only [sA, sB, sC]
            refine tkY (i := 11) (v := ?vv18) 86 ?yy18 ?_
            case yy18 =>
              intro wq hSw
              have z0 := cell1_below HP0.out hSw
              clear hSw
              go_simp
              (try with_reducible rfl)
            simp only [sA, sB, sC]
            refine wpAnyH_ready (rs := [12]) (by kernel_rfl) (by simp) ?_
            refine (AllReadyH.cons rfl (fun K hK => ?_) AllReadyH.nil)
            go_simp
            (refine (RSGet_any sa sc M x _ HL.out.len.2.2.1 (HA.out.M.below HS0.out)).mono ?_; rw [HGV.out]; simp only [vV]; rintro er u1 ⟨rfl, hb1⟩; have HO := Lib.hid (own_below HO.out hb1); have HS1 := Lib.hid (btrans HS0.out HS0.out.size hb1))
            focus (try go_wp2_with fail)
            refine hK.out _ _ ?_ (fun hHeld => ?_)
            · exact HS1.out
            clear hK K
            (try simp only [Act.put, sA, sB, sC])
            clear hHeld hb1
            refine tkX (i := 13) 88 ?_
            simp only [sA, sB, sC]
            have hal := (Below.refl u1.heap.size u1).alloc (Nat.le_refl _) (.cells #[.string (bs x), .int .i64 gv.k, .int .i64 gv.n, .string (bs gv.s)] 55)
            have HNW := Lib.hid (Bx.new u1 #[.string (bs x), .int .i64 gv.k, .int .i64 gv.n, .string (bs gv.s)] 55)
            have HO := Lib.hid (own_below HO.out hal); have HS2 := Lib.hid (btrans HS1.out HS1.out.size hal); clear hal
            refine wpAnyH_ready (rs := [14]) (by kernel_rfl) (by simp) ?_
            refine (AllReadyH.cons rfl (fun K hK => ?_) AllReadyH.nil)
            go_simp
            skip
            focus (try go_wp2_with fail)
            refine hK.out _ _ ?_ (fun hHeld => ?_)
            · exact HS2.out
            clear hK K
            (try simp only [Act.put, sA, sB, sC])
            clear hHeld
            generalize hW : u1.alloc (.cells #[.string (bs x), .int .i64 gv.k, .int .i64 gv.n, .string (bs gv.s)] 55) = u2 at HNW HO HS2 ⊢
            clear hW
            obtain ⟨nb, hnb⟩ : ∃ n, u1.heap.size = n := ⟨_, rfl⟩
            rw [hnb] at HNW
            (try rw [hnb])
            clear hnb
            obtain ⟨i0, hi, hz0, hz1, hz2⟩ := info_parts infoPr
            have hone : ∀ y ∈ prL ⟨x, gv⟩, y.oneCell' = true := by intro y hy; simp only [prL, List.mem_cons, List.not_mem_nil, or_false] at hy; rcases hy with rfl | rfl | rfl | rfl <;> rfl
            have hsl : (sameP M (E.rds.take k)).length = k := by unfold sameP; rw [List.length_map, List.length_take]; omega
            have hoA := HO.out
            rw [hsl] at hoA
            simp only [hsl]
            refine wpAnyH_ready (rs := [15]) (by kernel_rfl) (by simp) ?_
            refine (AllReadyH.cons rfl (fun K hK => ?_) AllReadyH.nil)
            refine step_append_wide u2 (by rfl) _ _ 32 (by rfl) w4.heap.size 55 i0 (.agg #[.string ⟨#[]⟩, .int .i64 0, .int .i64 0, .string ⟨#[]⟩]) 4 48 Tryz.underlying32 hi hz0 hz1 hz2 rfl (by decide) (.slice va k vc) k (prLs (sameP M (E.rds.take k))) (by rfl) hoA ⟨nb, 0, none⟩ 1 1 (prL ⟨x, gv⟩) (by rfl) rfl (World.news_of_block HNW.out) hone (by decide) (by unfold maxLen; omega) (by omega) HS2.out.size ?_
            intro g5 c5 w5 hown5 hgrow
            have hnx : (sameP M (E.rds.take (k + 1))) = sameP M (E.rds.take k) ++ [⟨x, gv⟩] := by unfold sameP; rw [List.take_succ_eq_append_getElem hlt, HXK.out, List.map_append]; simp [HGV.out]
            have HO5 := Lib.hid (show w5.ownsRow w4.heap.size 55 4 (.slice (some ⟨g5, 0, none⟩) (k + 1) c5) (sameP M (E.rds.take (k + 1))).length (prLs (sameP M (E.rds.take (k + 1)))) from by rw [hnx, List.length_append, hsl, prLs_snoc]; exact hown5)
            have HS5 := Lib.hid (HS2.out.grown hgrow HS2.out.size (fun g hg => (hoA.lt g hg).1))
            clear hown5 hgrow hnx
            refine hK.out _ _ ?_ (fun hHeld => ?_)
            · exact HS5.out
            clear hK K hHeld
            simp only [Act.put, List.setIfInBounds_toArray]
            refine tkX (i := 16) 8 ?_
            simp only [sA, sB, sC]
            refine wpAnyH_done (by kernel_rfl) ?_ _
            skip
            go_wp2
            go_roundw
            case rel => exact ⟨k + 1, by omega, by go_num, HO5, HS5.out⟩
            case measure => simp [intOf]; omega
          · skip
            have HRl := Lib.hid (show Bx w.heap.size #[.slice pa c.p.length pc, .int .i64 c.sl, .slice ia c.l.length ic, .slice aa A.length ac, .bool false, .slice ra F.rd.length rc, .slice wa F.wr.length wac] 31 w4 from by have h := HR.out; rw [hal] at h; exact h)
            have hhas := (HKX.out.2).resolve_left (by rw [hal]; simp)
            have HHAS := Lib.hid hhas; clear hhas
            clear hal
            refine wp_region_held_drew (S := (fun w' => Below w4.heap.size w4 w')) (by kernel_rfl) ?_ (fun hHeld => ?_)
            · exact HS0.out
            refine tkX (i := 0) 59 ?_
            simp only [sA, sB, sC]
            refine tkX (i := 1) 60 ?_
            simp only [sA, sB, sC]
            refine tkY (i := 2) (v := ?vv23) 61 ?yy23 ?_
            case yy23 =>
              intro wq hSw
              obtain ⟨z0, z1, z2, z3, z4, z5, z6⟩ := (HRl.out.call hSw).c7
              clear hSw
              go_simp
              (try with_reducible rfl)
            simp only [sA, sB, sC]
            refine tkX (i := 3) 62 ?_
            simp only [sA, sB, sC]
            refine tkX (i := 4) 63 ?_
            simp only [sA, sB, sC]
            refine tkX (i := 5) 64 ?_
            simp only [sA, sB, sC]
            refine tkX (i := 6) 65 ?_
            simp only [sA, sB, sC]
            refine tkY (i := 7) (v := ?vv28) 66 ?yy28 ?_
            case yy28 =>
              intro wq hSw
              obtain ⟨z0, z1, z2, z3, z4, z5, z6⟩ := (HRl.out.call hSw).c7
              clear hSw
              go_simp
              (try with_reducible rfl)
            simp only [sA, sB, sC]
            refine tkX (i := 8) 67 ?_
            simp only [sA, sB, sC]
            refine tkY (i := 9) (v := ?vv30) 68 ?yy30 ?_
            case yy30 =>
              intro wq hSw
              obtain ⟨y0, y1, y2, y3, y4, y5, y6, y7⟩ := (HX.out.call hSw).c8
              clear hSw
              go_simp
              (try with_reducible rfl)
            simp only [sA, sB, sC]
            refine tkX (i := 10) 69 ?_
            simp only [sA, sB, sC]
            refine tkX (i := 11) 70 ?_
            simp only [sA, sB, sC]
            refine tkY (i := 12) (v := ?vv33) 71 ?yy33 ?_
            case yy33 =>
              intro wq hSw
              have z0 := cell1_below HP0.out hSw
              clear hSw
              go_simp
              (try with_reducible rfl)
            simp only [sA, sB, sC]
            refine wpAnyH_ready (rs := [13]) (by kernel_rfl) (by simp) ?_
            refine (AllReadyH.cons rfl (fun K hK => ?_) AllReadyH.nil)
            have hrs : StrS wr.drew (.slice ra F.rd.length rc) F.rd := (HA.out.R.below HS0.out)
            go_simp
            (refine (RHas15_any _ F.rd x _ HL.out.len.2.2.2.1 hrs).mono ?_; rw [HHAS.out]; rintro er u1 ⟨rfl, rfl⟩)
            focus (try go_wp2_with fail)
            refine hK.out _ _ ?_ (fun hHeld => ?_)
            · exact hHeld
            clear hK K
            (try simp only [Act.put, sA, sB, sC])
            clear hrs
            refine tkX (i := 14) 73 ?_
            simp only [sA, sB, sC]
            refine tkX (i := 15) 74 ?_
            simp only [sA, sB, sC]
            refine wpAnyH_done (by kernel_rfl) ?_ _
            clear hHeld HRl
            have HG := Lib.hid (HG.out.trans (Below.refl _ _).drew)
            have HO := Lib.hid (own_below HO.out (Below.refl _ _).drew)
            generalize hWd : wr.drew = u0 at HS0 HG HO ⊢
            clear hWd HS0
            obtain ⟨va, vc, hvv⟩ := own_sl HO.out
            subst hvv
            go_upto_region 10 with (fail)
            have HO := Lib.hid (own_below HO.out (Below.refl _ _).drew)
            have HS0 := Lib.hid (show Below w4.heap.size w4 u0.drew from HG.out.trans (Below.refl _ _).drew)
            obtain ⟨gv, hgv⟩ : ∃ gg, getP M x = gg := ⟨_, rfl⟩
            have HGV := Lib.hid hgv; clear hgv
            refine wp_region_held_drew (S := (fun w' => Below w4.heap.size w4 w')) (by kernel_rfl) ?_ (fun hHeld => ?_)
            · exact HS0.out
            refine tkX (i := 0) 75 ?_
            simp only [sA, sB, sC]
            refine tkX (i := 1) 76 ?_
            simp only [sA, sB, sC]
            refine tkY (i := 2) (v := ?vv38) 77 ?yy38 ?_
            case yy38 =>
              intro wq hSw
              obtain ⟨y0, y1, y2, y3, y4, y5, y6, y7⟩ := (HX.out.call hSw).c8
              clear hSw
              go_simp
              (try with_reducible rfl)
            simp only [sA, sB, sC]
            refine tkX (i := 3) 78 ?_
            simp only [sA, sB, sC]
            refine tkX (i := 4) 79 ?_
            simp only [sA, sB, sC]
            refine tkY (i := 5) (v := ?vv41) 80 ?yy41 ?_
            case yy41 =>
              intro wq hSw
              have z0 := cell1_below HP0.out hSw
              clear hSw
              go_simp
              (try with_reducible rfl)
            simp only [sA, sB, sC]
            refine tkX (i := 6) 81 ?_
            simp only [sA, sB, sC]
            refine tkX (i := 7) 82 ?_
            simp only [sA, sB, sC]
            refine tkY (i := 8) (v := ?vv44) 83 ?yy44 ?_
            case yy44 =>
              intro wq hSw
              obtain ⟨y0, y1, y2, y3, y4, y5, y6, y7⟩ := (HX.out.call hSw).c8
              clear hSw
              go_simp
              (try with_reducible rfl)
            simp only [sA, sB, sC]
            refine tkX (i := 9) 84 ?_
            simp only [sA, sB, sC]
            refine tkX (i := 10) 85 ?_
            simp only [sA, sB, sC]
            refine tkY (i := 11) (v := ?vv47) 86 ?yy47 ?_
            case yy47 =>
              intro wq hSw
              have z0 := cell1_below HP0.out hSw
              clear hSw
              go_simp
              (try with_reducible rfl)
            simp only [sA, sB, sC]
            refine wpAnyH_ready (rs := [12]) (by kernel_rfl) (by simp) ?_
            refine (AllReadyH.cons rfl (fun K hK => ?_) AllReadyH.nil)
            go_simp
            (refine (RSGet_any sa sc M x _ HL.out.len.2.2.1 (HA.out.M.below HS0.out)).mono ?_; rw [HGV.out]; simp only [vV]; rintro er u1 ⟨rfl, hb1⟩; have HO := Lib.hid (own_below HO.out hb1); have HS1 := Lib.hid (btrans HS0.out HS0.out.size hb1))
            focus (try go_wp2_with fail)
            refine hK.out _ _ ?_ (fun hHeld => ?_)
            · exact HS1.out
            clear hK K
            (try simp only [Act.put, sA, sB, sC])
            clear hHeld hb1
            refine tkX (i := 13) 88 ?_
            simp only [sA, sB, sC]
            have hal := (Below.refl u1.heap.size u1).alloc (Nat.le_refl _) (.cells #[.string (bs x), .int .i64 gv.k, .int .i64 gv.n, .string (bs gv.s)] 55)
            have HNW := Lib.hid (Bx.new u1 #[.string (bs x), .int .i64 gv.k, .int .i64 gv.n, .string (bs gv.s)] 55)
            have HO := Lib.hid (own_below HO.out hal); have HS2 := Lib.hid (btrans HS1.out HS1.out.size hal); clear hal
            refine wpAnyH_ready (rs := [14]) (by kernel_rfl) (by simp) ?_
            refine (AllReadyH.cons rfl (fun K hK => ?_) AllReadyH.nil)
            go_simp
            skip
            focus (try go_wp2_with fail)
            refine hK.out _ _ ?_ (fun hHeld => ?_)
            · exact HS2.out
            clear hK K
            (try simp only [Act.put, sA, sB, sC])
            clear hHeld
            generalize hW : u1.alloc (.cells #[.string (bs x), .int .i64 gv.k, .int .i64 gv.n, .string (bs gv.s)] 55) = u2 at HNW HO HS2 ⊢
            clear hW
            obtain ⟨nb, hnb⟩ : ∃ n, u1.heap.size = n := ⟨_, rfl⟩
            rw [hnb] at HNW
            (try rw [hnb])
            clear hnb
            obtain ⟨i0, hi, hz0, hz1, hz2⟩ := info_parts infoPr
            have hone : ∀ y ∈ prL ⟨x, gv⟩, y.oneCell' = true := by intro y hy; simp only [prL, List.mem_cons, List.not_mem_nil, or_false] at hy; rcases hy with rfl | rfl | rfl | rfl <;> rfl
            have hsl : (sameP M (E.rds.take k)).length = k := by unfold sameP; rw [List.length_map, List.length_take]; omega
            have hoA := HO.out
            rw [hsl] at hoA
            simp only [hsl]
            refine wpAnyH_ready (rs := [15]) (by kernel_rfl) (by simp) ?_
            refine (AllReadyH.cons rfl (fun K hK => ?_) AllReadyH.nil)
            refine step_append_wide u2 (by rfl) _ _ 32 (by rfl) w4.heap.size 55 i0 (.agg #[.string ⟨#[]⟩, .int .i64 0, .int .i64 0, .string ⟨#[]⟩]) 4 48 Tryz.underlying32 hi hz0 hz1 hz2 rfl (by decide) (.slice va k vc) k (prLs (sameP M (E.rds.take k))) (by rfl) hoA ⟨nb, 0, none⟩ 1 1 (prL ⟨x, gv⟩) (by rfl) rfl (World.news_of_block HNW.out) hone (by decide) (by unfold maxLen; omega) (by omega) HS2.out.size ?_
            intro g5 c5 w5 hown5 hgrow
            have hnx : (sameP M (E.rds.take (k + 1))) = sameP M (E.rds.take k) ++ [⟨x, gv⟩] := by unfold sameP; rw [List.take_succ_eq_append_getElem hlt, HXK.out, List.map_append]; simp [HGV.out]
            have HO5 := Lib.hid (show w5.ownsRow w4.heap.size 55 4 (.slice (some ⟨g5, 0, none⟩) (k + 1) c5) (sameP M (E.rds.take (k + 1))).length (prLs (sameP M (E.rds.take (k + 1)))) from by rw [hnx, List.length_append, hsl, prLs_snoc]; exact hown5)
            have HS5 := Lib.hid (HS2.out.grown hgrow HS2.out.size (fun g hg => (hoA.lt g hg).1))
            clear hown5 hgrow hnx
            refine hK.out _ _ ?_ (fun hHeld => ?_)
            · exact HS5.out
            clear hK K hHeld
            simp only [Act.put, List.setIfInBounds_toArray]
            refine tkX (i := 16) 8 ?_
            simp only [sA, sB, sC]
            refine wpAnyH_done (by kernel_rfl) ?_ _
            skip
            go_wp2
            go_roundw
            case rel => exact ⟨k + 1, by omega, by go_num, HO5, HS5.out⟩
            case measure => simp [intOf]; omega
        have hlt' : ¬ (k : Int) < (E.rds.length : Int) := by omega
        rw [List.take_of_length_le (show E.rds.length ≤ k by omega)] at HO
        obtain ⟨va, vc, hvv⟩ := own_sl HO.out
        subst hvv
        clear hlt hk
        go_wp2
        go_loopw [10] (fun i wr => ∃ k : Nat, k ≤ E.puts.length ∧ i = .int .i64 k ∧ Hid (wr.ownsRow w4.heap.size 55 4 (.slice va (sameP M E.rds).length vc) (sameP M E.rds).length (prLs (sameP M E.rds))) ∧ Below w4.heap.size w4 wr) (fun i _ => E.puts.length - (intOf i).toNat)
        case atStart => exact ⟨0, Nat.zero_le _, by first | exact True.intro | rfl, HO, HG.out⟩
        case round =>
          clear HO HG
          obtain ⟨k, hk, rfl, HO, hG⟩ := hrel
          have HG := Lib.hid hG; clear hG
          have hx3 : wr.cell? ⟨xb, 4, none⟩ = some (.slice ua E.puts.length uc) := (HX.out.call HG.out).cell 4
          by_cases hlt : k < E.puts.length
          · skip
            have hlt' : (k : Int) < (E.puts.length : Int) := by omega
            have hkb : (0 : Int) ≤ (k : Int) ∧ (k : Int) < (E.puts.length : Int) := ⟨by omega, by omega⟩
            have hk0 : (0 : Int) ≤ (k : Int) := by omega
            have hw1 : IntKind.i64.wrap ((k : Int) + 1) = (k : Int) + 1 := by rw [IntKind.wrap_i64]; omega
            obtain ⟨bb, off, hbe, p0⟩ := str_cell HIN.out.p hlt
            have HBE := Lib.hid hbe; clear hbe
            obtain ⟨x, hx⟩ : ∃ x, E.puts[k] = x := ⟨_, rfl⟩
            rw [hx] at p0
            have HP0 := Lib.hid p0; have HXK := Lib.hid hx; clear p0 hx
            have hkx := HK3.out x (HXK.out ▸ List.getElem_mem hlt)
            have HKX := Lib.hid hkx; clear hkx
            go_upto_region 14 with (fail)
            clear hx3
            have HS0 := Lib.hid (show Below w4.heap.size w4 wr.drew from HG.out.trans (Below.refl _ _).drew)
            have hea : ua = some ⟨bb, off, none⟩ := HBE.out
            subst hea
            have hor := Bool.eq_false_or_eq_true F.all
            rcases hor with hal | hal
            · skip
              have HRl := Lib.hid (show Bx w.heap.size #[.slice pa c.p.length pc, .int .i64 c.sl, .slice ia c.l.length ic, .slice aa A.length ac, .bool true, .slice ra F.rd.length rc, .slice wa F.wr.length wac] 31 w4 from by have h := HR.out; rw [hal] at h; exact h)
              clear hal
              refine wp_region_held_drew (S := (fun w' => Below w4.heap.size w4 w')) (by kernel_rfl) ?_ (fun hHeld => ?_)
              · exact HS0.out
              refine tkX (i := 0) 98 ?_
              simp only [sA, sB, sC]
              refine tkX (i := 1) 99 ?_
              simp only [sA, sB, sC]
              refine tkY (i := 2) (v := ?vv52) 100 ?yy52 ?_
              case yy52 =>
                intro wq hSw
                obtain ⟨z0, z1, z2, z3, z4, z5, z6⟩ := (HRl.out.call hSw).c7
                clear hSw
                go_simp
                (try with_reducible rfl)
              simp only [sA, sB, sC]
              refine tkX (i := 3) 101 ?_
              simp only [sA, sB, sC]
              refine tkX (i := 4) 102 ?_
              simp only [sA, sB, sC]
              refine tkZ (i := 5) 103 ?_
              simp only [sA, sB, sC]
              refine tkZ (i := 6) 104 ?_
              simp only [sA, sB, sC]
              refine tkZ (i := 7) 105 ?_
              simp only [sA, sB, sC]
              refine tkZ (i := 8) 106 ?_
              simp only [sA, sB, sC]
              refine tkZ (i := 9) 107 ?_
              simp only [sA, sB, sC]
              refine tkZ (i := 10) 108 ?_
              simp only [sA, sB, sC]
              refine tkZ (i := 11) 109 ?_
              simp only [sA, sB, sC]
              refine tkZ (i := 12) 110 ?_
              simp only [sA, sB, sC]
              refine tkZ (i := 13) 111 ?_
              simp only [sA, sB, sC]
              refine tkZ (i := 14) 112 ?_
              simp only [sA, sB, sC]
              refine tkX (i := 15) 113 ?_
              simp only [sA, sB, sC]
              refine wpAnyH_done (by kernel_rfl) ?_ _
              clear hHeld HRl
              have HO := Lib.hid (own_below HO.out (Below.refl _ _).drew)
              go_wp2
              go_roundw
              case rel => exact ⟨k + 1, by omega, by go_num, HO, HS0.out⟩
              case measure => simp [intOf]; omega
            · skip
              have HRl := Lib.hid (show Bx w.heap.size #[.slice pa c.p.length pc, .int .i64 c.sl, .slice ia c.l.length ic, .slice aa A.length ac, .bool false, .slice ra F.rd.length rc, .slice wa F.wr.length wac] 31 w4 from by have h := HR.out; rw [hal] at h; exact h)
              have hhas := (HKX.out).resolve_left (by rw [hal]; simp)
              have HHAS := Lib.hid hhas; clear hhas
              clear hal
              refine wp_region_held_drew (S := (fun w' => Below w4.heap.size w4 w')) (by kernel_rfl) ?_ (fun hHeld => ?_)
              · exact HS0.out
              refine tkX (i := 0) 98 ?_
              simp only [sA, sB, sC]
              refine tkX (i := 1) 99 ?_
              simp only [sA, sB, sC]
              refine tkY (i := 2) (v := ?vv58) 100 ?yy58 ?_
              case yy58 =>
                intro wq hSw
                obtain ⟨z0, z1, z2, z3, z4, z5, z6⟩ := (HRl.out.call hSw).c7
                clear hSw
                go_simp
                (try with_reducible rfl)
              simp only [sA, sB, sC]
              refine tkX (i := 3) 101 ?_
              simp only [sA, sB, sC]
              refine tkX (i := 4) 102 ?_
              simp only [sA, sB, sC]
              refine tkX (i := 5) 103 ?_
              simp only [sA, sB, sC]
              refine tkX (i := 6) 104 ?_
              simp only [sA, sB, sC]
              refine tkY (i := 7) (v := ?vv63) 105 ?yy63 ?_
              case yy63 =>
                intro wq hSw
                obtain ⟨z0, z1, z2, z3, z4, z5, z6⟩ := (HRl.out.call hSw).c7
                clear hSw
                go_simp
                (try with_reducible rfl)
              simp only [sA, sB, sC]
              refine tkX (i := 8) 106 ?_
              simp only [sA, sB, sC]
              refine tkY (i := 9) (v := ?vv65) 107 ?yy65 ?_
              case yy65 =>
                intro wq hSw
                obtain ⟨y0, y1, y2, y3, y4, y5, y6, y7⟩ := (HX.out.call hSw).c8
                clear hSw
                go_simp
                (try with_reducible rfl)
              simp only [sA, sB, sC]
              refine tkX (i := 10) 108 ?_
              simp only [sA, sB, sC]
              refine tkX (i := 11) 109 ?_
              simp only [sA, sB, sC]
              refine tkY (i := 12) (v := ?vv68) 110 ?yy68 ?_
              case yy68 =>
                intro wq hSw
                have z0 := cell1_below HP0.out hSw
                clear hSw
                go_simp
                (try with_reducible rfl)
              simp only [sA, sB, sC]
              refine wpAnyH_ready (rs := [13]) (by kernel_rfl) (by simp) ?_
              refine (AllReadyH.cons rfl (fun K hK => ?_) AllReadyH.nil)
              have hrs : StrS wr.drew (.slice wa F.wr.length wac) F.wr := (HA.out.W.below HS0.out)
              go_simp
              (refine (RHas15_any _ F.wr x _ HL.out.len.2.2.2.2 hrs).mono ?_; rw [HHAS.out]; rintro er u1 ⟨rfl, rfl⟩)
              focus (try go_wp2_with fail)
              refine hK.out _ _ ?_ (fun hHeld => ?_)
              · exact hHeld
              clear hK K
              (try simp only [Act.put, sA, sB, sC])
              clear hrs
              refine tkX (i := 14) 112 ?_
              simp only [sA, sB, sC]
              refine tkX (i := 15) 113 ?_
              simp only [sA, sB, sC]
              refine wpAnyH_done (by kernel_rfl) ?_ _
              clear hHeld HRl
              have HO := Lib.hid (own_below HO.out (Below.refl _ _).drew)
              go_wp2
              go_roundw
              case rel => exact ⟨k + 1, by omega, by go_num, HO, HS0.out⟩
              case measure => simp [intOf]; omega
          have hlt' : ¬ (k : Int) < (E.puts.length : Int) := by omega
          clear hlt hk
          have hsl : (sameP M E.rds).length = E.rds.length := by unfold sameP; rw [List.length_map]
          obtain ⟨s1, s2, s3⟩ := same_srt HSM.out HK1.out fun k hk => (HK2.out k hk).1
          obtain ⟨S, hS⟩ : ∃ S, sameP M E.rds = S := ⟨_, rfl⟩
          have hvs := vlim_apply HL.out HL2.out hU2 hk4 fun k hk => (HK2.out k hk).1
          have hrl : runS c A (applyP U (sameP M E.rds)) F = E := by have h := runS_local (c := c) (A := A) (F := F) HSM.out HSU.out; rw [HE.out] at h; exact h
          rw [hS] at s1 s2 s3 hvs hrl HO hsl
          have HVS := Lib.hid hvs; have HRL := Lib.hid hrl; have HS2 := Lib.hid s2; have HS3 := Lib.hid s3; clear hvs hrl s1 s2 s3
          have hsx : ∀ p ∈ S, p.key.length ≤ 9223372036854775807 ∧ p.v.s.length ≤ 9223372036854775807 := by
            intro p hp
            rw [← hS] at hp
            unfold sameP at hp
            rw [List.mem_map] at hp
            obtain ⟨k, hk, rfl⟩ := hp
            have hkb := (HK2.out k hk).1
            unfold keyB at hkb
            simp only [Bool.and_eq_true, decide_eq_true_eq] at hkb
            refine ⟨by show k.length ≤ _; omega, ?_⟩
            rcases getP_or M k with e | ⟨q, hq, -, e⟩
            · show (getP M k).s.length ≤ _; rw [e]; simp [v00]
            · show (getP M k).s.length ≤ _; rw [e]; exact (HL.out.sM q hq).2
          have HSX := Lib.hid hsx; clear hsx
          simp only [hS]
          have hln : U.length + S.length ≤ 4000000000000 := by omega
          clear hS hsl
          go_wp2_with fail
          refine (RApply06_any ta va tc vc U S _ (HU.out.below HG.out) (own_prAt HO.out) hln HL2.out.sM HSX.out HSU.out HS3.out).mono ?_
          rintro er w5 ⟨vo, rfl, ho5, hb5⟩
          obtain ⟨xa2, xc2, hvo⟩ := own_sl ho5
          subst hvo
          have HO5 := Lib.hid (own_prAt ho5); have HG := Lib.hid (btrans HG.out HG.out.size hb5); clear ho5 hb5 HO
          go_upto_region 17 with (fail)
          obtain ⟨O, hO⟩ : ∃ O, applyP U S = O := ⟨_, rfl⟩
          rw [hO] at HO5 HVS HRL
          simp only [hO]
          clear hO
          have hv5 : VArgs w5.drew pa ia aa xa2 ra wa pc ic ac xc2 rc wac c A O F := ⟨HA.out.P.below (HG.out.trans (Below.refl _ _).drew), HA.out.I.below (HG.out.trans (Below.refl _ _).drew), HA.out.A.below (HG.out.trans (Below.refl _ _).drew), HO5.out.below (Below.refl _ _).drew, HA.out.R.below (HG.out.trans (Below.refl _ _).drew), HA.out.W.below (HG.out.trans (Below.refl _ _).drew)⟩
          have HV5 := Lib.hid hv5; clear hv5
          have HS0 := Lib.hid (show Below w4.heap.size w4 w5.drew from HG.out.trans (Below.refl _ _).drew)
          refine wp_region_held_drew (S := (fun w' => Below w4.heap.size w4 w')) (by kernel_rfl) ?_ (fun hHeld => ?_)
          · exact HS0.out
          refine tkX (i := 0) 120 ?_
          simp only [sA, sB, sC]
          refine tkX (i := 1) 121 ?_
          simp only [sA, sB, sC]
          refine tkX (i := 2) 122 ?_
          simp only [sA, sB, sC]
          refine tkX (i := 3) 123 ?_
          simp only [sA, sB, sC]
          refine tkY (i := 4) (v := ?vv75) 124 ?yy75 ?_
          case yy75 =>
            intro wq hSw
            obtain ⟨z0, z1, z2, z3, z4, z5, z6⟩ := (HR.out.call hSw).c7
            clear hSw
            go_simp
            (try with_reducible rfl)
          simp only [sA, sB, sC]
          refine tkX (i := 5) 125 ?_
          simp only [sA, sB, sC]
          refine tkY (i := 6) (v := ?vv77) 126 ?yy77 ?_
          case yy77 =>
            intro wq hSw
            obtain ⟨z0, z1, z2, z3, z4, z5, z6⟩ := (HR.out.call hSw).c7
            clear hSw
            go_simp
            (try with_reducible rfl)
          simp only [sA, sB, sC]
          refine tkX (i := 7) 127 ?_
          simp only [sA, sB, sC]
          refine tkX (i := 8) 128 ?_
          simp only [sA, sB, sC]
          refine tkY (i := 9) (v := ?vv80) 129 ?yy80 ?_
          case yy80 =>
            intro wq hSw
            obtain ⟨z0, z1, z2, z3, z4, z5, z6⟩ := (HR.out.call hSw).c7
            clear hSw
            go_simp
            (try with_reducible rfl)
          simp only [sA, sB, sC]
          refine tkY (i := 11) (v := ?vv81) 131 ?yy81 ?_
          case yy81 =>
            intro wq hSw
            obtain ⟨y0, y1, y2, y3, y4, y5, y6, y7⟩ := (HX.out.call hSw).c8
            clear hSw
            go_simp
            (try with_reducible rfl)
          simp only [sA, sB, sC]
          refine wpAnyH_ready (rs := [10]) (by kernel_rfl) (by simp) ?_
          refine (AllReadyH.cons rfl (fun K hK => ?_) AllReadyH.nil)
          go_simp
          refine (Run_any pa ia aa xa2 ra wa pc ic ac xc2 rc wac c A O F _ HV5.out HVS.out (HLB.out.below HS0.out)).mono ?_
          rw [HRL.out]
          rintro er w6 ⟨ev, rfl, hin, hb6⟩
          have HS6 := Lib.hid (btrans HS0.out HS0.out.size hb6)
          have HIN6 := Lib.hid hin; clear hin hb6
          refine hK.out _ _ ?_ (fun hHeld => ?_)
          · exact HS6.out
          clear hK K hHeld
          (try simp only [Act.put, sA, sB, sC])
          refine wpAnyH_ready (rs := [12]) (by kernel_rfl) (by simp) ?_
          refine (AllReadyH.cons rfl (fun K hK => ?_) AllReadyH.nil)
          go_simp
          go_simp
          refine (RSame_any E E ev _ _ HIN6.out (HIN.out.below HS6.out) HES.out HES.out).mono ?_
          rw [decide_eq_true rfl]
          rintro er w7 ⟨rfl, hb7⟩
          have HS7 := Lib.hid (btrans HS6.out HS6.out.size hb7); clear hb7
          refine hK.out _ _ ?_ (fun hHeld => ?_)
          · exact HS7.out
          clear hK K hHeld
          (try simp only [Act.put, sA, sB, sC])
          refine tkX (i := 13) 133 ?_
          simp only [sA, sB, sC]
          refine tkX (i := 14) 134 ?_
          simp only [sA, sB, sC]
          refine wpAnyH_ready (rs := [15]) (by kernel_rfl) (by simp) ?_
          refine (AllReadyH.cons rfl (fun K hK => ?_) AllReadyH.nil)
          go_simp
          refine (lives18 _ (HLB.out.below HS7.out)).mono ?_
          rintro er w8 ⟨rfl, hb8⟩
          have HS8 := Lib.hid (btrans HS7.out HS7.out.size hb8); clear hb8
          refine hK.out _ _ ?_ (fun hHeld => ?_)
          · exact HS8.out
          clear hK K hHeld
          (try simp only [Act.put, sA, sB, sC])
          refine tkX (i := 16) 136 ?_
          simp only [sA, sB, sC]
          refine tkX (i := 17) 6 ?_
          simp only [sA, sB, sC]
          refine wpAnyH_done (by kernel_rfl) ?_ _
          go_wp2
          go_ret
          exact ⟨rfl, btrans HB.out HB.out.size HS8.out⟩
end Go.Proofs.YtnglaegofhpleaaGreatDoor
namespace Go.Proofs.YtnglaegofhpleaaGreatDoor
open Go.ChangeShapes Go.WideShapes Go.ChangeAt Go.RowKit


theorem returnsInHanded_of_change_and_shaped {H : Type} {enc : TypeId × Value → H} {a : Assume} {C : Checked} {os : Os} {f : FuncId} {fn : Func} {s : ChangeSpec} {conds : List PathCond} {apart fresh handsOn again : Bool} {X : World → Array Value → Prop}
    (hX : ∀ (w w' : World) (args : Array Value), w.heap = w'.heap → X w args → X w' args)
    (own : ownKnob C.prog.godebug = none) (started : os.Started) (noInit : C.prog.inits.idxOf? f = none) (hfn : C.prog.funcs[f]? = some fn)
    (witness : ∃ (w : World) (tape : Tape) (i : Input), w.os = os ∧ (w.forCall tape i).Shaped C.prog ∧ i.vars = [] ∧ Input.okWide C.prog (w.forCall tape i) .any w.heap.size f i ∧
      ((s.pre enc C.prog fn conds apart (w.forCall tape i).memory i.args ∧ X (w.forCall tape i).memory i.args) ∧ sizedMet enc C.prog fn (OpenSpec.ofChange s) apart (w.forCall tape i).memory i.args) ∧ a.holds C.prog (lone (Frame.enter C.prog f i.args .normal) [] (w.forCall tape i)))
    (contract : ∀ (W : World) (base : Nat) (args : Array Value) (ds gs : List (DataW H)) (before : List MemPlace),
      (∀ (j : Nat) t v, fn.params[j]? = some t → args[j]? = some v → Value.okWide C.prog W .any base t v) →
      DataW.Whole enc C.prog fn.params.toList s.vars apart W args.toList ds gs before →
      conds.all (PathCond.test C.prog ⟨fn.params.toList, ds, s.plain.varTypes C.prog, gs⟩) = true →
      (DataW.weightsEach C.prog (fn.params.toList ++ s.plain.varTypes C.prog) (ds ++ gs)).all (· ≤ reachBytes) = true → X W args →
      W.ShapedOpen C.prog →
      a.holds C.prog (lone (Frame.enter C.prog f args .normal) [] W) →
      Calls C.prog f args W fun e W' => ∃ v, e = .returned v ∧ s.post enc C.prog fn apart fresh handsOn again W args v W') :
    ReturnsInHanded a C os f .any (fun w args => (s.pre enc C.prog fn conds apart w args ∧ X w args) ∧ sizedMet enc C.prog fn (OpenSpec.ofChange s) apart w args) (s.post enc C.prog fn apart fresh handsOn again) := by
  refine returnsInHanded_of_calls own started noInit witness ?_
  intro w tape i _ hsh _ hok hpre hholds
  obtain ⟨_, _, _, fn', hfn', _, _, _, _, hval⟩ := hok
  have e : fn' = fn := Option.some.inj (hfn'.symm.trans hfn)
  subst e
  obtain ⟨⟨⟨ds, gs, before, hw, hc⟩, hx⟩, hz⟩ := hpre
  have hw' := DataW.Whole.of_heap (w' := w.forCall tape i) (by rfl) hw
  refine (contract (w.forCall tape i) w.heap.size i.args ds gs before hval hw' hc (hz.weights hw) (hX _ _ _ (by rfl) hx) hsh hholds).mono fun e W' ⟨v, he, hp⟩ => ?_
  subst he
  exact ChangeSpec.post_blind hp
theorem sized_of {H : Type} {P : Program} {ts : List TypeId} {ds : List (DataW H)} (h : (DataW.weightsEach P ts ds).all (· ≤ reachBytes) = true) {j : Nat} {t : TypeId} {d : DataW H} (ht : ts[j]? = some t) (hd : ds[j]? = some d) : ∀ n ∈ d.weights P t, n ≤ reachBytes := by
  intro n hn
  have := List.all_eq_true.1 h n (DataW.weights_mem_each ht hd n hn)
  simpa using this

set_option maxRecDepth 100000 in
theorem laidB_of {W : World} (h : laidMetH Tryz.prog Rows.vmStepsRow.laid W) (hS : W.ShapedOpen Tryz.prog) : LaidB W := by
  rw [MakeChecks.laidMetH_plain _ _ _ (by kernel_rfl)] at h
  have h3 := h.tail.tail
  have h5 := h3.tail.tail
  refine ⟨⟨?_, trivial⟩, ?_, ?_⟩
  · exact Lib.tabIs_of_head (name := Tryz.slashName0) (k := .u64) (zs := Lib.pow10Tab) gTab (by kernel_rfl) Tryz.underlying215 Tryz.underlying121 (by kernel_rfl) (by kernel_rfl) h3
  · exact Lib.tabIs_of_head (name := "strings.asciiSpace") (k := .u8) (zs := Lib.asciiSpaceTab) gSpace (by kernel_rfl) Tryz.underlying130 Tryz.underlying5 (by kernel_rfl) (by kernel_rfl) h5
  · exact cell_of_shapedOpen_int hS (zero := #[.int .i64 0]) (g := 3) (of_decide_eq_true (by kernel_rfl)) (h0 := by kernel_rfl) rfl (by kernel_rfl) (by kernel_rfl) Tryz.underlying3
theorem addr_add (b off i : Nat) : (⟨b, off, none⟩ : Addr).add i = ⟨b, off + i, none⟩ := by unfold Addr.add; split <;> simp_all
theorem flat_at {X : Type} {f : X → List Value} {nc : Nat} (hlen : ∀ x, (f x).length = nc) : ∀ (M : List X) (k q : Nat) (h : k < M.length), q < nc → (M.flatMap f)[k * nc + q]? = (f M[k])[q]?
  | [], k, q, h, _ => by simp at h
  | x :: r, 0, q, h, hq => by
    rw [List.flatMap_cons, List.getElem?_append_left (by rw [hlen]; omega), Nat.zero_mul, Nat.zero_add]; rfl
  | x :: r, k + 1, q, h, hq => by
    have ih := flat_at hlen r k q (by simpa using h) hq
    rw [List.flatMap_cons, List.getElem?_append_right (by rw [hlen, Nat.succ_mul]; omega), show (k + 1) * nc + q - (f x).length = k * nc + q by rw [hlen, Nat.succ_mul]; omega, ih]; rfl
theorem flat_len {X : Type} {f : X → List Value} {nc : Nat} (hlen : ∀ x, (f x).length = nc) : ∀ M : List X, (M.flatMap f).length = M.length * nc
  | [] => by simp
  | x :: r => by rw [List.flatMap_cons, List.length_append, hlen, flat_len hlen r, List.length_cons, Nat.succ_mul]; omega
theorem wf_rng {q : Int} (w : (Lit.int .i64 q).wf = true) : fits q = true := by
  simp only [Lit.wf, IntKind.min, IntKind.max, IntKind.signed, IntKind.bits, Bool.and_eq_true, decide_eq_true_eq, if_true] at w
  unfold fits; simp only [Bool.and_eq_true, decide_eq_true_eq]; omega
def InsN (x : Ins) : Prop := fits x.n = true ∧ x.s.length ≤ 140737488351232
def VlN (x : Vl) : Prop := fits x.n = true ∧ x.s.length ≤ 140737488351232
def PrN (x : Pr) : Prop := x.key.length ≤ 140737488351232 ∧ VlN x.v
section
variable {H : Type} {enc : TypeId × Value → H} {W : World} {base : Nat} {spare : Nat → Bool} {held : Bool}
theorem weightsAll_mem {P : Program} {e : TypeId} {l : List (DataW H)} {d : DataW H} (hd : d ∈ l) {n : Nat} (hn : n ∈ d.weights P e) : n ∈ DataW.weightsAll P e l := by
  induction l with
  | nil => cases hd
  | cons x r ih =>
    simp only [DataW.weightsAll, List.mem_append]
    rcases List.mem_cons.1 hd with h | h
    · subst h; exact .inl hn
    · exact .inr (ih h)
theorem open_list {X : Type} {elT slT : TypeId} {f : X → List Value} {nc : Nat} {d0 : X} {Q : X → Prop} (hu : Tryz.prog.underlying slT = some (.slice elT)) (hce : Tryz.prog.cellsOf elT = nc) (hnc : 0 < nc) (hlen : ∀ x, (f x).length = nc)
    (htrod : ∀ {fuel : Nat} {cs : List Value} {x : DataW H × List MemPlace}, DataW.trod enc Tryz.prog W base spare held fuel elT cs = some x → (∀ n ∈ x.1.weights Tryz.prog elT, n ≤ reachBytes) → ∃ y, cs = f y ∧ Q y)
    {fuel : Nat} {cs : List Value} {x : DataW H × List MemPlace} (h : DataW.trod enc Tryz.prog W base spare held fuel slT cs = some x) (hz : ∀ n ∈ x.1.weights Tryz.prog slT, n ≤ reachBytes) :
    ∃ (a : Option Addr) (c : Nat) (M : List X), cs = [.slice a M.length c] ∧ M.length ≤ c ∧ CellsAt W (.slice a M.length c) M.length (M.flatMap f) ∧ M.length * Tryz.prog.bytesOf elT ≤ reachBytes ∧ ∀ x ∈ M, Q x := by
  rcases Deep.open_slice hu h with ⟨rfl, _⟩ | ⟨a, len0, cap0, m, n, D, Pl, rfl, _, hl, _, hm, hx, hi⟩
  · exact ⟨none, 0, [], rfl, Nat.le_refl _, ⟨none, 0, rfl, fun hne => absurd rfl hne⟩, by simp, by simp⟩
  · have hlm : len0 ≤ m := by rw [hm]; split <;> omega
    have hx1 := congrArg Prod.fst hx
    simp only at hx1
    rw [hx1] at hz
    have hsz : len0 * Tryz.prog.bytesOf elT ≤ reachBytes := by
      have h1 := hz ((((List.range len0).map D).length + (((List.range (m - len0)).map fun j => D (len0 + j))).length) * Tryz.prog.bytesOf elT) (by simp [DataW.weights, hu])
      rw [List.length_map, List.length_range, Nat.add_mul] at h1
      omega
    have hel : ∀ i, i < len0 → ∃ x : X, (∀ j u, (f x)[j]? = some u → W.cell? ((a.add (i * nc)).add j) = some u) ∧ Q x := by
      intro i hil
      obtain ⟨cs', hc, ht⟩ := hi i (by omega)
      rw [hce] at hc
      obtain ⟨y, rfl, y0⟩ := htrod ht (fun n hn => hz n (by
        simp only [DataW.weights, hu, List.mem_cons, List.mem_append]
        exact .inr (.inl (weightsAll_mem (List.mem_map.2 ⟨i, List.mem_range.2 hil, rfl⟩) hn))))
      obtain ⟨_, _, hat⟩ := World.cells?_some hc
      refine ⟨y, fun j u hj => ?_, y0⟩
      have hj4 : j < (f y).length := by
        rcases Nat.lt_or_ge j (f y).length with h | h
        · exact h
        · rw [List.getElem?_eq_none h] at hj; cases hj
      exact (hat j (by rw [hlen] at hj4; exact hj4)).trans hj
    obtain ⟨F, hF⟩ : ∃ F : Nat → X, ∀ i, i < len0 → (∀ j u, (f (F i))[j]? = some u → W.cell? ((a.add (i * nc)).add j) = some u) ∧ Q (F i) :=
      ⟨fun i => if h : i < len0 then (hel i h).choose else d0, fun i h => by simp only [dif_pos h]; exact (hel i h).choose_spec⟩
    have hML : ((List.range len0).map F).length = len0 := by simp
    refine ⟨some a, cap0, (List.range len0).map F, by rw [hML], by rw [hML]; exact hl, ⟨some a, cap0, by rw [hML], fun hne => ?_⟩, by rw [hML]; exact hsz, ?_⟩
    · have h0 : 0 < len0 := by
        rcases Nat.eq_zero_or_pos len0 with h | h
        · subst h; exact absurd rfl hne
        · exact h
      obtain ⟨b, off, spot⟩ := a
      have hspot : spot = none := by
        have h9 := (hF 0 h0).1 0 _ (List.getElem?_eq_getElem (by rw [hlen]; exact hnc))
        have h10 := World.cell?_spot h9
        cases spot with
        | none => rfl
        | some q => simp [Addr.add] at h10
      subst hspot
      refine ⟨b, off, rfl, fun j u hj => ?_⟩
      have hl2 := flat_len hlen ((List.range len0).map F)
      rw [hML] at hl2
      have hj4 : j < len0 * nc := by
        rcases Nat.lt_or_ge j (len0 * nc) with h | h
        · exact h
        · rw [List.getElem?_eq_none (by rw [hl2]; exact h)] at hj; cases hj
      have hjd : j / nc < len0 := Nat.div_lt_of_lt_mul (by rw [Nat.mul_comm]; exact hj4)
      have hjm : j / nc * nc + j % nc = j := by rw [Nat.mul_comm]; exact Nat.div_add_mod j nc
      have hq := flat_at hlen ((List.range len0).map F) (j / nc) (j % nc) (by rw [hML]; exact hjd) (Nat.mod_lt _ hnc)
      rw [hjm, hj] at hq
      simp only [List.getElem_map, List.getElem_range] at hq
      have h8 := (hF (j / nc) hjd).1 (j % nc) u hq.symm
      rw [addr_add, addr_add] at h8
      rw [show off + j = off + j / nc * nc + j % nc by omega]
      exact h8
    · intro x hxm
      obtain ⟨i, hi2, rfl⟩ := List.mem_map.1 hxm
      exact (hF i (List.mem_range.1 hi2)).2
set_option maxRecDepth 100000 in
theorem trod_vl {fuel : Nat} {cs : List Value} {x : DataW H × List MemPlace} (h : DataW.trod enc Tryz.prog W base spare held fuel 52 cs = some x) (hz : ∀ n ∈ x.1.weights Tryz.prog 52, n ≤ reachBytes) :
    ∃ y : Vl, cs = vlL y ∧ VlN y := by
  obtain ⟨ys, n, _, hx, hlen, hyl, hf⟩ := DataW.trod_struct Tryz.underlying52 h
  rw [show Tryz.prog.cellsOf 52 = 3 by kernel_rfl] at hlen
  match cs, hlen with
  | [u0, u1, u2], _ =>
    match ys, hyl with
    | [y0, y1, y2], _ =>
      have g0 : DataW.trod enc Tryz.prog W base spare held n 3 (([u0, u1, u2].drop 0).take (Tryz.prog.cellsOf 3)) = some y0 := hf 0 _ rfl
      rw [show Tryz.prog.cellsOf 3 = 1 by kernel_rfl] at g0
      have g1 : DataW.trod enc Tryz.prog W base spare held n 2 (([u0, u1, u2].drop 1).take (Tryz.prog.cellsOf 2)) = some y1 := hf 1 _ rfl
      rw [show Tryz.prog.cellsOf 2 = 1 by kernel_rfl] at g1
      have g2 : DataW.trod enc Tryz.prog W base spare held n 9 (([u0, u1, u2].drop 2).take (Tryz.prog.cellsOf 9)) = some y2 := hf 2 _ rfl
      rw [show Tryz.prog.cellsOf 9 = 1 by kernel_rfl] at g2
      have z2 : ∀ n ∈ y2.1.weights Tryz.prog 9, n ≤ reachBytes := fun n hn => hz n (by rw [hx]; simp only [DataW.weights, Tryz.underlying52, List.map_cons, List.map_nil, DataW.weightsEach, List.mem_append]; exact Or.inr (Or.inr (Or.inl hn)))
      obtain ⟨k, e0, _⟩ := DataW.trod_int Tryz.underlying3 g0
      obtain ⟨q, e1, _, w1⟩ := DataW.trod_int Tryz.underlying2 g1
      obtain ⟨s, e2, f2⟩ := DataW.trod_string Tryz.underlying9 g2
      simp at e0 e1 e2
      subst e0 e1 e2
      rw [f2.1] at z2
      have l2 : s.data.toList.length ≤ 140737488351232 := by have := z2 s.data.toList.length (by simp [DataW.weights]); unfold reachBytes at this; omega
      exact ⟨⟨k, q, s.data.toList⟩, by simp only [vlL, bs_toList], wf_rng w1, l2⟩
set_option maxRecDepth 100000 in
theorem trod_pr {fuel : Nat} {cs : List Value} {x : DataW H × List MemPlace} (h : DataW.trod enc Tryz.prog W base spare held fuel 55 cs = some x) (hz : ∀ n ∈ x.1.weights Tryz.prog 55, n ≤ reachBytes) :
    ∃ y : Pr, cs = prL y ∧ PrN y := by
  obtain ⟨ys, n, _, hx, hlen, hyl, hf⟩ := DataW.trod_struct Tryz.underlying55 h
  rw [show Tryz.prog.cellsOf 55 = 4 by kernel_rfl] at hlen
  match cs, hlen with
  | [u0, u1, u2, u3], _ =>
    match ys, hyl with
    | [y0, y1], _ =>
      have g0 : DataW.trod enc Tryz.prog W base spare held n 9 (([u0, u1, u2, u3].drop 0).take (Tryz.prog.cellsOf 9)) = some y0 := hf 0 _ rfl
      rw [show Tryz.prog.cellsOf 9 = 1 by kernel_rfl] at g0
      have z0 : ∀ n ∈ y0.1.weights Tryz.prog 9, n ≤ reachBytes := fun n hn => hz n (by rw [hx]; simp only [DataW.weights, Tryz.underlying55, List.map_cons, List.map_nil, DataW.weightsEach, List.mem_append]; exact Or.inl hn)
      have g1 : DataW.trod enc Tryz.prog W base spare held n 52 (([u0, u1, u2, u3].drop 1).take (Tryz.prog.cellsOf 52)) = some y1 := hf 1 _ rfl
      rw [show Tryz.prog.cellsOf 52 = 3 by kernel_rfl] at g1
      have z1 : ∀ n ∈ y1.1.weights Tryz.prog 52, n ≤ reachBytes := fun n hn => hz n (by rw [hx]; simp only [DataW.weights, Tryz.underlying55, List.map_cons, List.map_nil, DataW.weightsEach, List.mem_append]; exact Or.inr (Or.inl hn))
      obtain ⟨s, e0, f0⟩ := DataW.trod_string Tryz.underlying9 g0
      obtain ⟨v, e1, hv⟩ := trod_vl g1 z1
      simp [vlL] at e0 e1
      obtain ⟨rfl, rfl, rfl⟩ := e1
      subst e0
      rw [f0.1] at z0
      have l0 : s.data.toList.length ≤ 140737488351232 := by have := z0 s.data.toList.length (by simp [DataW.weights]); unfold reachBytes at this; omega
      exact ⟨⟨s.data.toList, v⟩, by simp only [prL, bs_toList], l0, hv⟩
set_option maxRecDepth 100000 in
theorem trod_ins {fuel : Nat} {cs : List Value} {x : DataW H × List MemPlace} (h : DataW.trod enc Tryz.prog W base spare held fuel 45 cs = some x) (hz : ∀ n ∈ x.1.weights Tryz.prog 45, n ≤ reachBytes) :
    ∃ y : Ins, cs = insL y ∧ InsN y := by
  obtain ⟨ys, n, _, hx, hlen, hyl, hf⟩ := DataW.trod_struct Tryz.underlying45 h
  rw [show Tryz.prog.cellsOf 45 = 5 by kernel_rfl] at hlen
  match cs, hlen with
  | [u0, u1, u2, u3, u4], _ =>
    match ys, hyl with
    | [y0, y1, y2, y3, y4], _ =>
      have g0 : DataW.trod enc Tryz.prog W base spare held n 3 (([u0, u1, u2, u3, u4].drop 0).take (Tryz.prog.cellsOf 3)) = some y0 := hf 0 _ rfl
      rw [show Tryz.prog.cellsOf 3 = 1 by kernel_rfl] at g0
      have g1 : DataW.trod enc Tryz.prog W base spare held n 3 (([u0, u1, u2, u3, u4].drop 1).take (Tryz.prog.cellsOf 3)) = some y1 := hf 1 _ rfl
      rw [show Tryz.prog.cellsOf 3 = 1 by kernel_rfl] at g1
      have g2 : DataW.trod enc Tryz.prog W base spare held n 3 (([u0, u1, u2, u3, u4].drop 2).take (Tryz.prog.cellsOf 3)) = some y2 := hf 2 _ rfl
      rw [show Tryz.prog.cellsOf 3 = 1 by kernel_rfl] at g2
      have g3 : DataW.trod enc Tryz.prog W base spare held n 2 (([u0, u1, u2, u3, u4].drop 3).take (Tryz.prog.cellsOf 2)) = some y3 := hf 3 _ rfl
      rw [show Tryz.prog.cellsOf 2 = 1 by kernel_rfl] at g3
      have g4 : DataW.trod enc Tryz.prog W base spare held n 9 (([u0, u1, u2, u3, u4].drop 4).take (Tryz.prog.cellsOf 9)) = some y4 := hf 4 _ rfl
      rw [show Tryz.prog.cellsOf 9 = 1 by kernel_rfl] at g4
      have z4 : ∀ n ∈ y4.1.weights Tryz.prog 9, n ≤ reachBytes := fun n hn => hz n (by rw [hx]; simp only [DataW.weights, Tryz.underlying45, List.map_cons, List.map_nil, DataW.weightsEach, List.mem_append]; exact Or.inr (Or.inr (Or.inr (Or.inr (Or.inl hn)))))
      obtain ⟨op, e0, _⟩ := DataW.trod_int Tryz.underlying3 g0
      obtain ⟨a, e1, _⟩ := DataW.trod_int Tryz.underlying3 g1
      obtain ⟨b, e2, _⟩ := DataW.trod_int Tryz.underlying3 g2
      obtain ⟨q, e3, _, w3⟩ := DataW.trod_int Tryz.underlying2 g3
      obtain ⟨s, e4, f4⟩ := DataW.trod_string Tryz.underlying9 g4
      simp at e0 e1 e2 e3 e4
      subst e0 e1 e2 e3 e4
      rw [f4.1] at z4
      have l4 : s.data.toList.length ≤ 140737488351232 := by have := z4 s.data.toList.length (by simp [DataW.weights]); unfold reachBytes at this; omega
      exact ⟨⟨op, a, b, q, s.data.toList⟩, by simp only [insL, bs_toList], wf_rng w3, l4⟩
theorem trod_int1 {fuel : Nat} {cs : List Value} {x : DataW H × List MemPlace} (h : DataW.trod enc Tryz.prog W base spare held fuel 3 cs = some x) (_hz : ∀ n ∈ x.1.weights Tryz.prog 3, n ≤ reachBytes) : ∃ y : Int, cs = [.int .i64 y] ∧ True := by
  obtain ⟨k, e0, _⟩ := DataW.trod_int Tryz.underlying3 h
  exact ⟨k, e0, trivial⟩
theorem trod_str1 {fuel : Nat} {cs : List Value} {x : DataW H × List MemPlace} (h : DataW.trod enc Tryz.prog W base spare held fuel 9 cs = some x) (hz : ∀ n ∈ x.1.weights Tryz.prog 9, n ≤ reachBytes) : ∃ y : List UInt8, cs = [strV y] ∧ y.length ≤ 140737488351232 := by
  obtain ⟨s, e0, f0⟩ := DataW.trod_string Tryz.underlying9 h
  rw [f0.1] at hz
  refine ⟨s.data.toList, by rw [e0]; unfold strV; rw [bs_toList], ?_⟩
  have := hz s.data.toList.length (by simp [DataW.weights])
  unfold reachBytes at this
  omega
theorem flat_one {X : Type} (g : X → Value) : ∀ M : List X, M.flatMap (fun x => [g x]) = M.map g
  | [] => rfl
  | x :: r => by rw [List.flatMap_cons, flat_one g r]; rfl
theorem strS_cells {W : World} {a : Option Addr} {c : Nat} {M : List (List UInt8)} (hc : M.length ≤ c) (h : CellsAt W (.slice a M.length c) M.length (M.map strV)) : StrS W (.slice a M.length c) M := by
  obtain ⟨a2, c2, he, hx⟩ := h
  simp only [Value.slice.injEq] at he
  obtain ⟨rfl, -, rfl⟩ := he
  refine ⟨_, _, rfl, hc, fun hne => ?_⟩
  obtain ⟨b, off, hb, hcell⟩ := hx (by intro e; exact hne (List.map_eq_nil_iff.1 e))
  exact ⟨b, off, hb, fun i hi => hcell i _ (by rw [List.getElem?_map, List.getElem?_eq_getElem hi]; rfl)⟩
set_option maxRecDepth 100000 in
theorem trod_vls {fuel : Nat} {cs : List Value} {x : DataW H × List MemPlace} (h : DataW.trod enc Tryz.prog W base spare held fuel 26 cs = some x) (hz : ∀ n ∈ x.1.weights Tryz.prog 26, n ≤ reachBytes) :
    ∃ (a : Option Addr) (c : Nat) (M : List Vl), cs = [.slice a M.length c] ∧ CellsAt W (.slice a M.length c) M.length (vlLs M) ∧ M.length ≤ 4398046511103 ∧ ∀ x ∈ M, VlN x := by
  obtain ⟨a, c, M, e, hc, hM, hb, hq⟩ := open_list (f := vlL) (nc := 3) (d0 := v00) (Q := fun x => VlN x) Tryz.underlying26 (by kernel_rfl) (by decide) (fun _ => rfl) (fun h hz => trod_vl h hz) h hz
  rw [show Tryz.prog.bytesOf 52 = 32 by kernel_rfl] at hb
  unfold reachBytes at hb
  exact ⟨a, c, M, e, hM, by omega, hq⟩
set_option maxRecDepth 100000 in
theorem trod_prs {fuel : Nat} {cs : List Value} {x : DataW H × List MemPlace} (h : DataW.trod enc Tryz.prog W base spare held fuel 32 cs = some x) (hz : ∀ n ∈ x.1.weights Tryz.prog 32, n ≤ reachBytes) :
    ∃ (a : Option Addr) (c : Nat) (M : List Pr), cs = [.slice a M.length c] ∧ CellsAt W (.slice a M.length c) M.length (prLs M) ∧ M.length ≤ 2932031007402 ∧ ∀ x ∈ M, PrN x := by
  obtain ⟨a, c, M, e, hc, hM, hb, hq⟩ := open_list (f := prL) (nc := 4) (d0 := ⟨[], v00⟩) (Q := fun x => PrN x) Tryz.underlying32 (by kernel_rfl) (by decide) (fun _ => rfl) (fun h hz => trod_pr h hz) h hz
  rw [show Tryz.prog.bytesOf 55 = 48 by kernel_rfl] at hb
  unfold reachBytes at hb
  exact ⟨a, c, M, e, hM, by omega, hq⟩
set_option maxRecDepth 100000 in
theorem trod_inss {fuel : Nat} {cs : List Value} {x : DataW H × List MemPlace} (h : DataW.trod enc Tryz.prog W base spare held fuel 23 cs = some x) (hz : ∀ n ∈ x.1.weights Tryz.prog 23, n ≤ reachBytes) :
    ∃ (a : Option Addr) (c : Nat) (M : List Ins), cs = [.slice a M.length c] ∧ CellsAt W (.slice a M.length c) M.length (insLs M) ∧ M.length ≤ 8796093022208 ∧ ∀ x ∈ M, InsN x := by
  obtain ⟨a, c, M, e, hc, hM, hb, hq⟩ := open_list (f := insL) (nc := 5) (d0 := ins0) (Q := fun x => InsN x) Tryz.underlying23 (by kernel_rfl) (by decide) (fun _ => rfl) (fun h hz => trod_ins h hz) h hz
  rw [show Tryz.prog.bytesOf 45 = 48 by kernel_rfl] at hb
  unfold reachBytes at hb
  exact ⟨a, c, M, e, hM, by omega, hq⟩
set_option maxRecDepth 100000 in
theorem trod_ints {fuel : Nat} {cs : List Value} {x : DataW H × List MemPlace} (h : DataW.trod enc Tryz.prog W base spare held fuel 22 cs = some x) (hz : ∀ n ∈ x.1.weights Tryz.prog 22, n ≤ reachBytes) :
    ∃ (a : Option Addr) (c : Nat) (M : List Int), cs = [.slice a M.length c] ∧ CellsAt W (.slice a M.length c) M.length (intsL M) ∧ M.length ≤ 17592186044415 ∧ ∀ x ∈ M, True := by
  obtain ⟨a, c, M, e, hc, hM, hb, hq⟩ := open_list (f := (fun x => [.int .i64 x])) (nc := 1) (d0 := 0) (Q := fun x => True) Tryz.underlying22 (by kernel_rfl) (by decide) (fun _ => rfl) (fun h hz => trod_int1 h hz) h hz
  rw [show Tryz.prog.bytesOf 3 = 8 by kernel_rfl] at hb
  unfold reachBytes at hb
  exact ⟨a, c, M, e, (by rw [flat_one] at hM; exact hM), by omega, hq⟩
set_option maxRecDepth 100000 in
theorem trod_strs {fuel : Nat} {cs : List Value} {x : DataW H × List MemPlace} (h : DataW.trod enc Tryz.prog W base spare held fuel 27 cs = some x) (hz : ∀ n ∈ x.1.weights Tryz.prog 27, n ≤ reachBytes) :
    ∃ (a : Option Addr) (c : Nat) (M : List (List UInt8)), cs = [.slice a M.length c] ∧ StrS W (.slice a M.length c) M ∧ M.length ≤ 8796093022207 ∧ ∀ x ∈ M, x.length ≤ 140737488351232 := by
  obtain ⟨a, c, M, e, hc, hM, hb, hq⟩ := open_list (f := (fun x => [strV x])) (nc := 1) (d0 := []) (Q := fun x => x.length ≤ 140737488351232) Tryz.underlying27 (by kernel_rfl) (by decide) (fun _ => rfl) (fun h hz => trod_str1 h hz) h hz
  rw [show Tryz.prog.bytesOf 9 = 16 by kernel_rfl] at hb
  unfold reachBytes at hb
  exact ⟨a, c, M, e, strS_cells hc (by rw [flat_one] at hM; exact hM), by omega, hq⟩
set_option maxRecDepth 100000 in
theorem trod_code {fuel : Nat} {cs : List Value} {x : DataW H × List MemPlace} (h : DataW.trod enc Tryz.prog W base spare held fuel 25 cs = some x) (hz : ∀ n ∈ x.1.weights Tryz.prog 25, n ≤ reachBytes) :
    ∃ (pa ia : Option Addr) (pc ic : Nat) (c : Cd), cs = [.slice pa c.p.length pc, .int .i64 c.sl, .slice ia c.l.length ic] ∧ CellsAt W (.slice pa c.p.length pc) c.p.length (intsL c.p) ∧ CellsAt W (.slice ia c.l.length ic) c.l.length (insLs c.l) ∧ c.p.length ≤ 17592186044415 ∧ ∀ x ∈ c.l, InsN x := by
  obtain ⟨ys, n, _, hx, hlen, hyl, hf⟩ := DataW.trod_struct Tryz.underlying25 h
  rw [show Tryz.prog.cellsOf 25 = 3 by kernel_rfl] at hlen
  match cs, hlen with
  | [u0, u1, u2], _ =>
    match ys, hyl with
    | [y0, y1, y2], _ =>
      have g0 : DataW.trod enc Tryz.prog W base spare held n 22 (([u0, u1, u2].drop 0).take (Tryz.prog.cellsOf 22)) = some y0 := hf 0 _ rfl
      rw [show Tryz.prog.cellsOf 22 = 1 by kernel_rfl] at g0
      have z0 : ∀ n ∈ y0.1.weights Tryz.prog 22, n ≤ reachBytes := fun n hn => hz n (by rw [hx]; simp only [DataW.weights, Tryz.underlying25, List.map_cons, List.map_nil, DataW.weightsEach, List.mem_append]; exact Or.inl hn)
      have g1 : DataW.trod enc Tryz.prog W base spare held n 3 (([u0, u1, u2].drop 1).take (Tryz.prog.cellsOf 3)) = some y1 := hf 1 _ rfl
      rw [show Tryz.prog.cellsOf 3 = 1 by kernel_rfl] at g1
      have g2 : DataW.trod enc Tryz.prog W base spare held n 23 (([u0, u1, u2].drop 2).take (Tryz.prog.cellsOf 23)) = some y2 := hf 2 _ rfl
      rw [show Tryz.prog.cellsOf 23 = 1 by kernel_rfl] at g2
      have z2 : ∀ n ∈ y2.1.weights Tryz.prog 23, n ≤ reachBytes := fun n hn => hz n (by rw [hx]; simp only [DataW.weights, Tryz.underlying25, List.map_cons, List.map_nil, DataW.weightsEach, List.mem_append]; exact Or.inr (Or.inr (Or.inl hn)))
      obtain ⟨pa, pc, P, e0, hP, bP, _⟩ := trod_ints g0 z0
      obtain ⟨sl, e1, _⟩ := DataW.trod_int Tryz.underlying3 g1
      obtain ⟨ia, ic, M, e2, hM, _, hR⟩ := trod_inss g2 z2
      simp at e0 e1 e2
      subst e0 e1 e2
      exact ⟨pa, ia, pc, ic, ⟨P, sl, M⟩, rfl, hP, hM, bP, hR⟩
set_option maxRecDepth 100000 in
theorem trod_foot {fuel : Nat} {cs : List Value} {x : DataW H × List MemPlace} (h : DataW.trod enc Tryz.prog W base spare held fuel 29 cs = some x) (hz : ∀ n ∈ x.1.weights Tryz.prog 29, n ≤ reachBytes) :
    ∃ (ra wa : Option Addr) (rc wac : Nat) (F : Ft), cs = [.bool F.all, .slice ra F.rd.length rc, .slice wa F.wr.length wac] ∧ StrS W (.slice ra F.rd.length rc) F.rd ∧ StrS W (.slice wa F.wr.length wac) F.wr ∧ F.rd.length ≤ 8796093022207 ∧ F.wr.length ≤ 8796093022207 ∧ (∀ q ∈ F.rd, q.length ≤ 140737488351232) ∧ ∀ q ∈ F.wr, q.length ≤ 140737488351232 := by
  obtain ⟨ys, n, _, hx, hlen, hyl, hf⟩ := DataW.trod_struct Tryz.underlying29 h
  rw [show Tryz.prog.cellsOf 29 = 3 by kernel_rfl] at hlen
  match cs, hlen with
  | [u0, u1, u2], _ =>
    match ys, hyl with
    | [y0, y1, y2], _ =>
      have g0 : DataW.trod enc Tryz.prog W base spare held n 4 (([u0, u1, u2].drop 0).take (Tryz.prog.cellsOf 4)) = some y0 := hf 0 _ rfl
      rw [show Tryz.prog.cellsOf 4 = 1 by kernel_rfl] at g0
      have g1 : DataW.trod enc Tryz.prog W base spare held n 27 (([u0, u1, u2].drop 1).take (Tryz.prog.cellsOf 27)) = some y1 := hf 1 _ rfl
      rw [show Tryz.prog.cellsOf 27 = 1 by kernel_rfl] at g1
      have z1 : ∀ n ∈ y1.1.weights Tryz.prog 27, n ≤ reachBytes := fun n hn => hz n (by rw [hx]; simp only [DataW.weights, Tryz.underlying29, List.map_cons, List.map_nil, DataW.weightsEach, List.mem_append]; exact Or.inr (Or.inl hn))
      have g2 : DataW.trod enc Tryz.prog W base spare held n 27 (([u0, u1, u2].drop 2).take (Tryz.prog.cellsOf 27)) = some y2 := hf 2 _ rfl
      rw [show Tryz.prog.cellsOf 27 = 1 by kernel_rfl] at g2
      have z2 : ∀ n ∈ y2.1.weights Tryz.prog 27, n ≤ reachBytes := fun n hn => hz n (by rw [hx]; simp only [DataW.weights, Tryz.underlying29, List.map_cons, List.map_nil, DataW.weightsEach, List.mem_append]; exact Or.inr (Or.inr (Or.inl hn)))
      obtain ⟨al, e0, _⟩ := DataW.trod_bool Tryz.underlying4 g0
      obtain ⟨ra, rc, R, e1, hR, bR, qR⟩ := trod_strs g1 z1
      obtain ⟨wa, wc, Q, e2, hQ, bQ, qQ⟩ := trod_strs g2 z2
      simp at e0 e1 e2
      subst e0 e1 e2
      exact ⟨ra, wa, rc, wc, ⟨al, R, Q⟩, rfl, hR, hQ, bR, bQ, qR, qQ⟩
structure RunIn (W : World) (pa ia aa ra wa : Option Addr) (pc ic ac rc wac : Nat) (c : Cd) (A : List Vl) (F : Ft) : Prop where
  cP : CellsAt W (.slice pa c.p.length pc) c.p.length (intsL c.p)
  cI : CellsAt W (.slice ia c.l.length ic) c.l.length (insLs c.l)
  cA : CellsAt W (.slice aa A.length ac) A.length (vlLs A)
  cR : StrS W (.slice ra F.rd.length rc) F.rd
  cW : StrS W (.slice wa F.wr.length wac) F.wr
  lP : c.p.length ≤ 17592186044415
  lA : A.length ≤ 4398046511103
  lR : F.rd.length ≤ 8796093022207 ∧ F.wr.length ≤ 8796093022207
  nI : ∀ x ∈ c.l, InsN x
  nA : ∀ x ∈ A, VlN x
  sR : (∀ q ∈ F.rd, q.length ≤ 140737488351232) ∧ ∀ q ∈ F.wr, q.length ≤ 140737488351232
set_option maxRecDepth 100000 in
theorem trod_run {fuel : Nat} {cs : List Value} {x : DataW H × List MemPlace} (h : DataW.trod enc Tryz.prog W base spare held fuel 31 cs = some x) (hz : ∀ n ∈ x.1.weights Tryz.prog 31, n ≤ reachBytes) :
    ∃ (pa ia aa ra wa : Option Addr) (pc ic ac rc wac : Nat) (c : Cd) (A : List Vl) (F : Ft), cs = [.slice pa c.p.length pc, .int .i64 c.sl, .slice ia c.l.length ic, .slice aa A.length ac, .bool F.all, .slice ra F.rd.length rc, .slice wa F.wr.length wac] ∧ RunIn W pa ia aa ra wa pc ic ac rc wac c A F := by
  obtain ⟨ys, n, _, hx, hlen, hyl, hf⟩ := DataW.trod_struct Tryz.underlying31 h
  rw [show Tryz.prog.cellsOf 31 = 7 by kernel_rfl] at hlen
  match cs, hlen with
  | [u0, u1, u2, u3, u4, u5, u6], _ =>
    match ys, hyl with
    | [y0, y1, y2], _ =>
      have g0 : DataW.trod enc Tryz.prog W base spare held n 25 (([u0, u1, u2, u3, u4, u5, u6].drop 0).take (Tryz.prog.cellsOf 25)) = some y0 := hf 0 _ rfl
      rw [show Tryz.prog.cellsOf 25 = 3 by kernel_rfl] at g0
      have z0 : ∀ n ∈ y0.1.weights Tryz.prog 25, n ≤ reachBytes := fun n hn => hz n (by rw [hx]; simp only [DataW.weights, Tryz.underlying31, List.map_cons, List.map_nil, DataW.weightsEach, List.mem_append]; exact Or.inl hn)
      have g1 : DataW.trod enc Tryz.prog W base spare held n 26 (([u0, u1, u2, u3, u4, u5, u6].drop 3).take (Tryz.prog.cellsOf 26)) = some y1 := hf 1 _ rfl
      rw [show Tryz.prog.cellsOf 26 = 1 by kernel_rfl] at g1
      have z1 : ∀ n ∈ y1.1.weights Tryz.prog 26, n ≤ reachBytes := fun n hn => hz n (by rw [hx]; simp only [DataW.weights, Tryz.underlying31, List.map_cons, List.map_nil, DataW.weightsEach, List.mem_append]; exact Or.inr (Or.inl hn))
      have g2 : DataW.trod enc Tryz.prog W base spare held n 29 (([u0, u1, u2, u3, u4, u5, u6].drop 4).take (Tryz.prog.cellsOf 29)) = some y2 := hf 2 _ rfl
      rw [show Tryz.prog.cellsOf 29 = 3 by kernel_rfl] at g2
      have z2 : ∀ n ∈ y2.1.weights Tryz.prog 29, n ≤ reachBytes := fun n hn => hz n (by rw [hx]; simp only [DataW.weights, Tryz.underlying31, List.map_cons, List.map_nil, DataW.weightsEach, List.mem_append]; exact Or.inr (Or.inr (Or.inl hn)))
      obtain ⟨pa, ia, pc, ic, c, e0, a1, a2, a3, a4⟩ := trod_code g0 z0
      obtain ⟨aa, ac, A, e1, b1, b2, b3⟩ := trod_vls g1 z1
      obtain ⟨ra, wa, rc, wac, F, e2, c1, c2, c3, c4, c5, c6⟩ := trod_foot g2 z2
      simp at e0 e1 e2
      obtain ⟨rfl, rfl, rfl⟩ := e0
      subst e1
      obtain ⟨rfl, rfl, rfl⟩ := e2
      exact ⟨pa, ia, aa, ra, wa, pc, ic, ac, rc, wac, c, A, F, rfl, ⟨a1, a2, b1, c1, c2, a3, b2, ⟨c3, c4⟩, a4, b3, ⟨c5, c6⟩⟩⟩
set_option maxRecDepth 100000 in
theorem open_run {r : Reach} {b0 : Nat} {v : Value} {d : DataW H} {p : List MemPlace} (hv : Value.okWide Tryz.prog W r b0 31 v) (h : DataW.Trod enc Tryz.prog W base spare held 31 v d p) (hz : ∀ n ∈ d.weights Tryz.prog 31, n ≤ reachBytes) :
    ∃ (pa ia aa ra wa : Option Addr) (pc ic ac rc wac : Nat) (c : Cd) (A : List Vl) (F : Ft), v = .agg #[.slice pa c.p.length pc, .int .i64 c.sl, .slice ia c.l.length ic, .slice aa A.length ac, .bool F.all, .slice ra F.rd.length rc, .slice wa F.wr.length wac] ∧ RunIn W pa ia aa ra wa pc ic ac rc wac c A F := by
  obtain ⟨cs, rfl, hsz⟩ := okWide_struct Tryz.underlying31 hv
  obtain ⟨l⟩ := cs
  obtain ⟨fuel, hf⟩ := h
  obtain ⟨pa, ia, aa, ra, wa, pc, ic, ac, rc, wac, c, A, F, e, hr⟩ := trod_run (x := (d, p)) hf hz
  exact ⟨pa, ia, aa, ra, wa, pc, ic, ac, rc, wac, c, A, F, congrArg (fun l => Value.agg ⟨l⟩) e, hr⟩
set_option maxRecDepth 100000 in
theorem open_prs {r : Reach} {b0 : Nat} {v : Value} {d : DataW H} {p : List MemPlace} (hv : Value.okWide Tryz.prog W r b0 32 v) (h : DataW.Trod enc Tryz.prog W base spare held 32 v d p) (hz : ∀ n ∈ d.weights Tryz.prog 32, n ≤ reachBytes) :
    ∃ (sa : Option Addr) (sc : Nat) (M : List Pr), v = .slice sa M.length sc ∧ CellsAt W (.slice sa M.length sc) M.length (prLs M) ∧ M.length ≤ 2932031007402 ∧ ∀ x ∈ M, PrN x := by
  obtain ⟨a0, len0, cap0, rfl⟩ := okWide_slice Tryz.underlying32 hv
  obtain ⟨fuel, hf⟩ := h
  obtain ⟨a, c, M, e, h1, h2, h3⟩ := trod_prs (x := (d, p)) hf hz
  simp [Value.cells] at e
  obtain ⟨rfl, rfl, rfl⟩ := e
  exact ⟨_, _, M, rfl, h1, h2, h3⟩
end
theorem vargs_of {W : World} {pa ia aa sa ra wa : Option Addr} {pc ic ac sc rc wac : Nat} {c : Cd} {A : List Vl} {M : List Pr} {F : Ft} (h : RunIn W pa ia aa ra wa pc ic ac rc wac c A F) (hM : CellsAt W (.slice sa M.length sc) M.length (prLs M)) : VArgs W pa ia aa sa ra wa pc ic ac sc rc wac c A M F := ⟨h.cP, h.cI, h.cA, hM, h.cR, h.cW⟩
theorem vlim_of {W : World} {pa ia aa ra wa : Option Addr} {pc ic ac rc wac : Nat} {c : Cd} {A : List Vl} {M : List Pr} {F : Ft} (h : RunIn W pa ia aa ra wa pc ic ac rc wac c A F) (hM : M.length ≤ 2932031007402) (hn : ∀ x ∈ M, PrN x) : VLim c A M F := by
  have h1 := h.lP; have h2 := h.lA; have h3 := h.lR
  refine ⟨⟨by omega, by omega, by omega, by omega, by omega⟩, fun x hx => ?_, fun x hx => ?_, fun x hx => ?_, fun q hq => ?_, fun x hx => (h.nI x hx).1, fun x hx => (h.nA x hx).1, fun x hx => (hn x hx).2.1⟩
  · have := (h.nI x hx).2; omega
  · have := (h.nA x hx).2; omega
  · have := (hn x hx).1; have := (hn x hx).2.2; omega
  · rcases List.mem_append.1 hq with hq | hq
    · have := h.sR.1 q hq; omega
    · have := h.sR.2 q hq; omega
end Go.Proofs.YtnglaegofhpleaaGreatDoor
namespace Go.Proofs.YtnglaegofhpleaaGreatDoor
open Go.ChangeShapes Go.RowKit

theorem localLaw18 (pa ia aa ra wa : Option Addr) (pc ic ac rc wac : Nat) (c : Cd) (A : List Vl) (F : Ft) {W : World} (hr : RunIn W pa ia aa ra wa pc ic ac rc wac c A F) (sa : Option Addr) (sc : Nat) (M : List Pr) (hM : CellsAt W (.slice sa M.length sc) M.length (prLs M)) (hl : M.length ≤ 2932031007402) (hn : ∀ x ∈ M, PrN x) (ta : Option Addr) (tc : Nat) (U : List Pr) (hU : CellsAt W (.slice ta U.length tc) U.length (prLs U)) (hl2 : U.length ≤ 2932031007402) (hn2 : ∀ x ∈ U, PrN x) (hLB : LaidB W) :
    Calls Tryz.prog 6 #[.agg #[.slice pa c.p.length pc, .int .i64 c.sl, .slice ia c.l.length ic, .slice aa A.length ac, .bool F.all, .slice ra F.rd.length rc, .slice wa F.wr.length wac], .slice sa M.length sc, .slice ta U.length tc] W fun e w' => e = .returned (.bool true) ∧ Below W.heap.size W w' :=
  localWalk18 pa ia aa sa ta ra wa pc ic ac sc tc rc wac c A M U F (vargs_of hr hM) hU (vlim_of hr hl hn) (vlim_of hr hl2 hn2) hl2 hLB
end Go.Proofs.YtnglaegofhpleaaGreatDoor
