/- What the claim needs of: VmE, VmF, Shelf2, VmG, VmH, VmM, VmA, VmI. No conditions. -/
import Derived.Test.YtnglaegofhpleaaGreatDoorZs2
import Derived.Test.YtnglaegofhpleaaGreatDoorRows
import Derived.WalkKit
import Derived.WalkSpells
import Derived.WalkLawsBesides
import Derived.Lib.SlBytesRow
import Derived.Lib.Hide
import Derived.Lib.ParseIntBTie
import Derived.Lib.ItoaLen
import Derived.Shelf.Small.Strs
import Derived.Shelf.Small.Wraps
import Derived.Shelf.Strconv.Itoa0
import Derived.Shelf.Strconv.Itoa1
import Derived.Shelf.LaysM
import Derived.Shelf.Strconv.Itoa2
import Derived.Shelf.Strconv.Itoa3
import Derived.Shelf.Strconv.Itoa4
import Derived.Shelf.Strings.Fields
import Derived.Shelf.Slices.Turned
import Derived.Lib.SmallJoins
import Derived.Lib.AppendIntMem
import Derived.Deep.RegionHeld3
import Derived.Outline
import Derived.Deep.Cut
import Derived.Deep.CutRange
import Derived.Deep.DeepCutAuto
import Derived.Deep.RegionLaw
import Derived.Lib.Builder
import Derived.Lib.AppendStr
import Derived.Lib.UnsafeStr
import Derived.Laws.Externs
import Derived.Laws.AppendOwnNone
import Derived.Deep.DeepAppendWide
import Derived.Laws.RangeAny
import Derived.Lib.IndexLaws
import Derived.Lib.LaidTab
import Derived.Shelf.Spec.SlicesInsert
import Derived.Shelf.Spec.SlicesInsertGrow
import Derived.Shelf.Spec.SearchS
import Derived.Tactics
import Derived.Tactics2
import Derived.Defers
import Derived.Recover
import Derived.Laws.Pointers
import Derived.Deep.AppendLies
import Derived.Laws.CopyOwn
import Derived.Stop.LaidErr
import Derived.LaidMore
import Derived.Deep.Slices
import Derived.OpenShut
import Derived.ProofKit
import Derived.SizedLaws
import Derived.SliceStrings
import Derived.HandedShaped
import Derived.Shelf.Vars
namespace Go.Proofs.YtnglaegofhpleaaGreatDoor
open Go.RowKit

theorem Bx.c4 {b : Nat} {u0 u1 u2 u3 : Value} {T : TypeId} {W : World} (h : Bx b #[u0, u1, u2, u3] T W) : W.cell? ⟨b, 0, none⟩ = some u0 ∧ W.cell? ⟨b, 1, none⟩ = some u1 ∧ W.cell? ⟨b, 2, none⟩ = some u2 ∧ W.cell? ⟨b, 3, none⟩ = some u3 := ⟨h.cell 0, h.cell 1, h.cell 2, h.cell 3⟩
theorem Bx.c8 {b : Nat} {u0 u1 u2 u3 u4 u5 u6 u7 : Value} {T : TypeId} {W : World} (h : Bx b #[u0, u1, u2, u3, u4, u5, u6, u7] T W) : W.cell? ⟨b, 0, none⟩ = some u0 ∧ W.cell? ⟨b, 1, none⟩ = some u1 ∧ W.cell? ⟨b, 2, none⟩ = some u2 ∧ W.cell? ⟨b, 3, none⟩ = some u3 ∧ W.cell? ⟨b, 4, none⟩ = some u4 ∧ W.cell? ⟨b, 5, none⟩ = some u5 ∧ W.cell? ⟨b, 6, none⟩ = some u6 ∧ W.cell? ⟨b, 7, none⟩ = some u7 := ⟨h.cell 0, h.cell 1, h.cell 2, h.cell 3, h.cell 4, h.cell 5, h.cell 6, h.cell 7⟩
def p00 : Pr := ⟨[], v00⟩
def stpP (M : List Pr) (i : Nat) : Bool := keyB (M.getD i p00).key && (vaB (M.getD i p00).v && (decide (i = 0) || Op.bytesLess (M.getD (i - 1) p00).key (M.getD i p00).key))
def srtB (M : List Pr) : Bool := (List.range M.length).all (stpP M)
def absB (p : Pr) : Bool := decide (p.v.k = 0)
def stB (M : List Pr) : Bool := srtB M && !(M.any absB)

set_option maxRecDepth 100000 in
set_option maxHeartbeats 32000000 in
theorem sorted_any (a : Option Addr) (cap : Nat) (M : List Pr) (w : World) (hl : M.length ≤ 9000000000000) (hx : ∀ p ∈ M, p.key.length ≤ 9223372036854775807 ∧ p.v.s.length ≤ 9223372036854775807) (hM : CellsAt w (.slice a M.length cap) M.length (prLs M)) :
    Calls Tryz.prog 55 #[.slice a M.length cap] w fun e w' => e = .returned (.bool (srtB M)) ∧ Below w.heap.size w w' := by
  obtain ⟨R, hR⟩ : ∃ R, srtB M = R := ⟨_, rfl⟩
  rw [hR]
  have HR := Lib.hid hR; have HM := Lib.hid hM; have HX := Lib.hid hx; clear hR hM hx
  go_enter Tryz.func55, Tryz.ntmps55
  go_wp2
  go_loopw [7] (fun i wr => ∃ k : Nat, k ≤ M.length ∧ i = .int .i64 k ∧ Hid ((List.range k).all (stpP M) = true) ∧ Below w.heap.size w wr) (fun i _ => M.length - (intOf i).toNat)
  case atStart => exact ⟨0, Nat.zero_le _, by first | exact True.intro | rfl, Lib.hid rfl, Below.refl _ _⟩
  case round =>
    obtain ⟨k, hk, rfl, HQ, hB⟩ := hrel
    have HB := Lib.hid hB; clear hB
    by_cases hlt : k < M.length
    · have hlt' : (k : Int) < (M.length : Int) := by omega
      have hkb : (0 : Int) ≤ (k : Int) ∧ (k : Int) < (M.length : Int) := ⟨by omega, by omega⟩
      have hw1 : IntKind.i64.wrap ((k : Int) + 1) = (k : Int) + 1 := by rw [IntKind.wrap_i64]; omega
      obtain ⟨b, off, rfl, p0, p1, p2, p3⟩ := pr_cells (HM.out.below HB.out) hlt
      obtain ⟨m, hm⟩ : ∃ m, M[k] = m := ⟨_, rfl⟩
      rw [hm] at p0 p1 p2 p3
      obtain ⟨hmk, hml⟩ := HX.out _ (List.getElem_mem hlt)
      rw [hm] at hmk hml
      have HMK := Lib.hid (show M.getD k p00 = m by rw [getD_at hlt, hm]); clear hm
      have hal := (Below.refl wr.heap.size wr).alloc (Nat.le_refl _) (.cells #[.string (bs m.key), .int .i64 m.v.k, .int .i64 m.v.n, .string (bs m.v.s)] 55)
      have HXB := Lib.hid (Bx.new wr #[.string (bs m.key), .int .i64 m.v.k, .int .i64 m.v.n, .string (bs m.v.s)] 55)
      have HB := Lib.hid (btrans HB.out HB.out.size hal); clear hal
      go_upto_region 4 with (fail)
      generalize hW : wr.alloc (.cells #[.string (bs m.key), .int .i64 m.v.k, .int .i64 m.v.n, .string (bs m.v.s)] 55) = v1 at HXB HB ⊢
      clear hW p0 p1 p2 p3
      obtain ⟨kb, hkb⟩ : ∃ b, keyB m.key = b := ⟨_, rfl⟩
      obtain ⟨vb, hvb⟩ : ∃ b, vaB m.v = b := ⟨_, rfl⟩
      have HKB := Lib.hid hkb; have HVB := Lib.hid hvb; clear hkb hvb
      rcases k with _ | j
      · skip
        cases kb with
        | false =>
          have hs0 : Bx wr.heap.size #[.string (bs m.key), .int .i64 m.v.k, .int .i64 m.v.n, .string (bs m.v.s)] 55 v1.drew := HXB.out
          have HS0 := Lib.hid hs0; clear hs0
          go_wp2_with fail
          refine wp_region_held_drew (S := (fun w' => Bx wr.heap.size #[.string (bs m.key), .int .i64 m.v.k, .int .i64 m.v.n, .string (bs m.v.s)] 55 w')) (by kernel_rfl) ?_ (fun hHeld => ?_)
          · exact HS0.out
          have hb0 : Below v1.heap.size v1 v1.drew := (Below.refl v1.heap.size v1).drew
          refine tkY (i := 0) (v := ?vv1) 12 ?yy1 ?_
          case yy1 => intro w hSw; (try dsimp only at hSw); go_simp; (try with_reducible rfl)
          simp only [sA, sB, sC]
          refine tkY (i := 1) (v := ?vv2) 13 ?yy2 ?_
          case yy2 =>
            intro wq hSw
            obtain ⟨x0, x1, x2, x3⟩ := (hSw).c4
            clear hSw
            go_simp
            (try with_reducible rfl)
          simp only [sA, sB, sC]
          refine wpAnyH_ready (rs := [2]) (by kernel_rfl) (by simp) ?_
          refine (AllReadyH.cons rfl (fun K hK => ?_) AllReadyH.nil)
          go_simp
          (refine (KValid_any m.key hmk _).mono ?_; rw [HKB.out]; rintro er u1 ⟨rfl, hb1⟩)
          focus (try go_wp2_with fail)
          refine hK.out _ _ ?_ (fun hHeld => ?_)
          · exact hHeld.call hb1
          clear hK K
          (try simp only [Act.put, sA, sB, sC])
          have hb2 := btrans hb0 hb0.size hb1
          refine tkY (i := 3) (v := ?vv3) 15 ?yy3 ?_
          case yy3 => intro w hSw; (try dsimp only at hSw); go_simp; (try with_reducible rfl)
          simp only [sA, sB, sC]
          refine tkY (i := 4) (v := ?vv4) 16 ?yy4 ?_
          case yy4 => intro w hSw; (try dsimp only at hSw); go_simp; (try with_reducible rfl)
          simp only [sA, sB, sC]
          refine tkZ (i := 5) 17 ?_
          simp only [sA, sB, sC]
          refine tkZ (i := 6) 18 ?_
          simp only [sA, sB, sC]
          refine tkZ (i := 7) 19 ?_
          simp only [sA, sB, sC]
          refine tkZ (i := 8) 20 ?_
          simp only [sA, sB, sC]
          refine tkY (i := 9) (v := ?vv5) 21 ?yy5 ?_
          case yy5 => intro w hSw; (try dsimp only at hSw); go_simp; (try with_reducible rfl)
          simp only [sA, sB, sC]
          refine tkY (i := 10) (v := ?vv6) 22 ?yy6 ?_
          case yy6 => intro w hSw; (try dsimp only at hSw); go_simp; (try with_reducible rfl)
          simp only [sA, sB, sC]
          refine tkZ (i := 11) 23 ?_
          simp only [sA, sB, sC]
          refine tkZ (i := 12) 24 ?_
          simp only [sA, sB, sC]
          refine tkZ (i := 13) 25 ?_
          simp only [sA, sB, sC]
          refine tkZ (i := 14) 26 ?_
          simp only [sA, sB, sC]
          refine tkZ (i := 15) 27 ?_
          simp only [sA, sB, sC]
          refine tkZ (i := 16) 28 ?_
          simp only [sA, sB, sC]
          refine tkZ (i := 17) 29 ?_
          simp only [sA, sB, sC]
          refine tkZ (i := 18) 30 ?_
          simp only [sA, sB, sC]
          refine tkZ (i := 19) 31 ?_
          simp only [sA, sB, sC]
          refine tkZ (i := 20) 32 ?_
          simp only [sA, sB, sC]
          refine tkZ (i := 21) 33 ?_
          simp only [sA, sB, sC]
          refine tkZ (i := 22) 34 ?_
          simp only [sA, sB, sC]
          refine tkZ (i := 23) 35 ?_
          simp only [sA, sB, sC]
          refine tkY (i := 24) (v := ?vv7) 36 ?yy7 ?_
          case yy7 => intro w hSw; (try dsimp only at hSw); go_simp; (try with_reducible rfl)
          simp only [sA, sB, sC]
          refine wpAnyH_done (by kernel_rfl) ?_ _
          have HB := Lib.hid (btrans HB.out HB.out.size hb2)
          have HF := Lib.hid (show R = false from HR.out.symm.trans (rng_bad hlt (show stpP M 0 = false by unfold stpP; rw [HMK.out, HKB.out]; rfl)))
          go_wp2
          go_ret
          exact ⟨by rw [HF.out] <;> rfl, HB.out⟩
        | true =>
          cases vb with
          | false =>
            have hs0 : Bx wr.heap.size #[.string (bs m.key), .int .i64 m.v.k, .int .i64 m.v.n, .string (bs m.v.s)] 55 v1.drew := HXB.out
            have HS0 := Lib.hid hs0; clear hs0
            go_wp2_with fail
            refine wp_region_held_drew (S := (fun w' => Bx wr.heap.size #[.string (bs m.key), .int .i64 m.v.k, .int .i64 m.v.n, .string (bs m.v.s)] 55 w')) (by kernel_rfl) ?_ (fun hHeld => ?_)
            · exact HS0.out
            have hb0 : Below v1.heap.size v1 v1.drew := (Below.refl v1.heap.size v1).drew
            refine tkY (i := 0) (v := ?vv8) 12 ?yy8 ?_
            case yy8 => intro w hSw; (try dsimp only at hSw); go_simp; (try with_reducible rfl)
            simp only [sA, sB, sC]
            refine tkY (i := 1) (v := ?vv9) 13 ?yy9 ?_
            case yy9 =>
              intro wq hSw
              obtain ⟨x0, x1, x2, x3⟩ := (hSw).c4
              clear hSw
              go_simp
              (try with_reducible rfl)
            simp only [sA, sB, sC]
            refine wpAnyH_ready (rs := [2]) (by kernel_rfl) (by simp) ?_
            refine (AllReadyH.cons rfl (fun K hK => ?_) AllReadyH.nil)
            go_simp
            (refine (KValid_any m.key hmk _).mono ?_; rw [HKB.out]; rintro er u1 ⟨rfl, hb1⟩)
            focus (try go_wp2_with fail)
            refine hK.out _ _ ?_ (fun hHeld => ?_)
            · exact hHeld.call hb1
            clear hK K
            (try simp only [Act.put, sA, sB, sC])
            have hb2 := btrans hb0 hb0.size hb1
            refine tkY (i := 3) (v := ?vv10) 15 ?yy10 ?_
            case yy10 => intro w hSw; (try dsimp only at hSw); go_simp; (try with_reducible rfl)
            simp only [sA, sB, sC]
            refine tkY (i := 4) (v := ?vv11) 16 ?yy11 ?_
            case yy11 => intro w hSw; (try dsimp only at hSw); go_simp; (try with_reducible rfl)
            simp only [sA, sB, sC]
            refine tkY (i := 5) (v := ?vv12) 17 ?yy12 ?_
            case yy12 => intro w hSw; (try dsimp only at hSw); go_simp; (try with_reducible rfl)
            simp only [sA, sB, sC]
            refine tkY (i := 6) (v := ?vv13) 18 ?yy13 ?_
            case yy13 =>
              intro wq hSw
              obtain ⟨x0, x1, x2, x3⟩ := (hSw).c4
              clear hSw
              go_simp
              (try with_reducible rfl)
            simp only [sA, sB, sC]
            refine wpAnyH_ready (rs := [7]) (by kernel_rfl) (by simp) ?_
            refine (AllReadyH.cons rfl (fun K hK => ?_) AllReadyH.nil)
            go_simp
            (refine (VValid_any m.v hml _).mono ?_; rw [HVB.out]; rintro er u2 ⟨rfl, hb3⟩)
            focus (try go_wp2_with fail)
            refine hK.out _ _ ?_ (fun hHeld => ?_)
            · exact hHeld.call hb3
            clear hK K
            (try simp only [Act.put, sA, sB, sC])
            have hb4 := btrans hb2 hb2.size hb3
            refine tkY (i := 8) (v := ?vv14) 20 ?yy14 ?_
            case yy14 => intro w hSw; (try dsimp only at hSw); go_simp; (try with_reducible rfl)
            simp only [sA, sB, sC]
            refine tkY (i := 9) (v := ?vv15) 21 ?yy15 ?_
            case yy15 => intro w hSw; (try dsimp only at hSw); go_simp; (try with_reducible rfl)
            simp only [sA, sB, sC]
            refine tkY (i := 10) (v := ?vv16) 22 ?yy16 ?_
            case yy16 => intro w hSw; (try dsimp only at hSw); go_simp; (try with_reducible rfl)
            simp only [sA, sB, sC]
            refine tkZ (i := 11) 23 ?_
            simp only [sA, sB, sC]
            refine tkZ (i := 12) 24 ?_
            simp only [sA, sB, sC]
            refine tkZ (i := 13) 25 ?_
            simp only [sA, sB, sC]
            refine tkZ (i := 14) 26 ?_
            simp only [sA, sB, sC]
            refine tkZ (i := 15) 27 ?_
            simp only [sA, sB, sC]
            refine tkZ (i := 16) 28 ?_
            simp only [sA, sB, sC]
            refine tkZ (i := 17) 29 ?_
            simp only [sA, sB, sC]
            refine tkZ (i := 18) 30 ?_
            simp only [sA, sB, sC]
            refine tkZ (i := 19) 31 ?_
            simp only [sA, sB, sC]
            refine tkZ (i := 20) 32 ?_
            simp only [sA, sB, sC]
            refine tkZ (i := 21) 33 ?_
            simp only [sA, sB, sC]
            refine tkZ (i := 22) 34 ?_
            simp only [sA, sB, sC]
            refine tkZ (i := 23) 35 ?_
            simp only [sA, sB, sC]
            refine tkY (i := 24) (v := ?vv17) 36 ?yy17 ?_
            case yy17 => intro w hSw; (try dsimp only at hSw); go_simp; (try with_reducible rfl)
            simp only [sA, sB, sC]
            refine wpAnyH_done (by kernel_rfl) ?_ _
            have HB := Lib.hid (btrans HB.out HB.out.size hb4)
            have HF := Lib.hid (show R = false from HR.out.symm.trans (rng_bad hlt (show stpP M 0 = false by unfold stpP; rw [HMK.out, HKB.out, HVB.out]; rfl)))
            go_wp2
            go_ret
            exact ⟨by rw [HF.out] <;> rfl, HB.out⟩
          | true =>
            have hs0 : Bx wr.heap.size #[.string (bs m.key), .int .i64 m.v.k, .int .i64 m.v.n, .string (bs m.v.s)] 55 v1.drew := HXB.out
            have HS0 := Lib.hid hs0; clear hs0
            go_wp2_with fail
            refine wp_region_held_drew (S := (fun w' => Bx wr.heap.size #[.string (bs m.key), .int .i64 m.v.k, .int .i64 m.v.n, .string (bs m.v.s)] 55 w')) (by kernel_rfl) ?_ (fun hHeld => ?_)
            · exact HS0.out
            have hb0 : Below v1.heap.size v1 v1.drew := (Below.refl v1.heap.size v1).drew
            refine tkY (i := 0) (v := ?vv18) 12 ?yy18 ?_
            case yy18 => intro w hSw; (try dsimp only at hSw); go_simp; (try with_reducible rfl)
            simp only [sA, sB, sC]
            refine tkY (i := 1) (v := ?vv19) 13 ?yy19 ?_
            case yy19 =>
              intro wq hSw
              obtain ⟨x0, x1, x2, x3⟩ := (hSw).c4
              clear hSw
              go_simp
              (try with_reducible rfl)
            simp only [sA, sB, sC]
            refine wpAnyH_ready (rs := [2]) (by kernel_rfl) (by simp) ?_
            refine (AllReadyH.cons rfl (fun K hK => ?_) AllReadyH.nil)
            go_simp
            (refine (KValid_any m.key hmk _).mono ?_; rw [HKB.out]; rintro er u1 ⟨rfl, hb1⟩)
            focus (try go_wp2_with fail)
            refine hK.out _ _ ?_ (fun hHeld => ?_)
            · exact hHeld.call hb1
            clear hK K
            (try simp only [Act.put, sA, sB, sC])
            have hb2 := btrans hb0 hb0.size hb1
            refine tkY (i := 3) (v := ?vv20) 15 ?yy20 ?_
            case yy20 => intro w hSw; (try dsimp only at hSw); go_simp; (try with_reducible rfl)
            simp only [sA, sB, sC]
            refine tkY (i := 4) (v := ?vv21) 16 ?yy21 ?_
            case yy21 => intro w hSw; (try dsimp only at hSw); go_simp; (try with_reducible rfl)
            simp only [sA, sB, sC]
            refine tkY (i := 5) (v := ?vv22) 17 ?yy22 ?_
            case yy22 => intro w hSw; (try dsimp only at hSw); go_simp; (try with_reducible rfl)
            simp only [sA, sB, sC]
            refine tkY (i := 6) (v := ?vv23) 18 ?yy23 ?_
            case yy23 =>
              intro wq hSw
              obtain ⟨x0, x1, x2, x3⟩ := (hSw).c4
              clear hSw
              go_simp
              (try with_reducible rfl)
            simp only [sA, sB, sC]
            refine wpAnyH_ready (rs := [7]) (by kernel_rfl) (by simp) ?_
            refine (AllReadyH.cons rfl (fun K hK => ?_) AllReadyH.nil)
            go_simp
            (refine (VValid_any m.v hml _).mono ?_; rw [HVB.out]; rintro er u2 ⟨rfl, hb3⟩)
            focus (try go_wp2_with fail)
            refine hK.out _ _ ?_ (fun hHeld => ?_)
            · exact hHeld.call hb3
            clear hK K
            (try simp only [Act.put, sA, sB, sC])
            have hb4 := btrans hb2 hb2.size hb3
            refine tkY (i := 8) (v := ?vv24) 20 ?yy24 ?_
            case yy24 => intro w hSw; (try dsimp only at hSw); go_simp; (try with_reducible rfl)
            simp only [sA, sB, sC]
            refine tkY (i := 9) (v := ?vv25) 21 ?yy25 ?_
            case yy25 => intro w hSw; (try dsimp only at hSw); go_simp; (try with_reducible rfl)
            simp only [sA, sB, sC]
            refine tkY (i := 10) (v := ?vv26) 22 ?yy26 ?_
            case yy26 => intro w hSw; (try dsimp only at hSw); go_simp; (try with_reducible rfl)
            simp only [sA, sB, sC]
            refine tkY (i := 11) (v := ?vv27) 23 ?yy27 ?_
            case yy27 => intro w hSw; (try dsimp only at hSw); go_simp; (try with_reducible rfl)
            simp only [sA, sB, sC]
            refine tkY (i := 12) (v := ?vv28) 24 ?yy28 ?_
            case yy28 => intro w hSw; (try dsimp only at hSw); go_simp; (try with_reducible rfl)
            simp only [sA, sB, sC]
            refine tkY (i := 13) (v := ?vv29) 25 ?yy29 ?_
            case yy29 => intro w hSw; (try dsimp only at hSw); go_simp; (try with_reducible rfl)
            simp only [sA, sB, sC]
            refine tkZ (i := 14) 26 ?_
            simp only [sA, sB, sC]
            refine tkZ (i := 15) 27 ?_
            simp only [sA, sB, sC]
            refine tkZ (i := 16) 28 ?_
            simp only [sA, sB, sC]
            refine tkZ (i := 17) 29 ?_
            simp only [sA, sB, sC]
            refine tkZ (i := 18) 30 ?_
            simp only [sA, sB, sC]
            refine tkZ (i := 19) 31 ?_
            simp only [sA, sB, sC]
            refine tkZ (i := 20) 32 ?_
            simp only [sA, sB, sC]
            refine tkZ (i := 21) 33 ?_
            simp only [sA, sB, sC]
            refine tkZ (i := 22) 34 ?_
            simp only [sA, sB, sC]
            refine tkY (i := 23) (v := ?vv30) 35 ?yy30 ?_
            case yy30 => intro w hSw; (try dsimp only at hSw); go_simp; (try with_reducible rfl)
            simp only [sA, sB, sC]
            refine tkY (i := 24) (v := ?vv31) 36 ?yy31 ?_
            case yy31 => intro w hSw; (try dsimp only at hSw); go_simp; (try with_reducible rfl)
            simp only [sA, sB, sC]
            refine wpAnyH_done (by kernel_rfl) ?_ _
            have HB := Lib.hid (btrans HB.out HB.out.size hb4)
            have HN := Lib.hid (rng_step HQ.out (show stpP M 0 = true by unfold stpP; rw [HMK.out, HKB.out, HVB.out]; rfl))
            go_wp2
            go_roundw
            case rel => exact ⟨1, by omega, by go_num, HN, HB.out⟩
            case measure => simp [intOf]; omega
      have hj : j < M.length := by omega
      obtain ⟨b2, off2, hbe, q0, -⟩ := pr_cells (HM.out.below HB.out) hj
      cases hbe
      obtain ⟨m2, hm2⟩ : ∃ m, M[j] = m := ⟨_, rfl⟩
      rw [hm2] at q0
      have HMJ := Lib.hid (show M.getD j p00 = m2 by rw [getD_at hj, hm2]); clear hm2
      have hwj2 : IntKind.i64.wrap ((j : Int) + 1 - 1) = (j : Int) := by rw [IntKind.wrap_i64]; omega
      have hwj3 : IntKind.i64.wrap (j : Int) = (j : Int) := by rw [IntKind.wrap_i64]; omega
      have hgt2 : (0 : Int) < (j : Int) + 1 := by omega
      have hj0 : (0 : Int) ≤ (j : Int) := by omega
      have hj' : (j : Int) < (M.length : Int) := by omega
      obtain ⟨lb, hlb⟩ : ∃ b, Op.bytesLess m2.key m.key = b := ⟨_, rfl⟩
      have HLB := Lib.hid hlb
      cases kb with
      | false =>
        have hs0 : Bx wr.heap.size #[.string (bs m.key), .int .i64 m.v.k, .int .i64 m.v.n, .string (bs m.v.s)] 55 v1.drew ∧ v1.drew.cell? ⟨b, off + j * 4, none⟩ = some (.string (bs m2.key)) := ⟨HXB.out, q0⟩
        have HS0 := Lib.hid hs0; clear hs0
        go_wp2_with fail
        refine wp_region_held_drew (S := (fun w' => Bx wr.heap.size #[.string (bs m.key), .int .i64 m.v.k, .int .i64 m.v.n, .string (bs m.v.s)] 55 w' ∧ w'.cell? ⟨b, off + j * 4, none⟩ = some (.string (bs m2.key)))) (by kernel_rfl) ?_ (fun hHeld => ?_)
        · exact HS0.out
        have hb0 : Below v1.heap.size v1 v1.drew := (Below.refl v1.heap.size v1).drew
        refine tkY (i := 0) (v := ?vv32) 12 ?yy32 ?_
        case yy32 => intro w hSw; (try dsimp only at hSw); go_simp; (try with_reducible rfl)
        simp only [sA, sB, sC]
        refine tkY (i := 1) (v := ?vv33) 13 ?yy33 ?_
        case yy33 =>
          intro wq hSw
          obtain ⟨x0, x1, x2, x3⟩ := (hSw.1).c4
          clear hSw
          go_simp
          (try with_reducible rfl)
        simp only [sA, sB, sC]
        refine wpAnyH_ready (rs := [2]) (by kernel_rfl) (by simp) ?_
        refine (AllReadyH.cons rfl (fun K hK => ?_) AllReadyH.nil)
        go_simp
        (refine (KValid_any m.key hmk _).mono ?_; rw [HKB.out]; rintro er u1 ⟨rfl, hb1⟩)
        focus (try go_wp2_with fail)
        refine hK.out _ _ ?_ (fun hHeld => ?_)
        · exact ⟨hHeld.1.call hb1, cell1_below hHeld.2 hb1⟩
        clear hK K
        (try simp only [Act.put, sA, sB, sC])
        have hb2 := btrans hb0 hb0.size hb1
        refine tkY (i := 3) (v := ?vv34) 15 ?yy34 ?_
        case yy34 => intro w hSw; (try dsimp only at hSw); go_simp; (try with_reducible rfl)
        simp only [sA, sB, sC]
        refine tkY (i := 4) (v := ?vv35) 16 ?yy35 ?_
        case yy35 => intro w hSw; (try dsimp only at hSw); go_simp; (try with_reducible rfl)
        simp only [sA, sB, sC]
        refine tkZ (i := 5) 17 ?_
        simp only [sA, sB, sC]
        refine tkZ (i := 6) 18 ?_
        simp only [sA, sB, sC]
        refine tkZ (i := 7) 19 ?_
        simp only [sA, sB, sC]
        refine tkZ (i := 8) 20 ?_
        simp only [sA, sB, sC]
        refine tkY (i := 9) (v := ?vv36) 21 ?yy36 ?_
        case yy36 => intro w hSw; (try dsimp only at hSw); go_simp; (try with_reducible rfl)
        simp only [sA, sB, sC]
        refine tkY (i := 10) (v := ?vv37) 22 ?yy37 ?_
        case yy37 => intro w hSw; (try dsimp only at hSw); go_simp; (try with_reducible rfl)
        simp only [sA, sB, sC]
        refine tkZ (i := 11) 23 ?_
        simp only [sA, sB, sC]
        refine tkZ (i := 12) 24 ?_
        simp only [sA, sB, sC]
        refine tkZ (i := 13) 25 ?_
        simp only [sA, sB, sC]
        refine tkZ (i := 14) 26 ?_
        simp only [sA, sB, sC]
        refine tkZ (i := 15) 27 ?_
        simp only [sA, sB, sC]
        refine tkZ (i := 16) 28 ?_
        simp only [sA, sB, sC]
        refine tkZ (i := 17) 29 ?_
        simp only [sA, sB, sC]
        refine tkZ (i := 18) 30 ?_
        simp only [sA, sB, sC]
        refine tkZ (i := 19) 31 ?_
        simp only [sA, sB, sC]
        refine tkZ (i := 20) 32 ?_
        simp only [sA, sB, sC]
        refine tkZ (i := 21) 33 ?_
        simp only [sA, sB, sC]
        refine tkZ (i := 22) 34 ?_
        simp only [sA, sB, sC]
        refine tkZ (i := 23) 35 ?_
        simp only [sA, sB, sC]
        refine tkY (i := 24) (v := ?vv38) 36 ?yy38 ?_
        case yy38 => intro w hSw; (try dsimp only at hSw); go_simp; (try with_reducible rfl)
        simp only [sA, sB, sC]
        refine wpAnyH_done (by kernel_rfl) ?_ _
        have HB := Lib.hid (btrans HB.out HB.out.size hb2)
        have HF := Lib.hid (show R = false from HR.out.symm.trans (rng_bad hlt (show stpP M (j + 1) = false by unfold stpP; rw [HMK.out, HKB.out]; rfl)))
        go_wp2
        go_ret
        exact ⟨by rw [HF.out] <;> rfl, HB.out⟩
      | true =>
        cases vb with
        | false =>
          have hs0 : Bx wr.heap.size #[.string (bs m.key), .int .i64 m.v.k, .int .i64 m.v.n, .string (bs m.v.s)] 55 v1.drew ∧ v1.drew.cell? ⟨b, off + j * 4, none⟩ = some (.string (bs m2.key)) := ⟨HXB.out, q0⟩
          have HS0 := Lib.hid hs0; clear hs0
          go_wp2_with fail
          refine wp_region_held_drew (S := (fun w' => Bx wr.heap.size #[.string (bs m.key), .int .i64 m.v.k, .int .i64 m.v.n, .string (bs m.v.s)] 55 w' ∧ w'.cell? ⟨b, off + j * 4, none⟩ = some (.string (bs m2.key)))) (by kernel_rfl) ?_ (fun hHeld => ?_)
          · exact HS0.out
          have hb0 : Below v1.heap.size v1 v1.drew := (Below.refl v1.heap.size v1).drew
          refine tkY (i := 0) (v := ?vv39) 12 ?yy39 ?_
          case yy39 => intro w hSw; (try dsimp only at hSw); go_simp; (try with_reducible rfl)
          simp only [sA, sB, sC]
          refine tkY (i := 1) (v := ?vv40) 13 ?yy40 ?_
          case yy40 =>
            intro wq hSw
            obtain ⟨x0, x1, x2, x3⟩ := (hSw.1).c4
            clear hSw
            go_simp
            (try with_reducible rfl)
          simp only [sA, sB, sC]
          refine wpAnyH_ready (rs := [2]) (by kernel_rfl) (by simp) ?_
          refine (AllReadyH.cons rfl (fun K hK => ?_) AllReadyH.nil)
          go_simp
          (refine (KValid_any m.key hmk _).mono ?_; rw [HKB.out]; rintro er u1 ⟨rfl, hb1⟩)
          focus (try go_wp2_with fail)
          refine hK.out _ _ ?_ (fun hHeld => ?_)
          · exact ⟨hHeld.1.call hb1, cell1_below hHeld.2 hb1⟩
          clear hK K
          (try simp only [Act.put, sA, sB, sC])
          have hb2 := btrans hb0 hb0.size hb1
          refine tkY (i := 3) (v := ?vv41) 15 ?yy41 ?_
          case yy41 => intro w hSw; (try dsimp only at hSw); go_simp; (try with_reducible rfl)
          simp only [sA, sB, sC]
          refine tkY (i := 4) (v := ?vv42) 16 ?yy42 ?_
          case yy42 => intro w hSw; (try dsimp only at hSw); go_simp; (try with_reducible rfl)
          simp only [sA, sB, sC]
          refine tkY (i := 5) (v := ?vv43) 17 ?yy43 ?_
          case yy43 => intro w hSw; (try dsimp only at hSw); go_simp; (try with_reducible rfl)
          simp only [sA, sB, sC]
          refine tkY (i := 6) (v := ?vv44) 18 ?yy44 ?_
          case yy44 =>
            intro wq hSw
            obtain ⟨x0, x1, x2, x3⟩ := (hSw.1).c4
            clear hSw
            go_simp
            (try with_reducible rfl)
          simp only [sA, sB, sC]
          refine wpAnyH_ready (rs := [7]) (by kernel_rfl) (by simp) ?_
          refine (AllReadyH.cons rfl (fun K hK => ?_) AllReadyH.nil)
          go_simp
          (refine (VValid_any m.v hml _).mono ?_; rw [HVB.out]; rintro er u2 ⟨rfl, hb3⟩)
          focus (try go_wp2_with fail)
          refine hK.out _ _ ?_ (fun hHeld => ?_)
          · exact ⟨hHeld.1.call hb3, cell1_below hHeld.2 hb3⟩
          clear hK K
          (try simp only [Act.put, sA, sB, sC])
          have hb4 := btrans hb2 hb2.size hb3
          refine tkY (i := 8) (v := ?vv45) 20 ?yy45 ?_
          case yy45 => intro w hSw; (try dsimp only at hSw); go_simp; (try with_reducible rfl)
          simp only [sA, sB, sC]
          refine tkY (i := 9) (v := ?vv46) 21 ?yy46 ?_
          case yy46 => intro w hSw; (try dsimp only at hSw); go_simp; (try with_reducible rfl)
          simp only [sA, sB, sC]
          refine tkY (i := 10) (v := ?vv47) 22 ?yy47 ?_
          case yy47 => intro w hSw; (try dsimp only at hSw); go_simp; (try with_reducible rfl)
          simp only [sA, sB, sC]
          refine tkZ (i := 11) 23 ?_
          simp only [sA, sB, sC]
          refine tkZ (i := 12) 24 ?_
          simp only [sA, sB, sC]
          refine tkZ (i := 13) 25 ?_
          simp only [sA, sB, sC]
          refine tkZ (i := 14) 26 ?_
          simp only [sA, sB, sC]
          refine tkZ (i := 15) 27 ?_
          simp only [sA, sB, sC]
          refine tkZ (i := 16) 28 ?_
          simp only [sA, sB, sC]
          refine tkZ (i := 17) 29 ?_
          simp only [sA, sB, sC]
          refine tkZ (i := 18) 30 ?_
          simp only [sA, sB, sC]
          refine tkZ (i := 19) 31 ?_
          simp only [sA, sB, sC]
          refine tkZ (i := 20) 32 ?_
          simp only [sA, sB, sC]
          refine tkZ (i := 21) 33 ?_
          simp only [sA, sB, sC]
          refine tkZ (i := 22) 34 ?_
          simp only [sA, sB, sC]
          refine tkZ (i := 23) 35 ?_
          simp only [sA, sB, sC]
          refine tkY (i := 24) (v := ?vv48) 36 ?yy48 ?_
          case yy48 => intro w hSw; (try dsimp only at hSw); go_simp; (try with_reducible rfl)
          simp only [sA, sB, sC]
          refine wpAnyH_done (by kernel_rfl) ?_ _
          have HB := Lib.hid (btrans HB.out HB.out.size hb4)
          have HF := Lib.hid (show R = false from HR.out.symm.trans (rng_bad hlt (show stpP M (j + 1) = false by unfold stpP; rw [HMK.out, HKB.out, HVB.out]; rfl)))
          go_wp2
          go_ret
          exact ⟨by rw [HF.out] <;> rfl, HB.out⟩
        | true =>
          cases lb with
          | true =>
            have hs0 : Bx wr.heap.size #[.string (bs m.key), .int .i64 m.v.k, .int .i64 m.v.n, .string (bs m.v.s)] 55 v1.drew ∧ v1.drew.cell? ⟨b, off + j * 4, none⟩ = some (.string (bs m2.key)) := ⟨HXB.out, q0⟩
            have HS0 := Lib.hid hs0; clear hs0
            go_wp2_with fail
            refine wp_region_held_drew (S := (fun w' => Bx wr.heap.size #[.string (bs m.key), .int .i64 m.v.k, .int .i64 m.v.n, .string (bs m.v.s)] 55 w' ∧ w'.cell? ⟨b, off + j * 4, none⟩ = some (.string (bs m2.key)))) (by kernel_rfl) ?_ (fun hHeld => ?_)
            · exact HS0.out
            have hb0 : Below v1.heap.size v1 v1.drew := (Below.refl v1.heap.size v1).drew
            refine tkY (i := 0) (v := ?vv49) 12 ?yy49 ?_
            case yy49 => intro w hSw; (try dsimp only at hSw); go_simp; (try with_reducible rfl)
            simp only [sA, sB, sC]
            refine tkY (i := 1) (v := ?vv50) 13 ?yy50 ?_
            case yy50 =>
              intro wq hSw
              obtain ⟨x0, x1, x2, x3⟩ := (hSw.1).c4
              clear hSw
              go_simp
              (try with_reducible rfl)
            simp only [sA, sB, sC]
            refine wpAnyH_ready (rs := [2]) (by kernel_rfl) (by simp) ?_
            refine (AllReadyH.cons rfl (fun K hK => ?_) AllReadyH.nil)
            go_simp
            (refine (KValid_any m.key hmk _).mono ?_; rw [HKB.out]; rintro er u1 ⟨rfl, hb1⟩)
            focus (try go_wp2_with fail)
            refine hK.out _ _ ?_ (fun hHeld => ?_)
            · exact ⟨hHeld.1.call hb1, cell1_below hHeld.2 hb1⟩
            clear hK K
            (try simp only [Act.put, sA, sB, sC])
            have hb2 := btrans hb0 hb0.size hb1
            refine tkY (i := 3) (v := ?vv51) 15 ?yy51 ?_
            case yy51 => intro w hSw; (try dsimp only at hSw); go_simp; (try with_reducible rfl)
            simp only [sA, sB, sC]
            refine tkY (i := 4) (v := ?vv52) 16 ?yy52 ?_
            case yy52 => intro w hSw; (try dsimp only at hSw); go_simp; (try with_reducible rfl)
            simp only [sA, sB, sC]
            refine tkY (i := 5) (v := ?vv53) 17 ?yy53 ?_
            case yy53 => intro w hSw; (try dsimp only at hSw); go_simp; (try with_reducible rfl)
            simp only [sA, sB, sC]
            refine tkY (i := 6) (v := ?vv54) 18 ?yy54 ?_
            case yy54 =>
              intro wq hSw
              obtain ⟨x0, x1, x2, x3⟩ := (hSw.1).c4
              clear hSw
              go_simp
              (try with_reducible rfl)
            simp only [sA, sB, sC]
            refine wpAnyH_ready (rs := [7]) (by kernel_rfl) (by simp) ?_
            refine (AllReadyH.cons rfl (fun K hK => ?_) AllReadyH.nil)
            go_simp
            (refine (VValid_any m.v hml _).mono ?_; rw [HVB.out]; rintro er u2 ⟨rfl, hb3⟩)
            focus (try go_wp2_with fail)
            refine hK.out _ _ ?_ (fun hHeld => ?_)
            · exact ⟨hHeld.1.call hb3, cell1_below hHeld.2 hb3⟩
            clear hK K
            (try simp only [Act.put, sA, sB, sC])
            have hb4 := btrans hb2 hb2.size hb3
            refine tkY (i := 8) (v := ?vv55) 20 ?yy55 ?_
            case yy55 => intro w hSw; (try dsimp only at hSw); go_simp; (try with_reducible rfl)
            simp only [sA, sB, sC]
            refine tkY (i := 9) (v := ?vv56) 21 ?yy56 ?_
            case yy56 => intro w hSw; (try dsimp only at hSw); go_simp; (try with_reducible rfl)
            simp only [sA, sB, sC]
            refine tkY (i := 10) (v := ?vv57) 22 ?yy57 ?_
            case yy57 => intro w hSw; (try dsimp only at hSw); go_simp; (try with_reducible rfl)
            simp only [sA, sB, sC]
            refine tkY (i := 11) (v := ?vv58) 23 ?yy58 ?_
            case yy58 => intro w hSw; (try dsimp only at hSw); go_simp; (try with_reducible rfl)
            simp only [sA, sB, sC]
            refine tkY (i := 12) (v := ?vv59) 24 ?yy59 ?_
            case yy59 => intro w hSw; (try dsimp only at hSw); go_simp; (try with_reducible rfl)
            simp only [sA, sB, sC]
            refine tkY (i := 13) (v := ?vv60) 25 ?yy60 ?_
            case yy60 => intro w hSw; (try dsimp only at hSw); go_simp; (try with_reducible rfl)
            simp only [sA, sB, sC]
            refine tkY (i := 14) (v := ?vv61) 26 ?yy61 ?_
            case yy61 => intro w hSw; (try dsimp only at hSw); go_simp; (try with_reducible rfl)
            simp only [sA, sB, sC]
            refine tkY (i := 15) (v := ?vv62) 27 ?yy62 ?_
            case yy62 => intro w hSw; (try dsimp only at hSw); go_simp; (try with_reducible rfl)
            simp only [sA, sB, sC]
            refine tkY (i := 16) (v := ?vv63) 28 ?yy63 ?_
            case yy63 => intro w hSw; (try dsimp only at hSw); go_simp; (try with_reducible rfl)
            simp only [sA, sB, sC]
            refine tkY (i := 17) (v := ?vv64) 29 ?yy64 ?_
            case yy64 => intro w hSw; (try dsimp only at hSw); go_simp; (try with_reducible rfl)
            simp only [sA, sB, sC]
            refine tkY (i := 18) (v := ?vv65) 30 ?yy65 ?_
            case yy65 => intro w hSw; (try dsimp only at hSw); go_simp; (try with_reducible rfl)
            simp only [sA, sB, sC]
            refine tkY (i := 19) (v := ?vv66) 31 ?yy66 ?_
            case yy66 =>
              intro wq hSw
              have q0 := hSw.2
              clear hSw
              go_simp
              (try with_reducible rfl)
            simp only [sA, sB, sC]
            refine tkY (i := 20) (v := ?vv67) 32 ?yy67 ?_
            case yy67 => intro w hSw; (try dsimp only at hSw); go_simp; (try with_reducible rfl)
            simp only [sA, sB, sC]
            refine tkY (i := 21) (v := ?vv68) 33 ?yy68 ?_
            case yy68 =>
              intro wq hSw
              obtain ⟨x0, x1, x2, x3⟩ := (hSw.1).c4
              clear hSw
              go_simp
              (try with_reducible rfl)
            simp only [sA, sB, sC]
            refine tkY (i := 22) (v := ?vv69) 34 ?yy69 ?_
            case yy69 => intro w hSw; (try dsimp only at hSw); go_simp; (try with_reducible rfl)
            simp only [sA, sB, sC]
            refine tkY (i := 23) (v := ?vv70) 35 ?yy70 ?_
            case yy70 => intro w hSw; (try dsimp only at hSw); go_simp; (try with_reducible rfl)
            simp only [sA, sB, sC]
            refine tkY (i := 24) (v := ?vv71) 36 ?yy71 ?_
            case yy71 => intro w hSw; (try dsimp only at hSw); go_simp; (try with_reducible rfl)
            simp only [sA, sB, sC]
            refine wpAnyH_done (by kernel_rfl) ?_ _
            have HB := Lib.hid (btrans HB.out HB.out.size hb4)
            have HN := Lib.hid (rng_step HQ.out (show stpP M (j + 1) = true by unfold stpP; rw [HMK.out, HKB.out, HVB.out, Nat.add_sub_cancel, HMJ.out, HLB.out]; simp))
            go_wp2
            go_roundw
            case rel => exact ⟨j + 2, by omega, by go_num, HN, HB.out⟩
            case measure => simp [intOf]; omega
          | false =>
            have hs0 : Bx wr.heap.size #[.string (bs m.key), .int .i64 m.v.k, .int .i64 m.v.n, .string (bs m.v.s)] 55 v1.drew ∧ v1.drew.cell? ⟨b, off + j * 4, none⟩ = some (.string (bs m2.key)) := ⟨HXB.out, q0⟩
            have HS0 := Lib.hid hs0; clear hs0
            go_wp2_with fail
            refine wp_region_held_drew (S := (fun w' => Bx wr.heap.size #[.string (bs m.key), .int .i64 m.v.k, .int .i64 m.v.n, .string (bs m.v.s)] 55 w' ∧ w'.cell? ⟨b, off + j * 4, none⟩ = some (.string (bs m2.key)))) (by kernel_rfl) ?_ (fun hHeld => ?_)
            · exact HS0.out
            have hb0 : Below v1.heap.size v1 v1.drew := (Below.refl v1.heap.size v1).drew
            refine tkY (i := 0) (v := ?vv72) 12 ?yy72 ?_
            case yy72 => intro w hSw; (try dsimp only at hSw); go_simp; (try with_reducible rfl)
            simp only [sA, sB, sC]
            refine tkY (i := 1) (v := ?vv73) 13 ?yy73 ?_
            case yy73 =>
              intro wq hSw
              obtain ⟨x0, x1, x2, x3⟩ := (hSw.1).c4
              clear hSw
              go_simp
              (try with_reducible rfl)
            simp only [sA, sB, sC]
            refine wpAnyH_ready (rs := [2]) (by kernel_rfl) (by simp) ?_
            refine (AllReadyH.cons rfl (fun K hK => ?_) AllReadyH.nil)
            go_simp
            (refine (KValid_any m.key hmk _).mono ?_; rw [HKB.out]; rintro er u1 ⟨rfl, hb1⟩)
            focus (try go_wp2_with fail)
            refine hK.out _ _ ?_ (fun hHeld => ?_)
            · exact ⟨hHeld.1.call hb1, cell1_below hHeld.2 hb1⟩
            clear hK K
            (try simp only [Act.put, sA, sB, sC])
            have hb2 := btrans hb0 hb0.size hb1
            refine tkY (i := 3) (v := ?vv74) 15 ?yy74 ?_
            case yy74 => intro w hSw; (try dsimp only at hSw); go_simp; (try with_reducible rfl)
            simp only [sA, sB, sC]
            refine tkY (i := 4) (v := ?vv75) 16 ?yy75 ?_
            case yy75 => intro w hSw; (try dsimp only at hSw); go_simp; (try with_reducible rfl)
            simp only [sA, sB, sC]
            refine tkY (i := 5) (v := ?vv76) 17 ?yy76 ?_
            case yy76 => intro w hSw; (try dsimp only at hSw); go_simp; (try with_reducible rfl)
            simp only [sA, sB, sC]
            refine tkY (i := 6) (v := ?vv77) 18 ?yy77 ?_
            case yy77 =>
              intro wq hSw
              obtain ⟨x0, x1, x2, x3⟩ := (hSw.1).c4
              clear hSw
              go_simp
              (try with_reducible rfl)
            simp only [sA, sB, sC]
            refine wpAnyH_ready (rs := [7]) (by kernel_rfl) (by simp) ?_
            refine (AllReadyH.cons rfl (fun K hK => ?_) AllReadyH.nil)
            go_simp
            (refine (VValid_any m.v hml _).mono ?_; rw [HVB.out]; rintro er u2 ⟨rfl, hb3⟩)
            focus (try go_wp2_with fail)
            refine hK.out _ _ ?_ (fun hHeld => ?_)
            · exact ⟨hHeld.1.call hb3, cell1_below hHeld.2 hb3⟩
            clear hK K
            (try simp only [Act.put, sA, sB, sC])
            have hb4 := btrans hb2 hb2.size hb3
            refine tkY (i := 8) (v := ?vv78) 20 ?yy78 ?_
            case yy78 => intro w hSw; (try dsimp only at hSw); go_simp; (try with_reducible rfl)
            simp only [sA, sB, sC]
            refine tkY (i := 9) (v := ?vv79) 21 ?yy79 ?_
            case yy79 => intro w hSw; (try dsimp only at hSw); go_simp; (try with_reducible rfl)
            simp only [sA, sB, sC]
            refine tkY (i := 10) (v := ?vv80) 22 ?yy80 ?_
            case yy80 => intro w hSw; (try dsimp only at hSw); go_simp; (try with_reducible rfl)
            simp only [sA, sB, sC]
            refine tkY (i := 11) (v := ?vv81) 23 ?yy81 ?_
            case yy81 => intro w hSw; (try dsimp only at hSw); go_simp; (try with_reducible rfl)
            simp only [sA, sB, sC]
            refine tkY (i := 12) (v := ?vv82) 24 ?yy82 ?_
            case yy82 => intro w hSw; (try dsimp only at hSw); go_simp; (try with_reducible rfl)
            simp only [sA, sB, sC]
            refine tkY (i := 13) (v := ?vv83) 25 ?yy83 ?_
            case yy83 => intro w hSw; (try dsimp only at hSw); go_simp; (try with_reducible rfl)
            simp only [sA, sB, sC]
            refine tkY (i := 14) (v := ?vv84) 26 ?yy84 ?_
            case yy84 => intro w hSw; (try dsimp only at hSw); go_simp; (try with_reducible rfl)
            simp only [sA, sB, sC]
            refine tkY (i := 15) (v := ?vv85) 27 ?yy85 ?_
            case yy85 => intro w hSw; (try dsimp only at hSw); go_simp; (try with_reducible rfl)
            simp only [sA, sB, sC]
            refine tkY (i := 16) (v := ?vv86) 28 ?yy86 ?_
            case yy86 => intro w hSw; (try dsimp only at hSw); go_simp; (try with_reducible rfl)
            simp only [sA, sB, sC]
            refine tkY (i := 17) (v := ?vv87) 29 ?yy87 ?_
            case yy87 => intro w hSw; (try dsimp only at hSw); go_simp; (try with_reducible rfl)
            simp only [sA, sB, sC]
            refine tkY (i := 18) (v := ?vv88) 30 ?yy88 ?_
            case yy88 => intro w hSw; (try dsimp only at hSw); go_simp; (try with_reducible rfl)
            simp only [sA, sB, sC]
            refine tkY (i := 19) (v := ?vv89) 31 ?yy89 ?_
            case yy89 =>
              intro wq hSw
              have q0 := hSw.2
              clear hSw
              go_simp
              (try with_reducible rfl)
            simp only [sA, sB, sC]
            refine tkY (i := 20) (v := ?vv90) 32 ?yy90 ?_
            case yy90 => intro w hSw; (try dsimp only at hSw); go_simp; (try with_reducible rfl)
            simp only [sA, sB, sC]
            refine tkY (i := 21) (v := ?vv91) 33 ?yy91 ?_
            case yy91 =>
              intro wq hSw
              obtain ⟨x0, x1, x2, x3⟩ := (hSw.1).c4
              clear hSw
              go_simp
              (try with_reducible rfl)
            simp only [sA, sB, sC]
            refine tkY (i := 22) (v := ?vv92) 34 ?yy92 ?_
            case yy92 => intro w hSw; (try dsimp only at hSw); go_simp; (try with_reducible rfl)
            simp only [sA, sB, sC]
            refine tkY (i := 23) (v := ?vv93) 35 ?yy93 ?_
            case yy93 => intro w hSw; (try dsimp only at hSw); go_simp; (try with_reducible rfl)
            simp only [sA, sB, sC]
            refine tkY (i := 24) (v := ?vv94) 36 ?yy94 ?_
            case yy94 => intro w hSw; (try dsimp only at hSw); go_simp; (try with_reducible rfl)
            simp only [sA, sB, sC]
            refine wpAnyH_done (by kernel_rfl) ?_ _
            have HB := Lib.hid (btrans HB.out HB.out.size hb4)
            have HF := Lib.hid (show R = false from HR.out.symm.trans (rng_bad hlt (show stpP M (j + 1) = false by unfold stpP; rw [HMK.out, HKB.out, HVB.out, Nat.add_sub_cancel, HMJ.out, HLB.out]; simp)))
            go_wp2
            go_ret
            exact ⟨by rw [HF.out] <;> rfl, HB.out⟩
    · have hlt' : ¬ (k : Int) < (M.length : Int) := by omega
      have hkl : k = M.length := by omega
      have HF := Lib.hid (show R = true from HR.out.symm.trans (by unfold srtB; rw [← hkl]; exact HQ.out))
      clear hkl
      go_wp2
      go_ret
      exact ⟨by rw [HF.out] <;> rfl, HB.out⟩
end Go.Proofs.YtnglaegofhpleaaGreatDoor
namespace Go.Proofs.YtnglaegofhpleaaGreatDoor
open Go.RowKit

def idxP (p : Pr → Bool) (M : List Pr) : Int := if M.findIdx p < M.length then (M.findIdx p : Int) else -1
theorem find_at {p : Pr → Bool} : ∀ (M : List Pr) (k : Nat) (h : k < M.length), (M.take k).any p = false → p M[k] = true → M.findIdx p = k
  | m :: r, 0, _, _, hx => by rw [List.findIdx_cons]; have hx : p m = true := hx; rw [hx]; rfl
  | m :: r, k + 1, h, hn, hx => by
    rw [List.take_succ_cons, List.any_cons, Bool.or_eq_false_iff] at hn
    rw [List.findIdx_cons, hn.1, find_at r k (by simpa using h) hn.2 hx]; rfl
theorem idxP_at {p : Pr → Bool} {M : List Pr} {k : Nat} (h : k < M.length) (hn : (M.take k).any p = false) (hx : p M[k] = true) : idxP p M = (k : Int) := by
  unfold idxP; rw [find_at M k h hn hx, if_pos h]
theorem idxP_none {p : Pr → Bool} {M : List Pr} (hn : M.any p = false) : idxP p M = -1 := by
  unfold idxP; rw [if_neg]
  intro h
  have := List.findIdx_getElem (w := h)
  have h2 : M.any p = true := List.any_eq_true.2 ⟨_, List.getElem_mem h, this⟩
  rw [hn] at h2; cases h2
theorem any_step {p : Pr → Bool} {M : List Pr} {k : Nat} (h : k < M.length) (hn : (M.take k).any p = false) (hx : p M[k] = false) : (M.take (k + 1)).any p = false := by
  rw [List.take_succ_eq_append_getElem h, List.any_append, hn, List.any_cons, List.any_nil, hx]; rfl

set_option maxRecDepth 100000 in
set_option maxHeartbeats 4000000 in
theorem absent_any (m : Pr) (w : World) :
    Calls Tryz.prog 57 #[.agg (prV m)] w fun e w' => e = .returned (.bool (absB m)) ∧ Below w.heap.size w w' := by
  simp only [prV]
  obtain ⟨v0, hW0, hb0, hx0⟩ := boxes1 w #[.string (bs m.key), .int .i64 m.v.k, .int .i64 m.v.n, .string (bs m.v.s)] 55
  have HW := Lib.hid hW0; have HB := Lib.hid hb0; have HC := Lib.hid hx0; clear hW0 hb0 hx0
  go_enter Tryz.func57, Tryz.ntmps57
  go_upto_region 1 with (fail)
  rw [HW.out]
  clear HW
  obtain ⟨c0, c1, c2, c3⟩ := HC.out.c4
  by_cases h : m.v.k = 0
  · have t0 : (m.v.k == 0) = true := by rw [h]; rfl
    have HF := Lib.hid (show absB m = true from decide_eq_true h)
    clear h
    go_wp2
    go_ret
    exact ⟨by rw [HF.out] <;> rfl, HB.out⟩
  have t0 : (m.v.k == 0) = false := by rw [beq_eq_false_iff_ne]; exact h
  have HF := Lib.hid (show absB m = false from decide_eq_false h)
  clear h
  go_wp2
  go_ret
  exact ⟨by rw [HF.out] <;> rfl, HB.out⟩
set_option maxRecDepth 100000 in
set_option maxHeartbeats 8000000 in
theorem idxAbs_any (a : Option Addr) (cap : Nat) (M : List Pr)  (w : World) (hl : M.length ≤ 9000000000000)  (hM : CellsAt w (.slice a M.length cap) M.length (prLs M)) :
    Calls Tryz.prog 89 #[.slice a M.length cap, .func (.func 57) #[] #[]] w fun e w' => e = .returned (.int .i64 (idxP (absB) M)) ∧ Below w.heap.size w w' := by
  obtain ⟨p, hp⟩ : ∃ p, p = (absB) := ⟨_, rfl⟩
  rw [← hp]
  have HPP := Lib.hid hp; clear hp
  obtain ⟨R, hR⟩ : ∃ R, idxP p M = R := ⟨_, rfl⟩
  rw [hR]
  have HR := Lib.hid hR; have HM := Lib.hid hM; clear hR hM
  skip
  go_enter Tryz.func89, Tryz.ntmps89
  go_wp2
  go_loopw [8] (fun i wr => ∃ k : Nat, k ≤ M.length ∧ i = .int .i64 k ∧ Hid ((M.take k).any p = false) ∧ Below w.heap.size w wr) (fun i _ => M.length - (intOf i).toNat)
  case atStart => exact ⟨0, Nat.zero_le _, by first | exact True.intro | rfl, Lib.hid rfl, Below.refl _ _⟩
  case round =>
    obtain ⟨k, hk, rfl, HQ, hB⟩ := hrel
    have HB := Lib.hid hB; clear hB
    by_cases hlt : k < M.length
    · have hlt' : (k : Int) < (M.length : Int) := by omega
      have hkb : (0 : Int) ≤ (k : Int) ∧ (k : Int) < (M.length : Int) := ⟨by omega, by omega⟩
      have hw1 : IntKind.i64.wrap ((k : Int) + 1) = (k : Int) + 1 := by rw [IntKind.wrap_i64]; omega
      obtain ⟨b, off, rfl, p0, p1, p2, p3⟩ := pr_cells (HM.out.below HB.out) hlt
      obtain ⟨m, hm⟩ : ∃ m, M[k] = m := ⟨_, rfl⟩
      rw [hm] at p0 p1 p2 p3
      have HMK := Lib.hid hm; clear hm
      obtain ⟨pb, hpb⟩ : ∃ b, p m = b := ⟨_, rfl⟩
      have HPB := Lib.hid hpb; have HPB2 := Lib.hid (show (absB) m = pb by rw [← HPP.out]; exact hpb); clear hpb
      go_wp2_with fail
      refine (absent_any m _).mono ?_
      have hpe := HPB2.out
      (try simp only at hpe)
      rw [hpe]
      clear hpe
      rintro er w1 ⟨rfl, hb1⟩
      have HB := Lib.hid (btrans HB.out HB.out.size hb1); clear hb1 p0 p1 p2 p3
      cases pb with
      | true =>
        have HF := Lib.hid (show R = (k : Int) from HR.out.symm.trans (idxP_at hlt HQ.out (by rw [HMK.out]; exact HPB.out)))
        go_wp2
        go_ret
        exact ⟨by rw [HF.out] <;> rfl, HB.out⟩
      | false =>
        have HN := Lib.hid (any_step hlt HQ.out (by rw [HMK.out]; exact HPB.out))
        go_wp2
        go_roundw
        case rel => exact ⟨k + 1, by omega, by go_num, HN, HB.out⟩
        case measure => simp [intOf]; omega
    · have hlt' : ¬ (k : Int) < (M.length : Int) := by omega
      have HF := Lib.hid (show R = -1 from HR.out.symm.trans (idxP_none (by have h := HQ.out; rw [List.take_of_length_le (by omega)] at h; exact h)))
      go_wp2
      go_ret
      exact ⟨by rw [HF.out] <;> rfl, HB.out⟩
set_option maxRecDepth 100000 in
set_option maxHeartbeats 8000000 in
theorem conAbs_any (a : Option Addr) (cap : Nat) (M : List Pr) (w : World) (hl : M.length ≤ 9000000000000) (hM : CellsAt w (.slice a M.length cap) M.length (prLs M)) :
    Calls Tryz.prog 56 #[.slice a M.length cap, .func (.func 57) #[] #[]] w fun e w' => e = .returned (.bool (M.any absB)) ∧ Below w.heap.size w w' := by
  obtain ⟨ix, hix⟩ : ∃ x, idxP absB M = x := ⟨_, rfl⟩
  have HIX := Lib.hid hix; clear hix
  go_enter Tryz.func56, Tryz.ntmps56
  go_wp2_with fail
  refine (idxAbs_any a cap M _ hl hM).mono ?_
  rw [HIX.out]
  rintro er w1 ⟨rfl, hb1⟩
  have HB := Lib.hid hb1; clear hb1
  cases hany : M.any absB with
  | false =>
    have e : ix = -1 := HIX.out.symm.trans (idxP_none hany)
    subst e
    have HANY := Lib.hid hany; clear hany HIX
    go_wp2
    go_ret
    exact ⟨by rw [HANY.out] <;> rfl, HB.out⟩
  | true =>
    have hlt : M.findIdx absB < M.length := by obtain ⟨x, hx, hp⟩ := List.any_eq_true.1 hany; exact List.findIdx_lt_length_of_exists ⟨x, hx, hp⟩
    have hge : 0 ≤ ix := by rw [← HIX.out]; unfold idxP; rw [if_pos hlt]; omega
    have HANY := Lib.hid hany; clear hany HIX hlt
    go_wp2
    go_ret
    exact ⟨by rw [HANY.out] <;> rfl, HB.out⟩
set_option maxRecDepth 100000 in
set_option maxHeartbeats 8000000 in
theorem SValid_any (a : Option Addr) (cap : Nat) (M : List Pr) (w : World) (hl : M.length ≤ 9000000000000) (hx : ∀ p ∈ M, p.key.length ≤ 9223372036854775807 ∧ p.v.s.length ≤ 9223372036854775807) (hM : CellsAt w (.slice a M.length cap) M.length (prLs M)) :
    Calls Tryz.prog 35 #[.slice a M.length cap] w fun e w' => e = .returned (.bool (stB M)) ∧ Below w.heap.size w w' := by
  obtain ⟨sb, hsb⟩ : ∃ b, srtB M = b := ⟨_, rfl⟩
  obtain ⟨ab, hab⟩ : ∃ b, M.any absB = b := ⟨_, rfl⟩
  have HF := Lib.hid (show stB M = (sb && !ab) by unfold stB; rw [hsb, hab])
  have HSB := Lib.hid hsb; have HAB := Lib.hid hab; have HM := Lib.hid hM; clear hsb hab hM
  go_enter Tryz.func35, Tryz.ntmps35
  go_wp2_with fail
  refine (sorted_any a cap M _ hl hx HM.out).mono ?_
  rw [HSB.out]
  rintro er w1 ⟨rfl, hb1⟩
  have HB := Lib.hid hb1; clear hb1
  cases sb with
  | false =>
    go_wp2
    go_ret
    exact ⟨by rw [HF.out] <;> rfl, HB.out⟩
  | true =>
    go_wp2_with fail
    refine (conAbs_any a cap M _ hl (HM.out.below HB.out)).mono ?_
    rw [HAB.out]
    rintro er w2 ⟨rfl, hb2⟩
    have HB := Lib.hid (btrans HB.out HB.out.size hb2); clear hb2
    go_wp2
    go_ret
    exact ⟨by rw [HF.out] <;> rfl, HB.out⟩
end Go.Proofs.YtnglaegofhpleaaGreatDoor
namespace Go.Proofs
open Go.Shelf
def Tryz.lays2_22_ren : Go.Shelf.Ren := ⟨fun | 22 => 122 | 29 => 142 | 30 => 143 | 36 => 165 | 17 => 182 | n => n, fun | 24 => 27 | 9 => 9 | 3 => 3 | 4 => 4 | 0 => 0 | n => n, fun | n => n⟩
theorem Tryz.lays2_22 : Go.Proofs.Lays2.n22 Tryz.prog Tryz.lays2_22_ren := {
  mixed := by kernel_rfl
  f17 := Tryz.func182.trans (congrArg some (by kernel_rfl))
  f22 := Tryz.func122.trans (congrArg some (by kernel_rfl))
  f29 := Tryz.func142.trans (congrArg some (by kernel_rfl))
  f30 := Tryz.func143.trans (congrArg some (by kernel_rfl))
  f36 := Tryz.func165.trans (congrArg some (by kernel_rfl))
  t0 := Tryz.underlying0
  a0 := Tryz.isAgg0
  z0 := Tryz.sizeOf0
  v0 := Tryz.zeroValue0
  t3 := Tryz.underlying3
  a3 := Tryz.isAgg3
  z3 := Tryz.sizeOf3
  v3 := Tryz.zeroValue3
  t4 := Tryz.underlying4
  a4 := Tryz.isAgg4
  z4 := Tryz.sizeOf4
  v4 := Tryz.zeroValue4
  t9 := Tryz.underlying9
  a9 := Tryz.isAgg9
  z9 := Tryz.sizeOf9
  v9 := Tryz.zeroValue9
  t24 := Tryz.underlying27
  a24 := Tryz.isAgg27
  z24 := Tryz.sizeOf27
  v24 := Tryz.zeroValue27
  i9 := by kernel_rfl }
open Go.Lib in
theorem Tryz.lays2_22_laid : Lays2.n22 Tryz.prog Tryz.lays2_22_ren := Tryz.lays2_22
def Tryz.lays2_26_ren : Go.Shelf.Ren := ⟨fun | 26 => 121 | 33 => 140 | 34 => 141 | 38 => 164 | n => n, fun | 24 => 27 | 9 => 9 | 3 => 3 | 4 => 4 | 40 => 170 | 0 => 0 | n => n, fun | n => n⟩
theorem Tryz.lays2_26 : Go.Proofs.Lays2.n26 Tryz.prog Tryz.lays2_26_ren := {
  mixed := by kernel_rfl
  f26 := Tryz.func121.trans (congrArg some (by kernel_rfl))
  f33 := Tryz.func140.trans (congrArg some (by kernel_rfl))
  f34 := Tryz.func141.trans (congrArg some (by kernel_rfl))
  f38 := Tryz.func164.trans (congrArg some (by kernel_rfl))
  t0 := Tryz.underlying0
  a0 := Tryz.isAgg0
  z0 := Tryz.sizeOf0
  v0 := Tryz.zeroValue0
  t3 := Tryz.underlying3
  a3 := Tryz.isAgg3
  z3 := Tryz.sizeOf3
  v3 := Tryz.zeroValue3
  t4 := Tryz.underlying4
  a4 := Tryz.isAgg4
  z4 := Tryz.sizeOf4
  v4 := Tryz.zeroValue4
  t9 := Tryz.underlying9
  a9 := Tryz.isAgg9
  z9 := Tryz.sizeOf9
  v9 := Tryz.zeroValue9
  t24 := Tryz.underlying27
  a24 := Tryz.isAgg27
  z24 := Tryz.sizeOf27
  v24 := Tryz.zeroValue27
  t40 := Tryz.underlying170
  a40 := Tryz.isAgg170
  z40 := Tryz.sizeOf170
  v40 := Tryz.zeroValue170 }
open Go.Lib in
theorem Tryz.lays2_26_laid : Lays2.n26 Tryz.prog Tryz.lays2_26_ren := Tryz.lays2_26
end Go.Proofs
namespace Go.Proofs.YtnglaegofhpleaaGreatDoor
open Go.RowKit

theorem bl_irrefl : ∀ a : List UInt8, Op.bytesLess a a = false
  | [] => rfl
  | c :: r => by simp [Op.bytesLess, bl_irrefl r]
theorem bl_trans : ∀ {a b c : List UInt8}, Op.bytesLess a b = true → Op.bytesLess b c = true → Op.bytesLess a c = true
  | _, [], _, h, _ => by simp [Op.bytesLess] at h
  | [], _ :: _, [], _, h => by simp [Op.bytesLess] at h
  | [], _ :: _, _ :: _, _, _ => rfl
  | _ :: _, _ :: _, [], _, h => by simp [Op.bytesLess] at h
  | x :: a, y :: b, z :: c, h1, h2 => by
    simp only [Op.bytesLess, Bool.or_eq_true, Bool.and_eq_true, decide_eq_true_eq, beq_iff_eq] at h1 h2 ⊢
    rcases h1 with h1 | ⟨rfl, h1⟩
    · rcases h2 with h2 | ⟨rfl, _⟩
      · exact .inl (UInt8.lt_trans h1 h2)
      · exact .inl h1
    · rcases h2 with h2 | ⟨rfl, h2⟩
      · exact .inl h2
      · exact .inr ⟨rfl, bl_trans h1 h2⟩
theorem bl_tri : ∀ {a b : List UInt8}, Op.bytesLess a b = false → Op.bytesLess b a = false → a = b
  | [], [], _, _ => rfl
  | [], _ :: _, h, _ => by simp [Op.bytesLess] at h
  | _ :: _, [], _, h => by simp [Op.bytesLess] at h
  | x :: a, y :: b, h1, h2 => by
    simp only [Op.bytesLess, Bool.or_eq_false_iff, Bool.and_eq_false_iff, decide_eq_false_iff_not, beq_eq_false_iff_ne] at h1 h2
    have e : x = y := UInt8.le_antisymm (UInt8.not_lt.1 h2.1) (UInt8.not_lt.1 h1.1)
    subst e
    have h3 := h1.2.resolve_left (fun h => h rfl)
    have h4 := h2.2.resolve_left (fun h => h rfl)
    rw [bl_tri h3 h4]
def SortK (L : List (List UInt8)) : Prop := L.Pairwise fun a b => Op.bytesLess a b = true
def posK (L : List (List UInt8)) (k : List UInt8) : Nat := L.findIdx fun q => !Op.bytesLess q k
def fndK (L : List (List UInt8)) (k : List UInt8) : Bool := decide (posK L k < L.length ∧ L.getD (posK L k) k = k)
def putK (L : List (List UInt8)) (i : Nat) (k : List UInt8) : List (List UInt8) := L.take i ++ k :: L.drop i
def withK (L : List (List UInt8)) (k : List UInt8) : List (List UInt8) := if fndK L k = true then L else putK L (posK L k) k
theorem pos_le (L : List (List UInt8)) (k : List UInt8) : posK L k ≤ L.length := List.findIdx_le_length
theorem pos_lo {L : List (List UInt8)} {k : List UInt8} {t : Nat} (h : t < posK L k) : Op.bytesLess (L.getD t k) k = true := by
  have hl : t < L.length := Nat.lt_of_lt_of_le h (pos_le L k)
  have := List.not_of_lt_findIdx h
  rw [getD_at hl]; simpa using this
theorem pos_hi {L : List (List UInt8)} {k : List UInt8} (hs : SortK L) {t : Nat} (h : posK L k ≤ t) : Op.bytesLess (L.getD t k) k = false := by
  by_cases hl : t < L.length
  · rw [getD_at hl]
    have hp : posK L k < L.length := Nat.lt_of_le_of_lt h hl
    have h1 : Op.bytesLess (L[posK L k]'hp) k = false := by
      have h' : (!Op.bytesLess (L[posK L k]'hp) k) = true := List.findIdx_getElem (w := hp)
      revert h'; cases Op.bytesLess (L[posK L k]'hp) k <;> simp
    rcases Nat.lt_or_ge (posK L k) t with h2 | h2
    · have h3 := List.pairwise_iff_getElem.1 hs _ _ hp hl h2
      rw [Bool.eq_false_iff]; intro h4
      rw [bl_trans h3 h4] at h1; cases h1
    · have e : t = posK L k := by omega
      subst e; exact h1
  · rw [List.getD_eq_getElem?_getD, List.getElem?_eq_none (by omega)]; exact bl_irrefl k
theorem BSearch_any (g cap : Nat) (L : List (List UInt8)) (k : List UInt8) (w : World) (hs : SortK L) (hc : ∀ j (h : j < L.length), w.cell? ⟨g, j, none⟩ = some (.string (bs L[j]))) (hl : L.length ≤ 1000000000000) :
    Calls Tryz.prog 121 #[.slice (some ⟨g, 0, none⟩) L.length cap, .string (bs k)] w fun e w' => e = .returned (.tuple #[.int .i64 (posK L k : Int), .bool (fndK L k)]) ∧ ∃ q, w' = w.drewN q := by
  have h := Any2.slices_BinarySearch_string Tryz.lays2_26_laid g 0 L.length cap (fun j => bs (L.getD j k)) (bs k) w (by omega) (fun j hj => by rw [Nat.zero_add, getD_at hj]; exact hc j hj)
  have e : Lib.bsGo (fun t => Op.bytesLess (bs (L.getD t k)).toList (bs k).toList) L.length 0 L.length = posK L k := by
    refine Lib.bsGo_spec _ _ (fun t ht => ?_) (fun t ht => ?_) _ _ _ (Nat.le_refl _) (Nat.zero_le _) (pos_le L k)
    · rw [bs_toList', bs_toList']; exact pos_lo ht
    · rw [bs_toList', bs_toList']; exact pos_hi hs ht
  rw [e] at h
  refine h.mono ?_
  rintro er w' ⟨rfl, hq⟩
  refine ⟨?_, hq⟩
  have e2 : decide (posK L k < L.length ∧ bs (L.getD (posK L k) k) = bs k) = fndK L k := by
    unfold fndK; congr 1; rw [eq_iff_iff]
    exact ⟨fun q => ⟨q.1, bs_inj q.2⟩, fun q => ⟨q.1, by rw [q.2]⟩⟩
  rw [e2]
-- rows
theorem Bx.setCells {b : Nat} {T : TypeId} : ∀ (vs : List Value) (o : Nat) (cs : Array Value) (W : World), Bx b cs T W → o + vs.length ≤ cs.size → ∃ cs', Bx b cs' T (W.setCells b o vs) ∧ cs'.toList = cs.toList.take o ++ vs ++ cs.toList.drop (o + vs.length)
  | [], o, cs, W, h, _ => ⟨cs, h, by simp⟩
  | v :: r, o, cs, W, h, hs => by
    simp only [List.length_cons] at hs
    obtain ⟨cs', h1, h2⟩ := Bx.setCells r (o + 1) (cs.setIfInBounds o v) _ (h.set o v) (by rw [Array.size_setIfInBounds]; omega)
    refine ⟨cs', h1, ?_⟩
    have ho : o < cs.toList.length := by rw [Array.length_toList]; omega
    have hm : (cs.toList.take o).length = o := by rw [List.length_take]; omega
    rw [h2, Array.toList_setIfInBounds, List.set_eq_take_append_cons_drop, if_pos ho]
    have e1 : (cs.toList.take o ++ v :: cs.toList.drop (o + 1)).take (o + 1) = cs.toList.take o ++ [v] := by
      rw [show o + 1 = (cs.toList.take o).length + 1 by omega, List.take_length_add_append, hm]; rfl
    have e2 : (cs.toList.take o ++ v :: cs.toList.drop (o + 1)).drop (o + 1 + r.length) = cs.toList.drop (o + (v :: r).length) := by
      rw [show o + 1 + r.length = (cs.toList.take o).length + (r.length + 1) by omega, List.drop_length_add_append, List.drop_succ_cons, List.drop_drop]
      congr 1; simp only [List.length_cons]; omega
    rw [e1, e2]; simp
theorem grown_drewN (w : World) (n : Nat) (row : Option Nat) : w.grownBy (w.drewN n) row := ⟨rfl, rfl, rfl, Nat.le_refl _, fun _ _ _ => rfl⟩
theorem grown_setCells (b : Nat) : ∀ (vs : List Value) (o : Nat) (W : World), W.grownBy (W.setCells b o vs) (some b)
  | [], _, W => World.grownBy.refl W _
  | v :: r, o, W => (grown_set W ⟨b, o, none⟩ v).trans (grown_setCells b r (o + 1) _)
theorem own_grow (w : World) (B : Nat) (T : TypeId) (xs : List Value) (n gc : Nat) (pad : Array Value) (hB : B ≤ w.heap.size) (hn : xs.length = n) (hg : n ≤ gc) (hm : gc ≤ maxLen) (hp : pad.size = gc - n) :
    (w.alloc (.cells (xs.toArray ++ pad) T)).ownsRow B T 1 (.slice (some ⟨w.heap.size, 0, none⟩) n gc) n xs := by
  refine ⟨by rw [hn]; omega, .inr ⟨w.heap.size, gc, _, rfl, hB, heap_alloc_new w _, hg, hm, ?_, ?_⟩⟩
  · simp only [Array.size_append, List.size_toArray, hp]; omega
  · simp only [Array.toList_append, Nat.mul_one]; rw [List.take_left' hn]
theorem putK_map (L : List (List UInt8)) (i : Nat) (k : List UInt8) : (putK L i k).map strV = (L.map strV).take i ++ strV k :: (L.map strV).drop i := by
  unfold putK; rw [List.map_append, List.map_cons, List.map_take, List.map_drop]
theorem strVs_one (l : List (List UInt8)) : ∀ v ∈ l.map strV, v.oneCell' = true := by
  intro v hv; obtain ⟨x, _, rfl⟩ := List.mem_map.1 hv; rfl
theorem bx_shape {b : Nat} {cs : Array Value} {T : TypeId} {W : World} (h : Bx b cs T W) : W.shape? b = some (T, cs.size) := by
  unfold Bx at h; simp [World.shape?, h]
set_option maxHeartbeats 4000000 in
theorem insRow_any (B : Nat) (v : Value) (L : List (List UInt8)) (k : List UInt8) (i : Nat) (hi : i ≤ L.length) (w : World) (vb : Nat) (hown : w.ownsRow B 9 1 v L.length (L.map strV)) (hB : B ≤ w.heap.size) (hX : Bx vb #[strV k] 9 w) (hne : v.ownBlock ≠ some vb) (hl : L.length ≤ 1000000000000) :
    Calls Tryz.prog 122 #[v, .int .i64 (i : Int), .slice (some ⟨vb, 0, none⟩) 1 1] w fun e w' => ∃ v', e = .returned v' ∧ w'.ownsRow B 9 1 v' (L.length + 1) ((putK L i k).map strV) ∧ w.grownBy w' v.ownBlock ∧ (v'.ownBlock = v.ownBlock ∨ v'.ownBlock = some w.heap.size) := by
  have hvs : ∀ j u, ([strV k] : List Value)[j]? = some u → w.cell? ⟨vb, 0 + j, none⟩ = some u := by
    intro j u hj; rw [Nat.zero_add, hX.cell j]
    rcases j with _ | j
    · exact hj
    · simp at hj
  have h1v : ∀ u ∈ [strV k], u.oneCell' = true := strVs_one [k]
  rcases hown.2 with ⟨rfl, h0⟩ | ⟨g, cap, cur, rfl, hg, hheap, hcap, hmax, hsz, htake⟩
  · have hL : L = [] := List.eq_nil_of_length_eq_zero h0
    subst hL
    have hi0 : i = 0 := by simpa using hi
    subst hi0
    refine (Any2.slices_Insert_string_end_grow Tryz.lays2_22_laid none 0 0 vb 0 1 1 [] [strV k] w (by omega) (by omega) (by omega) (by omega) rfl rfl (fun _ => rfl) (fun a h => by cases h) hvs h1v).mono ?_
    rintro e w' ⟨rfl, rfl⟩
    refine ⟨_, rfl, ?_, (grown_drewN w 1 _).trans (World.grownBy_alloc _ _ _), .inr rfl⟩
    have hge := grownCap_ge w (0 + 1) 0 9
    exact own_grow w.drew B 9 [strV k] 1 _ _ hB rfl hge (grownCap_le_maxLen w (0 + 1) 0 9 (by unfold maxLen; omega)) (by rw [size_zeroCells]; exact Nat.mul_one _)
  · have hXB : Bx g cur 9 w := hheap
    have hgv : vb ≠ g := by intro e; subst e; exact hne rfl
    have hcs0 : ∀ j u, (L.map strV)[j]? = some u → w.cell? ⟨g, 0 + j, none⟩ = some u := by
      intro j u hj
      rw [Nat.zero_add, hXB.cell j, ← Array.getElem?_toList]
      have hlt : j < L.length * 1 := by have := (List.getElem?_eq_some_iff.1 hj).1; rw [List.length_map] at this; omega
      rw [← hj, ← htake, List.getElem?_take_of_lt hlt]
    have hclen : (L.map strV).length = L.length := List.length_map ..
    have hsz1 : cur.size = cap := by omega
    have hfull : ∀ j, j < cap → (w.cell? ⟨g, 0 + j, none⟩).isSome = true := by
      intro j hj; rw [Nat.zero_add, hXB.cell j, Array.getElem?_eq_getElem (by omega)]; rfl
    have hc63 : cap ≤ 9223372036854775807 := by unfold maxLen at hmax; omega
    have hgs : g < w.heap.size := hXB.lt
    have htk : cur.toList.take L.length = L.map strV := by rw [← htake, Nat.mul_one]
    by_cases hlt : i < L.length
    · by_cases hroom : L.length + 1 ≤ cap
      · refine (Any2.slices_Insert_string_shift Tryz.lays2_22_laid g 0 L.length cap i vb 0 1 1 (L.map strV) [strV k] w hlt (by omega) hroom hc63 hgv hclen rfl hcs0 (fun j hj => hfull j (by omega)) (fun j _ => hXB.free _) hvs (strVs_one L) h1v
          9 9 1 cap (bx_shape hX) (by rw [bx_shape hXB, hsz1]) (by omega) (hX.free 0) (hX.free 1)).mono ?_
        rintro e w' ⟨rfl, rfl⟩
        obtain ⟨c1, hb1, ht1⟩ := Bx.setCells ((L.map strV).drop i) (0 + (i + 1)) cur w.drew hXB.drew (by rw [List.length_drop, hclen]; omega)
        have hs1 : c1.size = cap := by
          have := congrArg List.length ht1
          simp only [Array.length_toList, List.length_append, List.length_take, List.length_drop, hclen] at this
          omega
        obtain ⟨c2, hb2, ht2⟩ := Bx.setCells [strV k] (0 + i) c1 _ hb1 (by show 0 + i + 1 ≤ _; omega)
        have hs2 : c2.size = cap := by
          have := congrArg List.length ht2
          simp only [Array.length_toList, List.length_append, List.length_take, List.length_drop, List.length_singleton] at this
          omega
        refine ⟨_, rfl, ⟨by rw [List.length_map]; unfold putK; simp; omega, .inr ⟨g, cap, c2, rfl, hg, hb2, hroom, hmax, by omega, ?_⟩⟩, ?_, .inl rfl⟩
        · rw [putK_map]
          have hcl : cur.toList.length = cap := by rw [Array.length_toList, hsz1]
          have e1 : c1.toList.take (0 + i) = (L.map strV).take i := by
            rw [ht1, Nat.zero_add, Nat.zero_add, List.append_assoc, List.take_append_of_le_length (by rw [List.length_take]; omega), List.take_take, Nat.min_eq_left (by omega), ← htk, List.take_take, Nat.min_eq_left (by omega)]
          have e2 : c1.toList.drop (0 + i + ([strV k] : List Value).length) = (L.map strV).drop i ++ cur.toList.drop (0 + (i + 1) + ((L.map strV).drop i).length) := by
            rw [ht1, List.append_assoc, List.drop_left' (by rw [List.length_take]; show min (0 + (i + 1)) _ = 0 + i + 1; omega)]
          rw [ht2, e1, e2, show ∀ r : List Value, (L.map strV).take i ++ [strV k] ++ ((L.map strV).drop i ++ r) = ((L.map strV).take i ++ strV k :: (L.map strV).drop i) ++ r from fun r => by simp, List.take_left' (by simp; omega)]
        · exact ((grown_drewN w 1 _).trans (grown_setCells g _ _ _)).trans (grown_setCells g _ _ _)
      · refine (Any2.slices_Insert_string_grow Tryz.lays2_22_laid g 0 L.length cap i vb 0 1 1 (L.map strV) [strV k] w hlt (by omega) hcap (by omega) (by omega) hclen rfl hcs0 hvs (strVs_one L) h1v).mono ?_
        rintro e w' ⟨rfl, rfl⟩
        have hge := grownCap_ge w (L.length + 1) cap 9
        have hle := grownCap_le_maxLen w (L.length + 1) cap 9 (by unfold maxLen; omega)
        rw [show Tryz.lays2_22_ren.t 9 = 9 from rfl]
        generalize grownCap w (L.length + 1) cap 9 = gc at hge hle ⊢
        obtain ⟨c0, hc0⟩ : ∃ c : Array Value, ((L.map strV).take i).toArray ++ Builtin.zeroCells (Value.string ⟨#[]⟩).cells (L.length + 1 - i) ++ Builtin.zeroCells (Value.string ⟨#[]⟩).cells (gc - (L.length + 1)) = c := ⟨_, rfl⟩
        have hz : (Value.string ⟨#[]⟩).cells.size = 1 := rfl
        have hs0 : c0.size = gc := by
          rw [← hc0]; simp only [Array.size_append, size_zeroCells, hz, List.size_toArray, List.length_take, hclen]; omega
        have ht0 : c0.toList.take i = (L.map strV).take i := by
          rw [← hc0, Array.toList_append, Array.toList_append, List.append_assoc, List.take_append_of_le_length (by simp; omega), List.take_take, Nat.min_self]
        rw [hc0]
        obtain ⟨c1, hb1, ht1⟩ := Bx.setCells [strV k] i c0 _ (Bx.new w c0 9).drew (by show i + 1 ≤ _; omega)
        have hs1 : c1.size = gc := by
          have := congrArg List.length ht1
          simp only [Array.length_toList, List.length_append, List.length_take, List.length_drop, List.length_singleton] at this
          omega
        obtain ⟨c2, hb2, ht2⟩ := Bx.setCells ((L.map strV).drop i) (i + 1) c1 _ hb1.drew (by rw [List.length_drop, hclen]; omega)
        have hs2 : c2.size = gc := by
          have := congrArg List.length ht2
          simp only [Array.length_toList, List.length_append, List.length_take, List.length_drop, hclen] at this
          omega
        refine ⟨_, rfl, ⟨by rw [List.length_map]; unfold putK; simp; omega, .inr ⟨w.heap.size, gc, c2, rfl, hB, hb2, hge, hle, by omega, ?_⟩⟩, ?_, .inr rfl⟩
        · rw [putK_map]
          have e1 : c1.toList.take (i + 1) = (L.map strV).take i ++ [strV k] := by
            rw [ht1, ht0, List.take_left' (by rw [List.length_append, List.length_take, hclen, List.length_singleton]; omega)]
          rw [ht2, e1, show ∀ r : List Value, (L.map strV).take i ++ [strV k] ++ (L.map strV).drop i ++ r = ((L.map strV).take i ++ strV k :: (L.map strV).drop i) ++ r from fun r => by simp, List.take_left' (by simp; omega)]
        · have h1 := (World.grownBy_alloc w (.cells c0 9) none).trans (grown_drewN _ 1 none)
          have h2 := (grown_setCells w.heap.size [strV k] i ((w.alloc (.cells c0 9)).drew)).trans ((grown_drewN _ 1 _).trans (grown_setCells w.heap.size ((L.map strV).drop i) (i + 1) _))
          exact (h1.andThen h2 (fun j hj => .inl (by cases hj; exact Nat.le_refl _))).but _
    · have hin : i = L.length := by omega
      subst hin
      by_cases hroom : L.length + 1 ≤ cap
      · refine (Any2.slices_Insert_string_end_room Tryz.lays2_22_laid g 0 L.length cap vb 0 1 1 [strV k] w (by omega) hroom hc63 rfl (fun j hj => by have := hfull (L.length + j) (by omega); rwa [Nat.zero_add] at this ⊢) (fun j _ => hXB.free _) hvs h1v).mono ?_
        rintro e w' ⟨rfl, rfl⟩
        obtain ⟨c1, hb1, ht1⟩ := Bx.setCells [strV k] (0 + L.length) cur w hXB (by show 0 + L.length + 1 ≤ _; omega)
        have hs1 : c1.size = cap := by
          have := congrArg List.length ht1
          simp only [Array.length_toList, List.length_append, List.length_take, List.length_drop, List.length_singleton] at this
          omega
        refine ⟨_, rfl, ⟨by rw [List.length_map]; unfold putK; simp, .inr ⟨g, cap, c1, rfl, hg, hb1, hroom, hmax, by omega, ?_⟩⟩, grown_setCells g _ _ _, .inl rfl⟩
        have t1 : (L.map strV).take L.length = L.map strV := List.take_of_length_le (by rw [hclen]; exact Nat.le_refl _)
        have d1 : (L.map strV).drop L.length = [] := List.drop_of_length_le (by rw [hclen]; exact Nat.le_refl _)
        rw [putK_map, t1, d1, ht1, Nat.zero_add, htk, List.take_left' (by simp)]
      · refine (Any2.slices_Insert_string_end_grow Tryz.lays2_22_laid (some ⟨g, 0, none⟩) L.length cap vb 0 1 1 (L.map strV) [strV k] w (by omega) hcap (by omega) (by omega) hclen rfl (fun h => by cases h) (fun a h j u hj => by cases h; have e2 : (⟨g, 0, none⟩ : Addr).add j = ⟨g, 0 + j, none⟩ := (by unfold Addr.add; split <;> simp_all); rw [e2]; exact hcs0 j u hj) hvs h1v).mono ?_
        rintro e w' ⟨rfl, rfl⟩
        have hge := grownCap_ge w (L.length + 1) cap 9
        refine ⟨_, rfl, ?_, ((grown_drewN w 1 none).trans (World.grownBy_alloc _ _ _)).but _, .inr rfl⟩
        rw [putK_map, List.take_of_length_le (by rw [hclen]; exact Nat.le_refl _), List.drop_of_length_le (by rw [hclen]; exact Nat.le_refl _)]
        exact own_grow w.drew B 9 (L.map strV ++ [strV k]) (L.length + 1) _ _ hB (by simp) hge (grownCap_le_maxLen w (L.length + 1) cap 9 (by unfold maxLen; omega)) (by rw [size_zeroCells]; exact Nat.mul_one _)
theorem own_strs {W : World} {B : Nat} {v : Value} {L : List (List UInt8)} (h : W.ownsRow B 9 1 v L.length (L.map strV)) : (v = .slice none 0 0 ∧ L = []) ∨ ∃ g cap, v = .slice (some ⟨g, 0, none⟩) L.length cap ∧ B ≤ g ∧ ∀ j (_ : j < L.length), W.cell? ⟨g, j, none⟩ = some (.string (bs L[j])) := by
  rcases own_form h with ⟨e, h0⟩ | ⟨g, cap, e, _, hg⟩
  · exact .inl ⟨e, List.eq_nil_of_length_eq_zero h0⟩
  · refine .inr ⟨g, cap, e, hg, fun j hj => ?_⟩
    have := h.cells (g := g) (by rw [e]; rfl) j (strV L[j]) (by simp [hj])
    have e2 : (⟨g, 0, none⟩ : Addr).add j = ⟨g, 0 + j, none⟩ := by unfold Addr.add; split <;> simp_all
    rw [e2, Nat.zero_add] at this; exact this
end Go.Proofs.YtnglaegofhpleaaGreatDoor
namespace Go.Proofs.YtnglaegofhpleaaGreatDoor
open Go.RowKit

def WithPost (B : Nat) (v : Value) (M : List (List UInt8)) (w : World) (e : Ending) (w' : World) : Prop :=
  ∃ v', e = .returned v' ∧ w'.ownsRow B 9 1 v' M.length (M.map strV) ∧ w.grownBy w' v.ownBlock ∧ (v'.ownBlock = v.ownBlock ∨ ∃ b, v'.ownBlock = some b ∧ w.heap.size ≤ b)
theorem putK_len (L : List (List UInt8)) (i : Nat) (k : List UInt8) (h : i ≤ L.length) : (putK L i k).length = L.length + 1 := by unfold putK; simp; omega
theorem own_drewN {B n k q : Nat} {e : TypeId} {v : Value} {xs : List Value} {w : World} (h : w.ownsRow B e k v n xs) : (w.drewN q).ownsRow B e k v n xs := h

set_option maxRecDepth 100000 in
set_option maxHeartbeats 8000000 in
theorem vwith_any (B : Nat) (v : Value) (L : List (List UInt8)) (k : List UInt8) (w : World) (hs : SortK L) (hown : w.ownsRow B 9 1 v L.length (L.map strV)) (hB : B ≤ w.heap.size) (hl : L.length ≤ 1000000000000) :
    Calls Tryz.prog 94 #[v, .string (bs k)] w (WithPost B v (withK L k) w) := by
  have HO := Lib.hid hown; have HS := Lib.hid hs; clear hs
  rcases own_strs hown with ⟨rfl, rfl⟩ | ⟨g, cap, rfl, hg, hc⟩
  · clear hown
    go_enter Tryz.func94, Tryz.ntmps94
    go_wp2_with fail
    refine (Any2.slices_BinarySearch_string_empty Tryz.lays2_26_laid none 0 (bs k) _).mono ?_
    rintro er w1 ⟨rfl, rfl⟩
    have HX := Lib.hid (Bx.new w1 #[strV k] 9); have HO := Lib.hid (HO.out.alloc (.cells #[strV k] 9)); have HG := Lib.hid (World.grownBy_alloc w1 (.cells #[strV k] 9) none)
    go_wp2_with fail
    refine (insRow_any B (.slice none 0 0) [] k 0 (Nat.le_refl _) _ w1.heap.size HO.out (by simp; omega) HX.out (by simp [Value.ownBlock]) (by simp)).mono ?_
    rintro er w2 ⟨v', rfl, ho, hgr, hov⟩
    have hfin : WithPost B (.slice none 0 0) (withK [] k) w1 (.returned v') w2 := ⟨_, rfl, ho, HG.out.trans hgr, hov.imp id (fun h => ⟨_, h, by simp⟩)⟩
    have HFIN := Lib.hid hfin
    clear ho hgr hov hfin
    go_wp2
    go_ret
    exact HFIN.out
  · obtain ⟨p, hp⟩ : ∃ p, posK L k = p := ⟨_, rfl⟩
    obtain ⟨fb, hfb⟩ : ∃ b, fndK L k = b := ⟨_, rfl⟩
    have hpl : p ≤ L.length := by rw [← hp]; exact pos_le L k
    have HP := Lib.hid hp; have HF := Lib.hid hfb; have HC := Lib.hid hc; clear hp hfb hc hown
    go_enter Tryz.func94, Tryz.ntmps94
    go_wp2_with fail
    refine (BSearch_any g cap L k _ HS.out HC.out hl).mono ?_
    rw [HP.out, HF.out]
    rintro er w1 ⟨rfl, q, rfl⟩
    have HO := Lib.hid (own_drewN (q := q) HO.out); have HG := Lib.hid (grown_drewN w q (some g))
    have hBq : B ≤ (w.drewN q).heap.size := hB
    have hgq : g < (w.drewN q).heap.size := (HO.out.lt g rfl).2
    have hsz : w.heap.size = (w.drewN q).heap.size := rfl
    generalize hW : w.drewN q = v1 at HO HG hBq hgq hsz ⊢
    clear hW
    cases fb with
    | true =>
      have hfin : WithPost B (.slice (some ⟨g, 0, none⟩) L.length cap) (withK L k) w (.returned (.slice (some ⟨g, 0, none⟩) L.length cap)) v1 := ⟨_, rfl, by unfold withK; rw [if_pos HF.out]; exact HO.out, HG.out, .inl rfl⟩
      have HFIN := Lib.hid hfin; clear hfin
      go_wp2
      go_ret
      exact HFIN.out
    | false =>
      have HX := Lib.hid (Bx.new v1 #[strV k] 9); have HO := Lib.hid (HO.out.alloc (.cells #[strV k] 9)); have HG := Lib.hid (HG.out.trans (World.grownBy_alloc v1 (.cells #[strV k] 9) (some g)))
      go_wp2_with fail
      refine (insRow_any B (.slice (some ⟨g, 0, none⟩) L.length cap) L k p hpl _ v1.heap.size HO.out (by simp; omega) HX.out (by simp [Value.ownBlock]; omega) hl).mono ?_
      rintro er w2 ⟨v', rfl, ho, hgr, hov⟩
      have hfin : WithPost B (.slice (some ⟨g, 0, none⟩) L.length cap) (withK L k) w (.returned v') w2 := ⟨_, rfl, by unfold withK; rw [if_neg (by rw [HF.out]; simp), HP.out, putK_len _ _ _ hpl]; exact ho, HG.out.trans hgr, hov.imp id (fun h => ⟨_, h, by simp; omega⟩)⟩
      have HFIN := Lib.hid hfin
      clear ho hgr hov hfin
      go_wp2
      go_ret
      exact HFIN.out
set_option maxRecDepth 100000 in
set_option maxHeartbeats 8000000 in
theorem iwith_any (B : Nat) (v : Value) (L : List (List UInt8)) (k : List UInt8) (w : World) (hs : SortK L) (hown : w.ownsRow B 9 1 v L.length (L.map strV)) (hB : B ≤ w.heap.size) (hl : L.length ≤ 1000000000000) :
    Calls Tryz.prog 175 #[v, .string (bs k)] w (WithPost B v (withK L k) w) := by
  have HO := Lib.hid hown; have HS := Lib.hid hs; clear hs
  rcases own_strs hown with ⟨rfl, rfl⟩ | ⟨g, cap, rfl, hg, hc⟩
  · clear hown
    go_enter Tryz.func175, Tryz.ntmps175
    go_wp2_with fail
    refine (Any2.slices_BinarySearch_string_empty Tryz.lays2_26_laid none 0 (bs k) _).mono ?_
    rintro er w1 ⟨rfl, rfl⟩
    have HX := Lib.hid (Bx.new w1 #[strV k] 9); have HO := Lib.hid (HO.out.alloc (.cells #[strV k] 9)); have HG := Lib.hid (World.grownBy_alloc w1 (.cells #[strV k] 9) none)
    go_wp2_with fail
    refine (insRow_any B (.slice none 0 0) [] k 0 (Nat.le_refl _) _ w1.heap.size HO.out (by simp; omega) HX.out (by simp [Value.ownBlock]) (by simp)).mono ?_
    rintro er w2 ⟨v', rfl, ho, hgr, hov⟩
    have hfin : WithPost B (.slice none 0 0) (withK [] k) w1 (.returned v') w2 := ⟨_, rfl, ho, HG.out.trans hgr, hov.imp id (fun h => ⟨_, h, by simp⟩)⟩
    have HFIN := Lib.hid hfin
    clear ho hgr hov hfin
    go_wp2
    go_ret
    exact HFIN.out
  · obtain ⟨p, hp⟩ : ∃ p, posK L k = p := ⟨_, rfl⟩
    obtain ⟨fb, hfb⟩ : ∃ b, fndK L k = b := ⟨_, rfl⟩
    have hpl : p ≤ L.length := by rw [← hp]; exact pos_le L k
    have HP := Lib.hid hp; have HF := Lib.hid hfb; have HC := Lib.hid hc; clear hp hfb hc hown
    go_enter Tryz.func175, Tryz.ntmps175
    go_wp2_with fail
    refine (BSearch_any g cap L k _ HS.out HC.out hl).mono ?_
    rw [HP.out, HF.out]
    rintro er w1 ⟨rfl, q, rfl⟩
    have HO := Lib.hid (own_drewN (q := q) HO.out); have HG := Lib.hid (grown_drewN w q (some g))
    have hBq : B ≤ (w.drewN q).heap.size := hB
    have hgq : g < (w.drewN q).heap.size := (HO.out.lt g rfl).2
    have hsz : w.heap.size = (w.drewN q).heap.size := rfl
    generalize hW : w.drewN q = v1 at HO HG hBq hgq hsz ⊢
    clear hW
    cases fb with
    | true =>
      have hfin : WithPost B (.slice (some ⟨g, 0, none⟩) L.length cap) (withK L k) w (.returned (.slice (some ⟨g, 0, none⟩) L.length cap)) v1 := ⟨_, rfl, by unfold withK; rw [if_pos HF.out]; exact HO.out, HG.out, .inl rfl⟩
      have HFIN := Lib.hid hfin; clear hfin
      go_wp2
      go_ret
      exact HFIN.out
    | false =>
      have HX := Lib.hid (Bx.new v1 #[strV k] 9); have HO := Lib.hid (HO.out.alloc (.cells #[strV k] 9)); have HG := Lib.hid (HG.out.trans (World.grownBy_alloc v1 (.cells #[strV k] 9) (some g)))
      go_wp2_with fail
      refine (insRow_any B (.slice (some ⟨g, 0, none⟩) L.length cap) L k p hpl _ v1.heap.size HO.out (by simp; omega) HX.out (by simp [Value.ownBlock]; omega) hl).mono ?_
      rintro er w2 ⟨v', rfl, ho, hgr, hov⟩
      have hfin : WithPost B (.slice (some ⟨g, 0, none⟩) L.length cap) (withK L k) w (.returned v') w2 := ⟨_, rfl, by unfold withK; rw [if_neg (by rw [HF.out]; simp), HP.out, putK_len _ _ _ hpl]; exact ho, HG.out.trans hgr, hov.imp id (fun h => ⟨_, h, by simp; omega⟩)⟩
      have HFIN := Lib.hid hfin
      clear ho hgr hov hfin
      go_wp2
      go_ret
      exact HFIN.out
end Go.Proofs.YtnglaegofhpleaaGreatDoor
namespace Go.Proofs.YtnglaegofhpleaaGreatDoor
open Go.RowKit

def entP (e : MapEntry) (p : Pr) : Prop := e.key = .string (bs p.key) ∧ e.val = .agg (vV p.v)
inductive Ents : List MapEntry → List Pr → Prop
  | nil : Ents [] []
  | cons {e p es L} : entP e p → Ents es L → Ents (e :: es) (p :: L)
theorem Ents.snoc {es : List MapEntry} {L : List Pr} {e : MapEntry} {p : Pr} (h : Ents es L) (he : entP e p) : Ents (es ++ [e]) (L ++ [p]) := by
  induction h with
  | nil => exact .cons he .nil
  | cons h1 _ ih => exact .cons h1 ih
/-- block m is a map that holds the pairs L -/
def Mp (m : Nat) (L : List Pr) (W : World) : Prop := ∃ es clock, W.heap[m]? = some (.map es clock) ∧ Ents es.toList L
theorem Mp.lt {m : Nat} {L : List Pr} {W : World} (h : Mp m L W) : m < W.heap.size := by obtain ⟨_, _, h, _⟩ := h; exact lt_heap h
theorem Mp.new (w : World) : Mp w.heap.size [] (w.alloc (.map #[] 0)) := ⟨#[], 0, heap_alloc_new w _, .nil⟩
theorem Mp.kept {m : Nat} {L : List Pr} {W W' : World} {row : Option Nat} (h : Mp m L W) (hg : W.grownBy W' row) (hne : row ≠ some m) : Mp m L W' := by
  have hl := h.lt
  obtain ⟨es, c, h1, h2⟩ := h
  exact ⟨es, c, (hg.block m hl (fun e => hne e.symm)).trans h1, h2⟩
theorem Mp.call {m : Nat} {L : List Pr} {W W' : World} (h : Mp m L W) (hb : Below W.heap.size W W') : Mp m L W' := by
  have hl := h.lt
  obtain ⟨es, c, h1, h2⟩ := h
  exact ⟨es, c, (hb.block _ hl).trans h1, h2⟩
theorem bs_beq (a b : List UInt8) : (bs a == bs b) = (a == b) := by
  by_cases h : a = b
  · subst h
    have : (bs a == bs a) = true := by show ((bs a).data == (bs a).data) = true; exact beq_self_eq_true _
    rw [this]; exact (beq_self_eq_true a).symm
  · have : (bs a == bs b) = false := by
      show ((bs a).data == (bs b).data) = false
      rw [beq_eq_false_iff_ne]; intro e; exact h (bs_inj (by cases ha : bs a; cases hb : bs b; rw [ha, hb] at e; simp only at e; rw [e]))
    rw [this]; exact (beq_eq_false_iff_ne.2 h).symm
theorem getM {m : Nat} {es : Array MapEntry} {c : Nat} {W : World} (h : W.heap[m]? = some (.map es c)) : (getObj m).run Tryz.prog W = .ok (.map es c) W := by simp [getObj, Sem.run, h]
theorem setM {m : Nat} {es : Array MapEntry} {c : Nat} {W : World} (o : Obj) (h : W.heap[m]? = some (.map es c)) : (setObj m o).run Tryz.prog W = .ok () { W with heap := W.heap.setIfInBounds m o } := by simp [setObj, Sem.run, h]
theorem findNow_ents (k : List UInt8) : ∀ {es : List MapEntry} {L : List Pr}, Ents es L → ∀ i, ∃ r, Instr.findNow .string (.string (bs k)) es i = some r ∧ match r with
    | some (_, v) => hasK L k = true ∧ v = .agg (vV (getP L k))
    | none => hasK L k = false
  | _, _, .nil, i => ⟨none, rfl, rfl⟩
  | _, _, .cons (e := e) (p := p) (es := es) (L := L) he h, i => by
    obtain ⟨h1, h2⟩ := he
    have hq : Instr.sameNow .string (.string (bs k)) e.key = some (k == p.key) := by rw [h1]; show some (bs k == bs p.key) = _; rw [bs_beq]
    by_cases hk : p.key = k
    · have hb : (k == p.key) = true := by rw [hk]; exact beq_self_eq_true _
      refine ⟨some (i, e.val), by simp only [Instr.findNow, hq, hb], ?_, ?_⟩
      · unfold hasK; simp [hk]
      · rw [h2, getP_cons, if_pos hk]
    · have hb : (k == p.key) = false := by rw [beq_eq_false_iff_ne]; exact fun e => hk e.symm
      obtain ⟨r, hr, hm⟩ := findNow_ents k h (i + 1)
      refine ⟨r, by simp only [Instr.findNow, hq, hb]; exact hr, ?_⟩
      have e1 : hasK (p :: L) k = hasK L k := by unfold hasK; simp [Ne.symm hk]
      have e2 : getP (p :: L) k = getP L k := by rw [getP_cons, if_neg hk]
      rw [e1, e2]; exact hm
theorem key_ok (b : Bool) (k : ByteArray) (W : World) : (Instr.checkKey b 10000 9 (.string k)).run Tryz.prog W = .ok () W := by
  rw [show (10000 : Nat) = 9999 + 1 from rfl]
  unfold Instr.checkKey
  simp [go_sem]
theorem zero_val (W : World) : (zeroValue 52).run Tryz.prog W = .ok (.agg #[.int .i64 0, .int .i64 0, .string ⟨#[]⟩]) W := by simp [go_sem]
theorem run_look {m : Nat} {L : List Pr} {W : World} (h : Mp m L W) (k : List UInt8) :
    (Instr.lookup 141 (.map (some m)) (.string (bs k)) true).run Tryz.prog W = .ok (.tuple #[.agg (vV (getP L k)), .bool (hasK L k)]) W := by
  obtain ⟨es, c, h1, h2⟩ := h
  obtain ⟨r, hr, hm⟩ := findNow_ents k h2 0
  have hf : (Instr.findKey 9 (.string (bs k)) es.toList).run Tryz.prog W = .ok r W := by
    unfold Instr.findKey; simp [go_sem, hr]
  unfold Instr.lookup
  simp only [Sem.run_bind, run_underlying Tryz.underlying141, Result.andThen_ok, getM h1, Sem.run_pure, key_ok, hf]
  cases r with
  | none =>
    simp only at hm
    have hn : getP L k = v00 := getP_none L (fun q => by rw [hasK, List.contains_iff_mem.2 q] at hm; cases hm)
    simp only [Sem.run_bind, Result.andThen_ok, Sem.run_pure, zero_val, hn, hm]; rfl
  | some iv =>
    obtain ⟨i, v⟩ := iv
    simp only at hm
    simp only [Sem.run_bind, Result.andThen_ok, Sem.run_pure, hm.1, hm.2]; rfl
theorem run_put {m : Nat} {L : List Pr} {W : World} (h : Mp m L W) (p : Pr) (hn : hasK L p.key = false) :
    ∃ W', (Instr.mapUpdate 141 (.map (some m)) (.string (bs p.key)) (.agg (vV p.v))).run Tryz.prog W = .ok () W' ∧ Mp m (L ++ [p]) W' ∧ W.grownBy W' (some m) := by
  obtain ⟨es, c, h1, h2⟩ := h
  obtain ⟨r, hr, hm⟩ := findNow_ents p.key h2 0
  have hr0 : r = none := by
    cases r with
    | none => rfl
    | some iv => obtain ⟨i, v⟩ := iv; simp only at hm; rw [hn] at hm; cases hm.1
  subst hr0
  have hf : (Instr.findKey 9 (.string (bs p.key)) es.toList).run Tryz.prog W = .ok none W := by
    unfold Instr.findKey; simp [go_sem, hr]
  have hl := lt_heap h1
  refine ⟨{ W with heap := W.heap.setIfInBounds m (.map (es.push { key := .string (bs p.key), val := .agg (vV p.v), born := c }) (c + 1)) }, ?_, ⟨es.push { key := .string (bs p.key), val := .agg (vV p.v), born := c }, c + 1, ?_, ?_⟩, ?_⟩
  · unfold Instr.mapUpdate
    simp only [Sem.run_bind, run_underlying Tryz.underlying141, Result.andThen_ok, getM h1, key_ok, hf]
    exact setM _ h1
  · simp [hl]
  · rw [Array.toList_push]; exact h2.snoc ⟨rfl, rfl⟩
  · exact ⟨rfl, rfl, rfl, by simp, fun k hk hne => by simp [show m ≠ k from fun e => hne (by rw [e])]⟩
end Go.Proofs.YtnglaegofhpleaaGreatDoor
namespace Go.Proofs.YtnglaegofhpleaaGreatDoor
open Go.RowKit

set_option maxRecDepth 100000 in
set_option maxHeartbeats 4000000 in
theorem iabort_any (c : Int) (w : World) :
    Calls Tryz.prog 139 #[.int .i64 c] w fun e w' => e = .panicked [stopE 2 c []] ∧ w' = w := by
  go_enter Tryz.func139, Tryz.ntmps139
  go_wp2
  exact ⟨rfl, rfl, rfl⟩
set_option maxRecDepth 100000 in
set_option maxHeartbeats 4000000 in
theorem irestart_any (k : List UInt8) (w : World) :
    Calls Tryz.prog 174 #[.string (bs k)] w fun e w' => e = .panicked [stopE 3 0 k] ∧ w' = w := by
  go_enter Tryz.func174, Tryz.ntmps174
  go_wp2
  exact ⟨rfl, rfl, rfl⟩
set_option maxRecDepth 100000 in
set_option maxHeartbeats 4000000 in
theorem must_yes (w : World) :
    Calls Tryz.prog 136 #[.bool true] w fun e w' => e = .returned (.tuple #[]) ∧ w' = w := by
  go_enter Tryz.func136, Tryz.ntmps136
  go_wp2
  go_end0
  exact ⟨rfl, rfl⟩
set_option maxRecDepth 100000 in
set_option maxHeartbeats 4000000 in
theorem must_no (w : World) :
    Calls Tryz.prog 136 #[.bool false] w fun e w' => e = .panicked [stopE 2 1009 []] ∧ w' = w := by
  go_enter Tryz.func136, Tryz.ntmps136
  go_wp2_with fail
  refine (iabort_any 1009 _).mono ?_
  rintro er w1 ⟨rfl, rfl⟩
  go_wp2
  exact ⟨rfl, rfl, rfl⟩
set_option maxRecDepth 100000 in
set_option maxHeartbeats 4000000 in
theorem integer_any (n : Int) (w : World) :
    Calls Tryz.prog 135 #[.int .i64 n] w fun e w' => e = endR (.ok (numV n)) ∧ Below w.heap.size w w' := by
  obtain ⟨v0, hW0, hb0, hr0⟩ := boxes1 w #[.int .i64 0, .int .i64 0, .string ⟨#[]⟩] 52
  have HW := Lib.hid hW0; have HB := Lib.hid hb0; have HRB := Lib.hid hr0; clear hW0 hb0 hr0
  go_enter Tryz.func135, Tryz.ntmps135
  go_upto_region 1 with (fail)
  rw [HW.out]
  clear HW
  have r0 : v0.cell? ⟨w.heap.size, 0, none⟩ = some (.int .i64 0) := HRB.out.cell 0
  have r1 : v0.cell? ⟨w.heap.size, 1, none⟩ = some (.int .i64 0) := HRB.out.cell 1
  have r2 : v0.cell? ⟨w.heap.size, 2, none⟩ = some (.string ⟨#[]⟩) := HRB.out.cell 2
  have f0 := HRB.out.free 0
  have f1 := HRB.out.free 1
  have f2 := HRB.out.free 2
  have HK := Lib.hid (HRB.out.sets3 (.int .i64 1) (.int .i64 n) (.string ⟨#[]⟩))
  go_wp2
  have k0 := HK.out.cell 0
  have k1 := HK.out.cell 1
  have k2 := HK.out.cell 2
  simp only [List.getElem?_toArray, List.getElem?_cons_zero, List.getElem?_cons_succ] at k0 k1 k2
  refine bodyPost_ret (v := .agg #[.int .i64 1, .int .i64 n, .string ⟨#[]⟩]) (by simp [results, Tryz.results135, go_sem, k0, k1, k2] <;> rfl) rfl ⟨rfl, below_sets3 HB.out w.heap.size (Nat.le_refl _) _ _ _⟩
set_option maxRecDepth 100000 in
set_option maxHeartbeats 4000000 in
theorem itruth_any (b : Bool) (w : World) :
    Calls Tryz.prog 158 #[.bool b] w fun e w' => e = endR (.ok (truV b)) ∧ Below w.heap.size w w' := by
  obtain ⟨v0, hW0, hb0, hr0⟩ := boxes1 w #[.int .i64 0, .int .i64 0, .string ⟨#[]⟩] 52
  have HW := Lib.hid hW0; have HB := Lib.hid hb0; have HRB := Lib.hid hr0; clear hW0 hb0 hr0
  go_enter Tryz.func158, Tryz.ntmps158
  go_upto_region 1 with (fail)
  rw [HW.out]
  clear HW
  cases b with
  | true =>
    have r0 : v0.cell? ⟨w.heap.size, 0, none⟩ = some (.int .i64 0) := HRB.out.cell 0
    have r1 : v0.cell? ⟨w.heap.size, 1, none⟩ = some (.int .i64 0) := HRB.out.cell 1
    have r2 : v0.cell? ⟨w.heap.size, 2, none⟩ = some (.string ⟨#[]⟩) := HRB.out.cell 2
    have f0 := HRB.out.free 0
    have f1 := HRB.out.free 1
    have f2 := HRB.out.free 2
    have HK := Lib.hid (HRB.out.sets3 (.int .i64 3) (.int .i64 1) (.string ⟨#[]⟩))
    go_wp2
    have k0 := HK.out.cell 0
    have k1 := HK.out.cell 1
    have k2 := HK.out.cell 2
    simp only [List.getElem?_toArray, List.getElem?_cons_zero, List.getElem?_cons_succ] at k0 k1 k2
    refine bodyPost_ret (v := .agg #[.int .i64 3, .int .i64 1, .string ⟨#[]⟩]) (by simp [results, Tryz.results158, go_sem, k0, k1, k2] <;> rfl) rfl ⟨rfl, below_sets3 HB.out w.heap.size (Nat.le_refl _) _ _ _⟩
  | false =>
    have r0 : v0.cell? ⟨w.heap.size, 0, none⟩ = some (.int .i64 0) := HRB.out.cell 0
    have r1 : v0.cell? ⟨w.heap.size, 1, none⟩ = some (.int .i64 0) := HRB.out.cell 1
    have r2 : v0.cell? ⟨w.heap.size, 2, none⟩ = some (.string ⟨#[]⟩) := HRB.out.cell 2
    have f0 := HRB.out.free 0
    have f1 := HRB.out.free 1
    have f2 := HRB.out.free 2
    have HK := Lib.hid (HRB.out.sets3 (.int .i64 3) (.int .i64 0) (.string ⟨#[]⟩))
    go_wp2
    have k0 := HK.out.cell 0
    have k1 := HK.out.cell 1
    have k2 := HK.out.cell 2
    simp only [List.getElem?_toArray, List.getElem?_cons_zero, List.getElem?_cons_succ] at k0 k1 k2
    refine bodyPost_ret (v := .agg #[.int .i64 3, .int .i64 0, .string ⟨#[]⟩]) (by simp [results, Tryz.results158, go_sem, k0, k1, k2] <;> rfl) rfl ⟨rfl, below_sets3 HB.out w.heap.size (Nat.le_refl _) _ _ _⟩
set_option maxRecDepth 100000 in
set_option maxHeartbeats 4000000 in
theorem itext_any (s : List UInt8) (hs : s.length ≤ 9223372036854775807) (w : World) :
    Calls Tryz.prog 159 #[.string (bs s)] w fun e w' => e = endR (txS s) ∧ Below w.heap.size w w' := by
  obtain ⟨v0, hW0, hb0, hr0⟩ := boxes1 w #[.int .i64 0, .int .i64 0, .string ⟨#[]⟩] 52
  have HW := Lib.hid hW0; have HB := Lib.hid hb0; have HRB := Lib.hid hr0; clear hW0 hb0 hr0
  go_enter Tryz.func159, Tryz.ntmps159
  go_upto_region 1 with (fail)
  rw [HW.out]
  clear HW
  by_cases h : 64 < s.length
  · have h' : (64 : Int) < (s.length : Int) := by omega
    have HT := Lib.hid (show txS s = .ab 1006 from if_pos h)
    go_wp2_with fail
    refine (iabort_any 1006 _).mono ?_
    rintro er w1 ⟨rfl, rfl⟩
    go_wp2
    exact ⟨rfl, by rw [HT.out] <;> rfl, HB.out⟩
  have h' : ¬ (64 : Int) < (s.length : Int) := by omega
  have HT := Lib.hid (show txS s = .ok (strVl s) from if_neg h)
  clear h
  have r0 : v0.cell? ⟨w.heap.size, 0, none⟩ = some (.int .i64 0) := HRB.out.cell 0
  have r1 : v0.cell? ⟨w.heap.size, 1, none⟩ = some (.int .i64 0) := HRB.out.cell 1
  have r2 : v0.cell? ⟨w.heap.size, 2, none⟩ = some (.string ⟨#[]⟩) := HRB.out.cell 2
  have f0 := HRB.out.free 0
  have f1 := HRB.out.free 1
  have f2 := HRB.out.free 2
  have HK := Lib.hid (HRB.out.sets3 (.int .i64 2) (.int .i64 0) (.string (bs s)))
  go_wp2
  have k0 := HK.out.cell 0
  have k1 := HK.out.cell 1
  have k2 := HK.out.cell 2
  simp only [List.getElem?_toArray, List.getElem?_cons_zero, List.getElem?_cons_succ] at k0 k1 k2
  refine bodyPost_ret (v := .agg #[.int .i64 2, .int .i64 0, .string (bs s)]) (by simp [results, Tryz.results159, go_sem, k0, k1, k2] <;> rfl) rfl ⟨by rw [HT.out] <;> rfl, below_sets3 HB.out w.heap.size (Nat.le_refl _) _ _ _⟩
set_option maxRecDepth 100000 in
set_option maxHeartbeats 4000000 in
theorem exact_any (n e : Int) (w : World) :
    Calls Tryz.prog 156 #[.int .i64 n, .int .i64 e] w fun E w' => E = endR (exS (n, e)) ∧ Below w.heap.size w w' := by
  obtain ⟨v0, hW0, hb0, hr0⟩ := boxes1 w #[.int .i64 0, .int .i64 0, .string ⟨#[]⟩] 52
  have HW := Lib.hid hW0; have HB := Lib.hid hb0; have HRB := Lib.hid hr0; clear hW0 hb0 hr0
  go_enter Tryz.func156, Tryz.ntmps156
  go_upto_region 1 with (fail)
  rw [HW.out]
  clear HW
  by_cases h0 : e = 0
  · subst h0
    have HT := Lib.hid (show exS (n, 0) = .ok (numV n) from if_pos rfl)
    go_wp2_with fail
    refine (integer_any n _).mono ?_
    rintro er w1 ⟨rfl, hb1⟩
    have HRB := Lib.hid (HRB.out.call hb1); have HB := Lib.hid (btrans HB.out HB.out.size hb1); clear hb1
    simp only [endR, vV, numV]
    have r0 : w1.cell? ⟨w.heap.size, 0, none⟩ = some (.int .i64 0) := HRB.out.cell 0
    have r1 : w1.cell? ⟨w.heap.size, 1, none⟩ = some (.int .i64 0) := HRB.out.cell 1
    have r2 : w1.cell? ⟨w.heap.size, 2, none⟩ = some (.string ⟨#[]⟩) := HRB.out.cell 2
    have f0 := HRB.out.free 0
    have f1 := HRB.out.free 1
    have f2 := HRB.out.free 2
    have HK := Lib.hid (HRB.out.sets3 (.int .i64 1) (.int .i64 n) (.string (bs [])))
    go_wp2
    have k0 := HK.out.cell 0
    have k1 := HK.out.cell 1
    have k2 := HK.out.cell 2
    simp only [List.getElem?_toArray, List.getElem?_cons_zero, List.getElem?_cons_succ] at k0 k1 k2
    refine bodyPost_ret (v := .agg #[.int .i64 1, .int .i64 n, .string (bs [])]) (by simp [results, Tryz.results156, go_sem, k0, k1, k2] <;> rfl) rfl ⟨by rw [HT.out] <;> rfl, below_sets3 HB.out w.heap.size (Nat.le_refl _) _ _ _⟩
  have t0 : (e == 0) = false := by rw [beq_eq_false_iff_ne]; exact h0
  by_cases h4 : e = 4
  · have HT := Lib.hid (show exS (n, e) = .ab 1002 by unfold exS; rw [if_neg h0, if_pos h4])
    have t4 : (e == 4) = true := by rw [h4]; rfl
    clear h0 h4
    go_wp2_with fail
    refine (iabort_any 1002 _).mono ?_
    rintro er w1 ⟨rfl, rfl⟩
    go_wp2
    exact ⟨rfl, by rw [HT.out] <;> rfl, HB.out⟩
  have t4 : (e == 4) = false := by rw [beq_eq_false_iff_ne]; exact h4
  have HT := Lib.hid (show exS (n, e) = .ab 1001 by unfold exS; rw [if_neg h0, if_neg h4])
  clear h0 h4
  go_wp2_with fail
  refine (iabort_any 1001 _).mono ?_
  rintro er w1 ⟨rfl, rfl⟩
  go_wp2
  exact ⟨rfl, by rw [HT.out] <;> rfl, HB.out⟩
set_option maxRecDepth 100000 in
set_option maxHeartbeats 8000000 in
theorem arith_any (op a b : Int) (w : World) (ha1 : -9223372036854775808 ≤ a) (ha2 : a ≤ 9223372036854775807) (hb1 : -9223372036854775808 ≤ b) (hb2 : b ≤ 9223372036854775807) :
    Calls Tryz.prog 162 #[.int .i64 op, .int .i64 a, .int .i64 b] w fun E w' => E = endR (exS (ariS op a b)) ∧ Below w.heap.size w w' := by
  obtain ⟨R, hR⟩ : ∃ R, exS (ariS op a b) = R := ⟨_, rfl⟩
  rw [hR]
  obtain ⟨v0, hW0, hb0, hr0⟩ := boxes1 w #[.int .i64 0, .int .i64 0, .string ⟨#[]⟩] 52
  have HW := Lib.hid hW0; have HB := Lib.hid hb0; have HRB := Lib.hid hr0; clear hW0 hb0 hr0
  go_enter Tryz.func162, Tryz.ntmps162
  go_upto_region 1 with (fail)
  rw [HW.out]
  clear HW
  by_cases h4 : op = 4
  · have t4 : (op == 4) = true := by rw [h4]; rfl
    obtain ⟨⟨n, e⟩, hx⟩ : ∃ x, addS a b = x := ⟨_, rfl⟩
    have HX := Lib.hid hx
    have HE := Lib.hid (show exS (n, e) = R by rw [← hR, ← hx]; unfold ariS; rw [if_pos h4])
    clear hx hR h4
    go_wp2_with fail
    refine (Add_any a b _ ha1 ha2 hb1 hb2).mono ?_
    rw [HX.out]
    rintro er w1 ⟨rfl, rfl⟩
    go_wp2_with fail
    refine (exact_any n e _).mono ?_
    rw [HE.out]
    rintro er w2 ⟨rfl, hb2⟩
    have HRB := Lib.hid (HRB.out.call hb2); have HB := Lib.hid (btrans HB.out HB.out.size hb2); clear hb2
    rcases R with v | c | q
    · simp only [endR, vV]
      have r0 : w2.cell? ⟨w.heap.size, 0, none⟩ = some (.int .i64 0) := HRB.out.cell 0
      have r1 : w2.cell? ⟨w.heap.size, 1, none⟩ = some (.int .i64 0) := HRB.out.cell 1
      have r2 : w2.cell? ⟨w.heap.size, 2, none⟩ = some (.string ⟨#[]⟩) := HRB.out.cell 2
      have f0 := HRB.out.free 0
      have f1 := HRB.out.free 1
      have f2 := HRB.out.free 2
      have HK := Lib.hid (HRB.out.sets3 (.int .i64 v.k) (.int .i64 v.n) (.string (bs v.s)))
      go_wp2
      have k0 := HK.out.cell 0
      have k1 := HK.out.cell 1
      have k2 := HK.out.cell 2
      simp only [List.getElem?_toArray, List.getElem?_cons_zero, List.getElem?_cons_succ] at k0 k1 k2
      refine bodyPost_ret (v := .agg #[.int .i64 v.k, .int .i64 v.n, .string (bs v.s)]) (by simp [results, Tryz.results162, go_sem, k0, k1, k2] <;> rfl) rfl ⟨rfl, below_sets3 HB.out w.heap.size (Nat.le_refl _) _ _ _⟩
    · simp only [endR]
      go_wp2
      exact ⟨rfl, rfl, HB.out⟩
    · simp only [endR]
      go_wp2
      exact ⟨rfl, rfl, HB.out⟩
  have t4 : (op == 4) = false := by rw [beq_eq_false_iff_ne]; exact h4
  by_cases h5 : op = 5
  · have t5 : (op == 5) = true := by rw [h5]; rfl
    obtain ⟨⟨n, e⟩, hx⟩ : ∃ x, subS a b = x := ⟨_, rfl⟩
    have HX := Lib.hid hx
    have HE := Lib.hid (show exS (n, e) = R by rw [← hR, ← hx]; unfold ariS; rw [if_neg h4, if_pos h5])
    clear hx hR h4 h5
    go_wp2_with fail
    refine (Sub_any a b _ ha1 ha2 hb1 hb2).mono ?_
    rw [HX.out]
    rintro er w1 ⟨rfl, rfl⟩
    go_wp2_with fail
    refine (exact_any n e _).mono ?_
    rw [HE.out]
    rintro er w2 ⟨rfl, hb2⟩
    have HRB := Lib.hid (HRB.out.call hb2); have HB := Lib.hid (btrans HB.out HB.out.size hb2); clear hb2
    rcases R with v | c | q
    · simp only [endR, vV]
      have r0 : w2.cell? ⟨w.heap.size, 0, none⟩ = some (.int .i64 0) := HRB.out.cell 0
      have r1 : w2.cell? ⟨w.heap.size, 1, none⟩ = some (.int .i64 0) := HRB.out.cell 1
      have r2 : w2.cell? ⟨w.heap.size, 2, none⟩ = some (.string ⟨#[]⟩) := HRB.out.cell 2
      have f0 := HRB.out.free 0
      have f1 := HRB.out.free 1
      have f2 := HRB.out.free 2
      have HK := Lib.hid (HRB.out.sets3 (.int .i64 v.k) (.int .i64 v.n) (.string (bs v.s)))
      go_wp2
      have k0 := HK.out.cell 0
      have k1 := HK.out.cell 1
      have k2 := HK.out.cell 2
      simp only [List.getElem?_toArray, List.getElem?_cons_zero, List.getElem?_cons_succ] at k0 k1 k2
      refine bodyPost_ret (v := .agg #[.int .i64 v.k, .int .i64 v.n, .string (bs v.s)]) (by simp [results, Tryz.results162, go_sem, k0, k1, k2] <;> rfl) rfl ⟨rfl, below_sets3 HB.out w.heap.size (Nat.le_refl _) _ _ _⟩
    · simp only [endR]
      go_wp2
      exact ⟨rfl, rfl, HB.out⟩
    · simp only [endR]
      go_wp2
      exact ⟨rfl, rfl, HB.out⟩
  have t5 : (op == 5) = false := by rw [beq_eq_false_iff_ne]; exact h5
  by_cases h6 : op = 6
  · have t6 : (op == 6) = true := by rw [h6]; rfl
    obtain ⟨⟨n, e⟩, hx⟩ : ∃ x, mulS a b = x := ⟨_, rfl⟩
    have HX := Lib.hid hx
    have HE := Lib.hid (show exS (n, e) = R by rw [← hR, ← hx]; unfold ariS; rw [if_neg h4, if_neg h5, if_pos h6])
    clear hx hR h4 h5 h6
    go_wp2_with fail
    refine (Mul_any a b _ ha1 ha2 hb1 hb2).mono ?_
    rw [HX.out]
    rintro er w1 ⟨rfl, rfl⟩
    go_wp2_with fail
    refine (exact_any n e _).mono ?_
    rw [HE.out]
    rintro er w2 ⟨rfl, hb2⟩
    have HRB := Lib.hid (HRB.out.call hb2); have HB := Lib.hid (btrans HB.out HB.out.size hb2); clear hb2
    rcases R with v | c | q
    · simp only [endR, vV]
      have r0 : w2.cell? ⟨w.heap.size, 0, none⟩ = some (.int .i64 0) := HRB.out.cell 0
      have r1 : w2.cell? ⟨w.heap.size, 1, none⟩ = some (.int .i64 0) := HRB.out.cell 1
      have r2 : w2.cell? ⟨w.heap.size, 2, none⟩ = some (.string ⟨#[]⟩) := HRB.out.cell 2
      have f0 := HRB.out.free 0
      have f1 := HRB.out.free 1
      have f2 := HRB.out.free 2
      have HK := Lib.hid (HRB.out.sets3 (.int .i64 v.k) (.int .i64 v.n) (.string (bs v.s)))
      go_wp2
      have k0 := HK.out.cell 0
      have k1 := HK.out.cell 1
      have k2 := HK.out.cell 2
      simp only [List.getElem?_toArray, List.getElem?_cons_zero, List.getElem?_cons_succ] at k0 k1 k2
      refine bodyPost_ret (v := .agg #[.int .i64 v.k, .int .i64 v.n, .string (bs v.s)]) (by simp [results, Tryz.results162, go_sem, k0, k1, k2] <;> rfl) rfl ⟨rfl, below_sets3 HB.out w.heap.size (Nat.le_refl _) _ _ _⟩
    · simp only [endR]
      go_wp2
      exact ⟨rfl, rfl, HB.out⟩
    · simp only [endR]
      go_wp2
      exact ⟨rfl, rfl, HB.out⟩
  have t6 : (op == 6) = false := by rw [beq_eq_false_iff_ne]; exact h6
  by_cases h7 : op = 7
  · have t7 : (op == 7) = true := by rw [h7]; rfl
    obtain ⟨⟨n, e⟩, hx⟩ : ∃ x, divS a b = x := ⟨_, rfl⟩
    have HX := Lib.hid hx
    have HE := Lib.hid (show exS (n, e) = R by rw [← hR, ← hx]; unfold ariS; rw [if_neg h4, if_neg h5, if_neg h6, if_pos h7])
    clear hx hR h4 h5 h6 h7
    go_wp2_with fail
    refine (Div_any a b _ ha1 ha2 hb1 hb2).mono ?_
    rw [HX.out]
    rintro er w1 ⟨rfl, rfl⟩
    go_wp2_with fail
    refine (exact_any n e _).mono ?_
    rw [HE.out]
    rintro er w2 ⟨rfl, hb2⟩
    have HRB := Lib.hid (HRB.out.call hb2); have HB := Lib.hid (btrans HB.out HB.out.size hb2); clear hb2
    rcases R with v | c | q
    · simp only [endR, vV]
      have r0 : w2.cell? ⟨w.heap.size, 0, none⟩ = some (.int .i64 0) := HRB.out.cell 0
      have r1 : w2.cell? ⟨w.heap.size, 1, none⟩ = some (.int .i64 0) := HRB.out.cell 1
      have r2 : w2.cell? ⟨w.heap.size, 2, none⟩ = some (.string ⟨#[]⟩) := HRB.out.cell 2
      have f0 := HRB.out.free 0
      have f1 := HRB.out.free 1
      have f2 := HRB.out.free 2
      have HK := Lib.hid (HRB.out.sets3 (.int .i64 v.k) (.int .i64 v.n) (.string (bs v.s)))
      go_wp2
      have k0 := HK.out.cell 0
      have k1 := HK.out.cell 1
      have k2 := HK.out.cell 2
      simp only [List.getElem?_toArray, List.getElem?_cons_zero, List.getElem?_cons_succ] at k0 k1 k2
      refine bodyPost_ret (v := .agg #[.int .i64 v.k, .int .i64 v.n, .string (bs v.s)]) (by simp [results, Tryz.results162, go_sem, k0, k1, k2] <;> rfl) rfl ⟨rfl, below_sets3 HB.out w.heap.size (Nat.le_refl _) _ _ _⟩
    · simp only [endR]
      go_wp2
      exact ⟨rfl, rfl, HB.out⟩
    · simp only [endR]
      go_wp2
      exact ⟨rfl, rfl, HB.out⟩
  have t7 : (op == 7) = false := by rw [beq_eq_false_iff_ne]; exact h7
  obtain ⟨⟨n, e⟩, hx⟩ : ∃ x, modS a b = x := ⟨_, rfl⟩
  have HX := Lib.hid hx
  have HE := Lib.hid (show exS (n, e) = R by rw [← hR, ← hx]; unfold ariS; rw [if_neg h4, if_neg h5, if_neg h6, if_neg h7])
  clear hx hR h4 h5 h6 h7
  go_wp2_with fail
  refine (Mod_any a b _ ha1 ha2 hb1 hb2).mono ?_
  rw [HX.out]
  rintro er w1 ⟨rfl, rfl⟩
  go_wp2_with fail
  refine (exact_any n e _).mono ?_
  rw [HE.out]
  rintro er w2 ⟨rfl, hb2⟩
  have HRB := Lib.hid (HRB.out.call hb2); have HB := Lib.hid (btrans HB.out HB.out.size hb2); clear hb2
  rcases R with v | c | q
  · simp only [endR, vV]
    have r0 : w2.cell? ⟨w.heap.size, 0, none⟩ = some (.int .i64 0) := HRB.out.cell 0
    have r1 : w2.cell? ⟨w.heap.size, 1, none⟩ = some (.int .i64 0) := HRB.out.cell 1
    have r2 : w2.cell? ⟨w.heap.size, 2, none⟩ = some (.string ⟨#[]⟩) := HRB.out.cell 2
    have f0 := HRB.out.free 0
    have f1 := HRB.out.free 1
    have f2 := HRB.out.free 2
    have HK := Lib.hid (HRB.out.sets3 (.int .i64 v.k) (.int .i64 v.n) (.string (bs v.s)))
    go_wp2
    have k0 := HK.out.cell 0
    have k1 := HK.out.cell 1
    have k2 := HK.out.cell 2
    simp only [List.getElem?_toArray, List.getElem?_cons_zero, List.getElem?_cons_succ] at k0 k1 k2
    refine bodyPost_ret (v := .agg #[.int .i64 v.k, .int .i64 v.n, .string (bs v.s)]) (by simp [results, Tryz.results162, go_sem, k0, k1, k2] <;> rfl) rfl ⟨rfl, below_sets3 HB.out w.heap.size (Nat.le_refl _) _ _ _⟩
  · simp only [endR]
    go_wp2
    exact ⟨rfl, rfl, HB.out⟩
  · simp only [endR]
    go_wp2
    exact ⟨rfl, rfl, HB.out⟩
set_option maxRecDepth 100000 in
set_option maxHeartbeats 16000000 in
theorem icompare_any (op : Int) (a b : Vl) (w : World) (h10 : 10 ≤ op) (h15 : op ≤ 15) :
    Calls Tryz.prog 163 #[.int .i64 op, .agg (vV a), .agg (vV b)] w fun E w' => E = endR (cmpS op a b) ∧ Below w.heap.size w w' := by
  obtain ⟨ak, an, az⟩ := a
  obtain ⟨bk, bn, bz⟩ := b
  obtain ⟨R, hR⟩ : ∃ R, cmpS op ⟨ak, an, az⟩ ⟨bk, bn, bz⟩ = R := ⟨_, rfl⟩
  rw [hR]
  simp only [vV]
  obtain ⟨c, hc⟩ : ∃ c, cmpV ⟨ak, an, az⟩ ⟨bk, bn, bz⟩ = c := ⟨_, rfl⟩
  have HCV := Lib.hid hc
  have HR := Lib.hid hR
  clear hR hc
  have hb0 := ((((Below.refl w.heap.size w).alloc (Nat.le_refl _) (.cells #[.int .i64 ak, .int .i64 an, .string (bs az)] 52)).alloc (by simp) (.cells #[.int .i64 bk, .int .i64 bn, .string (bs bz)] 52)).alloc (by simp; try omega) (.cells #[.int .i64 0, .int .i64 0, .string ⟨#[]⟩] 52))
  have h_HA := (((Bx.new w #[.int .i64 ak, .int .i64 an, .string (bs az)] 52).alloc (.cells #[.int .i64 bk, .int .i64 bn, .string (bs bz)] 52)).alloc (.cells #[.int .i64 0, .int .i64 0, .string ⟨#[]⟩] 52))
  have h_HC := ((Bx.new (w.alloc (.cells #[.int .i64 ak, .int .i64 an, .string (bs az)] 52)) #[.int .i64 bk, .int .i64 bn, .string (bs bz)] 52).alloc (.cells #[.int .i64 0, .int .i64 0, .string ⟨#[]⟩] 52))
  rw [show (w.alloc (.cells #[.int .i64 ak, .int .i64 an, .string (bs az)] 52)).heap.size = w.heap.size + 1 by simp] at h_HC
  have h_HRB := (Bx.new ((w.alloc (.cells #[.int .i64 ak, .int .i64 an, .string (bs az)] 52)).alloc (.cells #[.int .i64 bk, .int .i64 bn, .string (bs bz)] 52)) #[.int .i64 0, .int .i64 0, .string ⟨#[]⟩] 52)
  rw [show ((w.alloc (.cells #[.int .i64 ak, .int .i64 an, .string (bs az)] 52)).alloc (.cells #[.int .i64 bk, .int .i64 bn, .string (bs bz)] 52)).heap.size = w.heap.size + 2 by simp] at h_HRB
  have HB := Lib.hid hb0; have HA := Lib.hid h_HA; have HC := Lib.hid h_HC; have HRB := Lib.hid h_HRB
  clear hb0 h_HA h_HC h_HRB
  go_enter Tryz.func163, Tryz.ntmps163
  go_upto_region 1 with (fail)
  generalize hW0 : ((w.alloc (.cells #[.int .i64 ak, .int .i64 an, .string (bs az)] 52)).alloc (.cells #[.int .i64 bk, .int .i64 bn, .string (bs bz)] 52)).alloc (.cells #[.int .i64 0, .int .i64 0, .string ⟨#[]⟩] 52) = v0 at HB HA HC HRB ⊢
  clear hW0
  have a0 : v0.cell? ⟨w.heap.size, 0, none⟩ = some (.int .i64 ak) := HA.out.cell 0
  have a1 : v0.cell? ⟨w.heap.size, 1, none⟩ = some (.int .i64 an) := HA.out.cell 1
  have a2 : v0.cell? ⟨w.heap.size, 2, none⟩ = some (.string (bs az)) := HA.out.cell 2
  have b0 : v0.cell? ⟨(w.heap.size + 1), 0, none⟩ = some (.int .i64 bk) := HC.out.cell 0
  have b1 : v0.cell? ⟨(w.heap.size + 1), 1, none⟩ = some (.int .i64 bn) := HC.out.cell 1
  have b2 : v0.cell? ⟨(w.heap.size + 1), 2, none⟩ = some (.string (bs bz)) := HC.out.cell 2
  by_cases hk : ak = bk
  rotate_left
  · have tk : (ak == bk) = false := by rw [beq_eq_false_iff_ne]; exact hk
    have HF := Lib.hid (show R = .ab 1009 from HR.out.symm.trans (if_neg (fun h => hk h.1)))
    clear hk
    go_wp2_with fail
    refine (must_no _).mono ?_
    rintro er w9 ⟨rfl, rfl⟩
    go_wp2
    exact ⟨rfl, by rw [HF.out] <;> rfl, HB.out⟩
  subst hk
  have tk : (ak == ak) = true := beq_self_eq_true ak
  obtain ⟨okb, hokb⟩ : ∃ q : Bool, q = (ak == 1 || (ak == 2 || (ak == 3 && decide (op ≤ 11)))) := ⟨_, rfl⟩
  clear okb hokb
  by_cases hk1 : ak = 1
  · have tk1 : (ak == 1) = true := by rw [hk1]; rfl
    have HF := Lib.hid (show R = .ok (truV (cmpB op c)) from HR.out.symm.trans ((if_pos ⟨rfl, .inl hk1⟩).trans (by rw [HCV.out])))
    clear hk1
    go_wp2_with fail
    refine (must_yes _).mono ?_
    rintro er w1 ⟨rfl, rfl⟩
    go_wp2_with fail
    refine (VCompare_any ⟨ak, an, az⟩ ⟨ak, bn, bz⟩ _).mono ?_
    rw [HCV.out]
    rintro er w2 ⟨rfl, hb2⟩
    clear a0 a1 a2
    clear b0 b1 b2
    have HA := Lib.hid (HA.out.call hb2); have HC := Lib.hid (HC.out.call hb2); have HRB := Lib.hid (HRB.out.call hb2); have HB := Lib.hid (btrans HB.out HB.out.size hb2); clear hb2
    have hop : op = 10 ∨ op = 11 ∨ op = 12 ∨ op = 13 ∨ op = 14 ∨ op = 15 := by omega
    clear h10 h15 tk
    rcases hop with rfl | rfl | rfl | rfl | rfl | rfl
    · by_cases hq : c = 0
      · have HG := Lib.hid (show cmpB 10 c = true from decide_eq_true hq)
        have tq : (c == 0) = true := by rw [hq]; rfl
        clear hq
        go_wp2_with fail
        refine (itruth_any true _).mono ?_
        rintro er w3 ⟨rfl, hb3⟩
        have HA := Lib.hid (HA.out.call hb3); have HC := Lib.hid (HC.out.call hb3); have HRB := Lib.hid (HRB.out.call hb3); have HB := Lib.hid (btrans HB.out HB.out.size hb3); clear hb3
        simp only [endR, vV, truV, if_true]
        have r0 : w3.cell? ⟨(w.heap.size + 2), 0, none⟩ = some (.int .i64 0) := HRB.out.cell 0
        have r1 : w3.cell? ⟨(w.heap.size + 2), 1, none⟩ = some (.int .i64 0) := HRB.out.cell 1
        have r2 : w3.cell? ⟨(w.heap.size + 2), 2, none⟩ = some (.string ⟨#[]⟩) := HRB.out.cell 2
        have f0 := HRB.out.free 0
        have f1 := HRB.out.free 1
        have f2 := HRB.out.free 2
        have HK := Lib.hid (HRB.out.sets3 (.int .i64 3) (.int .i64 1) (.string (bs [])))
        go_wp2
        have k0 := HK.out.cell 0
        have k1 := HK.out.cell 1
        have k2 := HK.out.cell 2
        simp only [List.getElem?_toArray, List.getElem?_cons_zero, List.getElem?_cons_succ] at k0 k1 k2
        refine bodyPost_ret (v := .agg #[.int .i64 3, .int .i64 1, .string (bs [])]) (by simp [results, Tryz.results163, go_sem, k0, k1, k2] <;> rfl) rfl ⟨by rw [HF.out, HG.out] <;> rfl, below_sets3 HB.out (w.heap.size + 2) (by omega) _ _ _⟩
      · have HG := Lib.hid (show cmpB 10 c = false from decide_eq_false hq)
        have tq : (c == 0) = false := by rw [beq_eq_false_iff_ne]; exact hq
        clear hq
        go_wp2_with fail
        refine (itruth_any false _).mono ?_
        rintro er w3 ⟨rfl, hb3⟩
        have HA := Lib.hid (HA.out.call hb3); have HC := Lib.hid (HC.out.call hb3); have HRB := Lib.hid (HRB.out.call hb3); have HB := Lib.hid (btrans HB.out HB.out.size hb3); clear hb3
        simp only [endR, vV, truV, Bool.false_eq_true, if_false]
        have r0 : w3.cell? ⟨(w.heap.size + 2), 0, none⟩ = some (.int .i64 0) := HRB.out.cell 0
        have r1 : w3.cell? ⟨(w.heap.size + 2), 1, none⟩ = some (.int .i64 0) := HRB.out.cell 1
        have r2 : w3.cell? ⟨(w.heap.size + 2), 2, none⟩ = some (.string ⟨#[]⟩) := HRB.out.cell 2
        have f0 := HRB.out.free 0
        have f1 := HRB.out.free 1
        have f2 := HRB.out.free 2
        have HK := Lib.hid (HRB.out.sets3 (.int .i64 3) (.int .i64 0) (.string (bs [])))
        go_wp2
        have k0 := HK.out.cell 0
        have k1 := HK.out.cell 1
        have k2 := HK.out.cell 2
        simp only [List.getElem?_toArray, List.getElem?_cons_zero, List.getElem?_cons_succ] at k0 k1 k2
        refine bodyPost_ret (v := .agg #[.int .i64 3, .int .i64 0, .string (bs [])]) (by simp [results, Tryz.results163, go_sem, k0, k1, k2] <;> rfl) rfl ⟨by rw [HF.out, HG.out] <;> rfl, below_sets3 HB.out (w.heap.size + 2) (by omega) _ _ _⟩
    · by_cases hq : c = 0
      · have HG := Lib.hid (show cmpB 11 c = false from decide_eq_false (fun h => h hq))
        have tq : (c != 0) = false := by rw [hq]; rfl
        clear hq
        go_wp2_with fail
        refine (itruth_any false _).mono ?_
        rintro er w3 ⟨rfl, hb3⟩
        have HA := Lib.hid (HA.out.call hb3); have HC := Lib.hid (HC.out.call hb3); have HRB := Lib.hid (HRB.out.call hb3); have HB := Lib.hid (btrans HB.out HB.out.size hb3); clear hb3
        simp only [endR, vV, truV, Bool.false_eq_true, if_false]
        have r0 : w3.cell? ⟨(w.heap.size + 2), 0, none⟩ = some (.int .i64 0) := HRB.out.cell 0
        have r1 : w3.cell? ⟨(w.heap.size + 2), 1, none⟩ = some (.int .i64 0) := HRB.out.cell 1
        have r2 : w3.cell? ⟨(w.heap.size + 2), 2, none⟩ = some (.string ⟨#[]⟩) := HRB.out.cell 2
        have f0 := HRB.out.free 0
        have f1 := HRB.out.free 1
        have f2 := HRB.out.free 2
        have HK := Lib.hid (HRB.out.sets3 (.int .i64 3) (.int .i64 0) (.string (bs [])))
        go_wp2
        have k0 := HK.out.cell 0
        have k1 := HK.out.cell 1
        have k2 := HK.out.cell 2
        simp only [List.getElem?_toArray, List.getElem?_cons_zero, List.getElem?_cons_succ] at k0 k1 k2
        refine bodyPost_ret (v := .agg #[.int .i64 3, .int .i64 0, .string (bs [])]) (by simp [results, Tryz.results163, go_sem, k0, k1, k2] <;> rfl) rfl ⟨by rw [HF.out, HG.out] <;> rfl, below_sets3 HB.out (w.heap.size + 2) (by omega) _ _ _⟩
      · have HG := Lib.hid (show cmpB 11 c = true from decide_eq_true hq)
        have tq : (c != 0) = true := by rw [bne_iff_ne]; exact hq
        clear hq
        go_wp2_with fail
        refine (itruth_any true _).mono ?_
        rintro er w3 ⟨rfl, hb3⟩
        have HA := Lib.hid (HA.out.call hb3); have HC := Lib.hid (HC.out.call hb3); have HRB := Lib.hid (HRB.out.call hb3); have HB := Lib.hid (btrans HB.out HB.out.size hb3); clear hb3
        simp only [endR, vV, truV, if_true]
        have r0 : w3.cell? ⟨(w.heap.size + 2), 0, none⟩ = some (.int .i64 0) := HRB.out.cell 0
        have r1 : w3.cell? ⟨(w.heap.size + 2), 1, none⟩ = some (.int .i64 0) := HRB.out.cell 1
        have r2 : w3.cell? ⟨(w.heap.size + 2), 2, none⟩ = some (.string ⟨#[]⟩) := HRB.out.cell 2
        have f0 := HRB.out.free 0
        have f1 := HRB.out.free 1
        have f2 := HRB.out.free 2
        have HK := Lib.hid (HRB.out.sets3 (.int .i64 3) (.int .i64 1) (.string (bs [])))
        go_wp2
        have k0 := HK.out.cell 0
        have k1 := HK.out.cell 1
        have k2 := HK.out.cell 2
        simp only [List.getElem?_toArray, List.getElem?_cons_zero, List.getElem?_cons_succ] at k0 k1 k2
        refine bodyPost_ret (v := .agg #[.int .i64 3, .int .i64 1, .string (bs [])]) (by simp [results, Tryz.results163, go_sem, k0, k1, k2] <;> rfl) rfl ⟨by rw [HF.out, HG.out] <;> rfl, below_sets3 HB.out (w.heap.size + 2) (by omega) _ _ _⟩
    · by_cases hq : c < 0
      · have HG := Lib.hid (show cmpB 12 c = true from decide_eq_true hq)
        go_wp2_with fail
        refine (itruth_any true _).mono ?_
        rintro er w3 ⟨rfl, hb3⟩
        have HA := Lib.hid (HA.out.call hb3); have HC := Lib.hid (HC.out.call hb3); have HRB := Lib.hid (HRB.out.call hb3); have HB := Lib.hid (btrans HB.out HB.out.size hb3); clear hb3
        simp only [endR, vV, truV, if_true]
        have r0 : w3.cell? ⟨(w.heap.size + 2), 0, none⟩ = some (.int .i64 0) := HRB.out.cell 0
        have r1 : w3.cell? ⟨(w.heap.size + 2), 1, none⟩ = some (.int .i64 0) := HRB.out.cell 1
        have r2 : w3.cell? ⟨(w.heap.size + 2), 2, none⟩ = some (.string ⟨#[]⟩) := HRB.out.cell 2
        have f0 := HRB.out.free 0
        have f1 := HRB.out.free 1
        have f2 := HRB.out.free 2
        have HK := Lib.hid (HRB.out.sets3 (.int .i64 3) (.int .i64 1) (.string (bs [])))
        go_wp2
        have k0 := HK.out.cell 0
        have k1 := HK.out.cell 1
        have k2 := HK.out.cell 2
        simp only [List.getElem?_toArray, List.getElem?_cons_zero, List.getElem?_cons_succ] at k0 k1 k2
        refine bodyPost_ret (v := .agg #[.int .i64 3, .int .i64 1, .string (bs [])]) (by simp [results, Tryz.results163, go_sem, k0, k1, k2] <;> rfl) rfl ⟨by rw [HF.out, HG.out] <;> rfl, below_sets3 HB.out (w.heap.size + 2) (by omega) _ _ _⟩
      · have HG := Lib.hid (show cmpB 12 c = false from decide_eq_false hq)
        have tq : decide (c < 0) = false := decide_eq_false hq
        clear hq
        go_wp2_with fail
        refine (itruth_any false _).mono ?_
        rintro er w3 ⟨rfl, hb3⟩
        have HA := Lib.hid (HA.out.call hb3); have HC := Lib.hid (HC.out.call hb3); have HRB := Lib.hid (HRB.out.call hb3); have HB := Lib.hid (btrans HB.out HB.out.size hb3); clear hb3
        simp only [endR, vV, truV, Bool.false_eq_true, if_false]
        have r0 : w3.cell? ⟨(w.heap.size + 2), 0, none⟩ = some (.int .i64 0) := HRB.out.cell 0
        have r1 : w3.cell? ⟨(w.heap.size + 2), 1, none⟩ = some (.int .i64 0) := HRB.out.cell 1
        have r2 : w3.cell? ⟨(w.heap.size + 2), 2, none⟩ = some (.string ⟨#[]⟩) := HRB.out.cell 2
        have f0 := HRB.out.free 0
        have f1 := HRB.out.free 1
        have f2 := HRB.out.free 2
        have HK := Lib.hid (HRB.out.sets3 (.int .i64 3) (.int .i64 0) (.string (bs [])))
        go_wp2
        have k0 := HK.out.cell 0
        have k1 := HK.out.cell 1
        have k2 := HK.out.cell 2
        simp only [List.getElem?_toArray, List.getElem?_cons_zero, List.getElem?_cons_succ] at k0 k1 k2
        refine bodyPost_ret (v := .agg #[.int .i64 3, .int .i64 0, .string (bs [])]) (by simp [results, Tryz.results163, go_sem, k0, k1, k2] <;> rfl) rfl ⟨by rw [HF.out, HG.out] <;> rfl, below_sets3 HB.out (w.heap.size + 2) (by omega) _ _ _⟩
    · by_cases hq : c ≤ 0
      · have HG := Lib.hid (show cmpB 13 c = true from decide_eq_true hq)
        go_wp2_with fail
        refine (itruth_any true _).mono ?_
        rintro er w3 ⟨rfl, hb3⟩
        have HA := Lib.hid (HA.out.call hb3); have HC := Lib.hid (HC.out.call hb3); have HRB := Lib.hid (HRB.out.call hb3); have HB := Lib.hid (btrans HB.out HB.out.size hb3); clear hb3
        simp only [endR, vV, truV, if_true]
        have r0 : w3.cell? ⟨(w.heap.size + 2), 0, none⟩ = some (.int .i64 0) := HRB.out.cell 0
        have r1 : w3.cell? ⟨(w.heap.size + 2), 1, none⟩ = some (.int .i64 0) := HRB.out.cell 1
        have r2 : w3.cell? ⟨(w.heap.size + 2), 2, none⟩ = some (.string ⟨#[]⟩) := HRB.out.cell 2
        have f0 := HRB.out.free 0
        have f1 := HRB.out.free 1
        have f2 := HRB.out.free 2
        have HK := Lib.hid (HRB.out.sets3 (.int .i64 3) (.int .i64 1) (.string (bs [])))
        go_wp2
        have k0 := HK.out.cell 0
        have k1 := HK.out.cell 1
        have k2 := HK.out.cell 2
        simp only [List.getElem?_toArray, List.getElem?_cons_zero, List.getElem?_cons_succ] at k0 k1 k2
        refine bodyPost_ret (v := .agg #[.int .i64 3, .int .i64 1, .string (bs [])]) (by simp [results, Tryz.results163, go_sem, k0, k1, k2] <;> rfl) rfl ⟨by rw [HF.out, HG.out] <;> rfl, below_sets3 HB.out (w.heap.size + 2) (by omega) _ _ _⟩
      · have HG := Lib.hid (show cmpB 13 c = false from decide_eq_false hq)
        have tq : decide (c ≤ 0) = false := decide_eq_false hq
        clear hq
        go_wp2_with fail
        refine (itruth_any false _).mono ?_
        rintro er w3 ⟨rfl, hb3⟩
        have HA := Lib.hid (HA.out.call hb3); have HC := Lib.hid (HC.out.call hb3); have HRB := Lib.hid (HRB.out.call hb3); have HB := Lib.hid (btrans HB.out HB.out.size hb3); clear hb3
        simp only [endR, vV, truV, Bool.false_eq_true, if_false]
        have r0 : w3.cell? ⟨(w.heap.size + 2), 0, none⟩ = some (.int .i64 0) := HRB.out.cell 0
        have r1 : w3.cell? ⟨(w.heap.size + 2), 1, none⟩ = some (.int .i64 0) := HRB.out.cell 1
        have r2 : w3.cell? ⟨(w.heap.size + 2), 2, none⟩ = some (.string ⟨#[]⟩) := HRB.out.cell 2
        have f0 := HRB.out.free 0
        have f1 := HRB.out.free 1
        have f2 := HRB.out.free 2
        have HK := Lib.hid (HRB.out.sets3 (.int .i64 3) (.int .i64 0) (.string (bs [])))
        go_wp2
        have k0 := HK.out.cell 0
        have k1 := HK.out.cell 1
        have k2 := HK.out.cell 2
        simp only [List.getElem?_toArray, List.getElem?_cons_zero, List.getElem?_cons_succ] at k0 k1 k2
        refine bodyPost_ret (v := .agg #[.int .i64 3, .int .i64 0, .string (bs [])]) (by simp [results, Tryz.results163, go_sem, k0, k1, k2] <;> rfl) rfl ⟨by rw [HF.out, HG.out] <;> rfl, below_sets3 HB.out (w.heap.size + 2) (by omega) _ _ _⟩
    · by_cases hq : 0 < c
      · have HG := Lib.hid (show cmpB 14 c = true from decide_eq_true hq)
        go_wp2_with fail
        refine (itruth_any true _).mono ?_
        rintro er w3 ⟨rfl, hb3⟩
        have HA := Lib.hid (HA.out.call hb3); have HC := Lib.hid (HC.out.call hb3); have HRB := Lib.hid (HRB.out.call hb3); have HB := Lib.hid (btrans HB.out HB.out.size hb3); clear hb3
        simp only [endR, vV, truV, if_true]
        have r0 : w3.cell? ⟨(w.heap.size + 2), 0, none⟩ = some (.int .i64 0) := HRB.out.cell 0
        have r1 : w3.cell? ⟨(w.heap.size + 2), 1, none⟩ = some (.int .i64 0) := HRB.out.cell 1
        have r2 : w3.cell? ⟨(w.heap.size + 2), 2, none⟩ = some (.string ⟨#[]⟩) := HRB.out.cell 2
        have f0 := HRB.out.free 0
        have f1 := HRB.out.free 1
        have f2 := HRB.out.free 2
        have HK := Lib.hid (HRB.out.sets3 (.int .i64 3) (.int .i64 1) (.string (bs [])))
        go_wp2
        have k0 := HK.out.cell 0
        have k1 := HK.out.cell 1
        have k2 := HK.out.cell 2
        simp only [List.getElem?_toArray, List.getElem?_cons_zero, List.getElem?_cons_succ] at k0 k1 k2
        refine bodyPost_ret (v := .agg #[.int .i64 3, .int .i64 1, .string (bs [])]) (by simp [results, Tryz.results163, go_sem, k0, k1, k2] <;> rfl) rfl ⟨by rw [HF.out, HG.out] <;> rfl, below_sets3 HB.out (w.heap.size + 2) (by omega) _ _ _⟩
      · have HG := Lib.hid (show cmpB 14 c = false from decide_eq_false hq)
        have tq : decide (0 < c) = false := decide_eq_false hq
        clear hq
        go_wp2_with fail
        refine (itruth_any false _).mono ?_
        rintro er w3 ⟨rfl, hb3⟩
        have HA := Lib.hid (HA.out.call hb3); have HC := Lib.hid (HC.out.call hb3); have HRB := Lib.hid (HRB.out.call hb3); have HB := Lib.hid (btrans HB.out HB.out.size hb3); clear hb3
        simp only [endR, vV, truV, Bool.false_eq_true, if_false]
        have r0 : w3.cell? ⟨(w.heap.size + 2), 0, none⟩ = some (.int .i64 0) := HRB.out.cell 0
        have r1 : w3.cell? ⟨(w.heap.size + 2), 1, none⟩ = some (.int .i64 0) := HRB.out.cell 1
        have r2 : w3.cell? ⟨(w.heap.size + 2), 2, none⟩ = some (.string ⟨#[]⟩) := HRB.out.cell 2
        have f0 := HRB.out.free 0
        have f1 := HRB.out.free 1
        have f2 := HRB.out.free 2
        have HK := Lib.hid (HRB.out.sets3 (.int .i64 3) (.int .i64 0) (.string (bs [])))
        go_wp2
        have k0 := HK.out.cell 0
        have k1 := HK.out.cell 1
        have k2 := HK.out.cell 2
        simp only [List.getElem?_toArray, List.getElem?_cons_zero, List.getElem?_cons_succ] at k0 k1 k2
        refine bodyPost_ret (v := .agg #[.int .i64 3, .int .i64 0, .string (bs [])]) (by simp [results, Tryz.results163, go_sem, k0, k1, k2] <;> rfl) rfl ⟨by rw [HF.out, HG.out] <;> rfl, below_sets3 HB.out (w.heap.size + 2) (by omega) _ _ _⟩
    · by_cases hq : 0 ≤ c
      · have HG := Lib.hid (show cmpB 15 c = true from decide_eq_true hq)
        go_wp2_with fail
        refine (itruth_any true _).mono ?_
        rintro er w3 ⟨rfl, hb3⟩
        have HA := Lib.hid (HA.out.call hb3); have HC := Lib.hid (HC.out.call hb3); have HRB := Lib.hid (HRB.out.call hb3); have HB := Lib.hid (btrans HB.out HB.out.size hb3); clear hb3
        simp only [endR, vV, truV, if_true]
        have r0 : w3.cell? ⟨(w.heap.size + 2), 0, none⟩ = some (.int .i64 0) := HRB.out.cell 0
        have r1 : w3.cell? ⟨(w.heap.size + 2), 1, none⟩ = some (.int .i64 0) := HRB.out.cell 1
        have r2 : w3.cell? ⟨(w.heap.size + 2), 2, none⟩ = some (.string ⟨#[]⟩) := HRB.out.cell 2
        have f0 := HRB.out.free 0
        have f1 := HRB.out.free 1
        have f2 := HRB.out.free 2
        have HK := Lib.hid (HRB.out.sets3 (.int .i64 3) (.int .i64 1) (.string (bs [])))
        go_wp2
        have k0 := HK.out.cell 0
        have k1 := HK.out.cell 1
        have k2 := HK.out.cell 2
        simp only [List.getElem?_toArray, List.getElem?_cons_zero, List.getElem?_cons_succ] at k0 k1 k2
        refine bodyPost_ret (v := .agg #[.int .i64 3, .int .i64 1, .string (bs [])]) (by simp [results, Tryz.results163, go_sem, k0, k1, k2] <;> rfl) rfl ⟨by rw [HF.out, HG.out] <;> rfl, below_sets3 HB.out (w.heap.size + 2) (by omega) _ _ _⟩
      · have HG := Lib.hid (show cmpB 15 c = false from decide_eq_false hq)
        have tq : decide (0 ≤ c) = false := decide_eq_false hq
        clear hq
        go_wp2_with fail
        refine (itruth_any false _).mono ?_
        rintro er w3 ⟨rfl, hb3⟩
        have HA := Lib.hid (HA.out.call hb3); have HC := Lib.hid (HC.out.call hb3); have HRB := Lib.hid (HRB.out.call hb3); have HB := Lib.hid (btrans HB.out HB.out.size hb3); clear hb3
        simp only [endR, vV, truV, Bool.false_eq_true, if_false]
        have r0 : w3.cell? ⟨(w.heap.size + 2), 0, none⟩ = some (.int .i64 0) := HRB.out.cell 0
        have r1 : w3.cell? ⟨(w.heap.size + 2), 1, none⟩ = some (.int .i64 0) := HRB.out.cell 1
        have r2 : w3.cell? ⟨(w.heap.size + 2), 2, none⟩ = some (.string ⟨#[]⟩) := HRB.out.cell 2
        have f0 := HRB.out.free 0
        have f1 := HRB.out.free 1
        have f2 := HRB.out.free 2
        have HK := Lib.hid (HRB.out.sets3 (.int .i64 3) (.int .i64 0) (.string (bs [])))
        go_wp2
        have k0 := HK.out.cell 0
        have k1 := HK.out.cell 1
        have k2 := HK.out.cell 2
        simp only [List.getElem?_toArray, List.getElem?_cons_zero, List.getElem?_cons_succ] at k0 k1 k2
        refine bodyPost_ret (v := .agg #[.int .i64 3, .int .i64 0, .string (bs [])]) (by simp [results, Tryz.results163, go_sem, k0, k1, k2] <;> rfl) rfl ⟨by rw [HF.out, HG.out] <;> rfl, below_sets3 HB.out (w.heap.size + 2) (by omega) _ _ _⟩
  have tk1 : (ak == 1) = false := by rw [beq_eq_false_iff_ne]; exact hk1
  by_cases hk2 : ak = 2
  · have tk2 : (ak == 2) = true := by rw [hk2]; rfl
    have HF := Lib.hid (show R = .ok (truV (cmpB op c)) from HR.out.symm.trans ((if_pos ⟨rfl, .inr (.inl hk2)⟩).trans (by rw [HCV.out])))
    clear hk1 hk2
    go_wp2_with fail
    refine (must_yes _).mono ?_
    rintro er w1 ⟨rfl, rfl⟩
    go_wp2_with fail
    refine (VCompare_any ⟨ak, an, az⟩ ⟨ak, bn, bz⟩ _).mono ?_
    rw [HCV.out]
    rintro er w2 ⟨rfl, hb2⟩
    clear a0 a1 a2
    clear b0 b1 b2
    have HA := Lib.hid (HA.out.call hb2); have HC := Lib.hid (HC.out.call hb2); have HRB := Lib.hid (HRB.out.call hb2); have HB := Lib.hid (btrans HB.out HB.out.size hb2); clear hb2
    have hop : op = 10 ∨ op = 11 ∨ op = 12 ∨ op = 13 ∨ op = 14 ∨ op = 15 := by omega
    clear h10 h15 tk
    rcases hop with rfl | rfl | rfl | rfl | rfl | rfl
    · by_cases hq : c = 0
      · have HG := Lib.hid (show cmpB 10 c = true from decide_eq_true hq)
        have tq : (c == 0) = true := by rw [hq]; rfl
        clear hq
        go_wp2_with fail
        refine (itruth_any true _).mono ?_
        rintro er w3 ⟨rfl, hb3⟩
        have HA := Lib.hid (HA.out.call hb3); have HC := Lib.hid (HC.out.call hb3); have HRB := Lib.hid (HRB.out.call hb3); have HB := Lib.hid (btrans HB.out HB.out.size hb3); clear hb3
        simp only [endR, vV, truV, if_true]
        have r0 : w3.cell? ⟨(w.heap.size + 2), 0, none⟩ = some (.int .i64 0) := HRB.out.cell 0
        have r1 : w3.cell? ⟨(w.heap.size + 2), 1, none⟩ = some (.int .i64 0) := HRB.out.cell 1
        have r2 : w3.cell? ⟨(w.heap.size + 2), 2, none⟩ = some (.string ⟨#[]⟩) := HRB.out.cell 2
        have f0 := HRB.out.free 0
        have f1 := HRB.out.free 1
        have f2 := HRB.out.free 2
        have HK := Lib.hid (HRB.out.sets3 (.int .i64 3) (.int .i64 1) (.string (bs [])))
        go_wp2
        have k0 := HK.out.cell 0
        have k1 := HK.out.cell 1
        have k2 := HK.out.cell 2
        simp only [List.getElem?_toArray, List.getElem?_cons_zero, List.getElem?_cons_succ] at k0 k1 k2
        refine bodyPost_ret (v := .agg #[.int .i64 3, .int .i64 1, .string (bs [])]) (by simp [results, Tryz.results163, go_sem, k0, k1, k2] <;> rfl) rfl ⟨by rw [HF.out, HG.out] <;> rfl, below_sets3 HB.out (w.heap.size + 2) (by omega) _ _ _⟩
      · have HG := Lib.hid (show cmpB 10 c = false from decide_eq_false hq)
        have tq : (c == 0) = false := by rw [beq_eq_false_iff_ne]; exact hq
        clear hq
        go_wp2_with fail
        refine (itruth_any false _).mono ?_
        rintro er w3 ⟨rfl, hb3⟩
        have HA := Lib.hid (HA.out.call hb3); have HC := Lib.hid (HC.out.call hb3); have HRB := Lib.hid (HRB.out.call hb3); have HB := Lib.hid (btrans HB.out HB.out.size hb3); clear hb3
        simp only [endR, vV, truV, Bool.false_eq_true, if_false]
        have r0 : w3.cell? ⟨(w.heap.size + 2), 0, none⟩ = some (.int .i64 0) := HRB.out.cell 0
        have r1 : w3.cell? ⟨(w.heap.size + 2), 1, none⟩ = some (.int .i64 0) := HRB.out.cell 1
        have r2 : w3.cell? ⟨(w.heap.size + 2), 2, none⟩ = some (.string ⟨#[]⟩) := HRB.out.cell 2
        have f0 := HRB.out.free 0
        have f1 := HRB.out.free 1
        have f2 := HRB.out.free 2
        have HK := Lib.hid (HRB.out.sets3 (.int .i64 3) (.int .i64 0) (.string (bs [])))
        go_wp2
        have k0 := HK.out.cell 0
        have k1 := HK.out.cell 1
        have k2 := HK.out.cell 2
        simp only [List.getElem?_toArray, List.getElem?_cons_zero, List.getElem?_cons_succ] at k0 k1 k2
        refine bodyPost_ret (v := .agg #[.int .i64 3, .int .i64 0, .string (bs [])]) (by simp [results, Tryz.results163, go_sem, k0, k1, k2] <;> rfl) rfl ⟨by rw [HF.out, HG.out] <;> rfl, below_sets3 HB.out (w.heap.size + 2) (by omega) _ _ _⟩
    · by_cases hq : c = 0
      · have HG := Lib.hid (show cmpB 11 c = false from decide_eq_false (fun h => h hq))
        have tq : (c != 0) = false := by rw [hq]; rfl
        clear hq
        go_wp2_with fail
        refine (itruth_any false _).mono ?_
        rintro er w3 ⟨rfl, hb3⟩
        have HA := Lib.hid (HA.out.call hb3); have HC := Lib.hid (HC.out.call hb3); have HRB := Lib.hid (HRB.out.call hb3); have HB := Lib.hid (btrans HB.out HB.out.size hb3); clear hb3
        simp only [endR, vV, truV, Bool.false_eq_true, if_false]
        have r0 : w3.cell? ⟨(w.heap.size + 2), 0, none⟩ = some (.int .i64 0) := HRB.out.cell 0
        have r1 : w3.cell? ⟨(w.heap.size + 2), 1, none⟩ = some (.int .i64 0) := HRB.out.cell 1
        have r2 : w3.cell? ⟨(w.heap.size + 2), 2, none⟩ = some (.string ⟨#[]⟩) := HRB.out.cell 2
        have f0 := HRB.out.free 0
        have f1 := HRB.out.free 1
        have f2 := HRB.out.free 2
        have HK := Lib.hid (HRB.out.sets3 (.int .i64 3) (.int .i64 0) (.string (bs [])))
        go_wp2
        have k0 := HK.out.cell 0
        have k1 := HK.out.cell 1
        have k2 := HK.out.cell 2
        simp only [List.getElem?_toArray, List.getElem?_cons_zero, List.getElem?_cons_succ] at k0 k1 k2
        refine bodyPost_ret (v := .agg #[.int .i64 3, .int .i64 0, .string (bs [])]) (by simp [results, Tryz.results163, go_sem, k0, k1, k2] <;> rfl) rfl ⟨by rw [HF.out, HG.out] <;> rfl, below_sets3 HB.out (w.heap.size + 2) (by omega) _ _ _⟩
      · have HG := Lib.hid (show cmpB 11 c = true from decide_eq_true hq)
        have tq : (c != 0) = true := by rw [bne_iff_ne]; exact hq
        clear hq
        go_wp2_with fail
        refine (itruth_any true _).mono ?_
        rintro er w3 ⟨rfl, hb3⟩
        have HA := Lib.hid (HA.out.call hb3); have HC := Lib.hid (HC.out.call hb3); have HRB := Lib.hid (HRB.out.call hb3); have HB := Lib.hid (btrans HB.out HB.out.size hb3); clear hb3
        simp only [endR, vV, truV, if_true]
        have r0 : w3.cell? ⟨(w.heap.size + 2), 0, none⟩ = some (.int .i64 0) := HRB.out.cell 0
        have r1 : w3.cell? ⟨(w.heap.size + 2), 1, none⟩ = some (.int .i64 0) := HRB.out.cell 1
        have r2 : w3.cell? ⟨(w.heap.size + 2), 2, none⟩ = some (.string ⟨#[]⟩) := HRB.out.cell 2
        have f0 := HRB.out.free 0
        have f1 := HRB.out.free 1
        have f2 := HRB.out.free 2
        have HK := Lib.hid (HRB.out.sets3 (.int .i64 3) (.int .i64 1) (.string (bs [])))
        go_wp2
        have k0 := HK.out.cell 0
        have k1 := HK.out.cell 1
        have k2 := HK.out.cell 2
        simp only [List.getElem?_toArray, List.getElem?_cons_zero, List.getElem?_cons_succ] at k0 k1 k2
        refine bodyPost_ret (v := .agg #[.int .i64 3, .int .i64 1, .string (bs [])]) (by simp [results, Tryz.results163, go_sem, k0, k1, k2] <;> rfl) rfl ⟨by rw [HF.out, HG.out] <;> rfl, below_sets3 HB.out (w.heap.size + 2) (by omega) _ _ _⟩
    · by_cases hq : c < 0
      · have HG := Lib.hid (show cmpB 12 c = true from decide_eq_true hq)
        go_wp2_with fail
        refine (itruth_any true _).mono ?_
        rintro er w3 ⟨rfl, hb3⟩
        have HA := Lib.hid (HA.out.call hb3); have HC := Lib.hid (HC.out.call hb3); have HRB := Lib.hid (HRB.out.call hb3); have HB := Lib.hid (btrans HB.out HB.out.size hb3); clear hb3
        simp only [endR, vV, truV, if_true]
        have r0 : w3.cell? ⟨(w.heap.size + 2), 0, none⟩ = some (.int .i64 0) := HRB.out.cell 0
        have r1 : w3.cell? ⟨(w.heap.size + 2), 1, none⟩ = some (.int .i64 0) := HRB.out.cell 1
        have r2 : w3.cell? ⟨(w.heap.size + 2), 2, none⟩ = some (.string ⟨#[]⟩) := HRB.out.cell 2
        have f0 := HRB.out.free 0
        have f1 := HRB.out.free 1
        have f2 := HRB.out.free 2
        have HK := Lib.hid (HRB.out.sets3 (.int .i64 3) (.int .i64 1) (.string (bs [])))
        go_wp2
        have k0 := HK.out.cell 0
        have k1 := HK.out.cell 1
        have k2 := HK.out.cell 2
        simp only [List.getElem?_toArray, List.getElem?_cons_zero, List.getElem?_cons_succ] at k0 k1 k2
        refine bodyPost_ret (v := .agg #[.int .i64 3, .int .i64 1, .string (bs [])]) (by simp [results, Tryz.results163, go_sem, k0, k1, k2] <;> rfl) rfl ⟨by rw [HF.out, HG.out] <;> rfl, below_sets3 HB.out (w.heap.size + 2) (by omega) _ _ _⟩
      · have HG := Lib.hid (show cmpB 12 c = false from decide_eq_false hq)
        have tq : decide (c < 0) = false := decide_eq_false hq
        clear hq
        go_wp2_with fail
        refine (itruth_any false _).mono ?_
        rintro er w3 ⟨rfl, hb3⟩
        have HA := Lib.hid (HA.out.call hb3); have HC := Lib.hid (HC.out.call hb3); have HRB := Lib.hid (HRB.out.call hb3); have HB := Lib.hid (btrans HB.out HB.out.size hb3); clear hb3
        simp only [endR, vV, truV, Bool.false_eq_true, if_false]
        have r0 : w3.cell? ⟨(w.heap.size + 2), 0, none⟩ = some (.int .i64 0) := HRB.out.cell 0
        have r1 : w3.cell? ⟨(w.heap.size + 2), 1, none⟩ = some (.int .i64 0) := HRB.out.cell 1
        have r2 : w3.cell? ⟨(w.heap.size + 2), 2, none⟩ = some (.string ⟨#[]⟩) := HRB.out.cell 2
        have f0 := HRB.out.free 0
        have f1 := HRB.out.free 1
        have f2 := HRB.out.free 2
        have HK := Lib.hid (HRB.out.sets3 (.int .i64 3) (.int .i64 0) (.string (bs [])))
        go_wp2
        have k0 := HK.out.cell 0
        have k1 := HK.out.cell 1
        have k2 := HK.out.cell 2
        simp only [List.getElem?_toArray, List.getElem?_cons_zero, List.getElem?_cons_succ] at k0 k1 k2
        refine bodyPost_ret (v := .agg #[.int .i64 3, .int .i64 0, .string (bs [])]) (by simp [results, Tryz.results163, go_sem, k0, k1, k2] <;> rfl) rfl ⟨by rw [HF.out, HG.out] <;> rfl, below_sets3 HB.out (w.heap.size + 2) (by omega) _ _ _⟩
    · by_cases hq : c ≤ 0
      · have HG := Lib.hid (show cmpB 13 c = true from decide_eq_true hq)
        go_wp2_with fail
        refine (itruth_any true _).mono ?_
        rintro er w3 ⟨rfl, hb3⟩
        have HA := Lib.hid (HA.out.call hb3); have HC := Lib.hid (HC.out.call hb3); have HRB := Lib.hid (HRB.out.call hb3); have HB := Lib.hid (btrans HB.out HB.out.size hb3); clear hb3
        simp only [endR, vV, truV, if_true]
        have r0 : w3.cell? ⟨(w.heap.size + 2), 0, none⟩ = some (.int .i64 0) := HRB.out.cell 0
        have r1 : w3.cell? ⟨(w.heap.size + 2), 1, none⟩ = some (.int .i64 0) := HRB.out.cell 1
        have r2 : w3.cell? ⟨(w.heap.size + 2), 2, none⟩ = some (.string ⟨#[]⟩) := HRB.out.cell 2
        have f0 := HRB.out.free 0
        have f1 := HRB.out.free 1
        have f2 := HRB.out.free 2
        have HK := Lib.hid (HRB.out.sets3 (.int .i64 3) (.int .i64 1) (.string (bs [])))
        go_wp2
        have k0 := HK.out.cell 0
        have k1 := HK.out.cell 1
        have k2 := HK.out.cell 2
        simp only [List.getElem?_toArray, List.getElem?_cons_zero, List.getElem?_cons_succ] at k0 k1 k2
        refine bodyPost_ret (v := .agg #[.int .i64 3, .int .i64 1, .string (bs [])]) (by simp [results, Tryz.results163, go_sem, k0, k1, k2] <;> rfl) rfl ⟨by rw [HF.out, HG.out] <;> rfl, below_sets3 HB.out (w.heap.size + 2) (by omega) _ _ _⟩
      · have HG := Lib.hid (show cmpB 13 c = false from decide_eq_false hq)
        have tq : decide (c ≤ 0) = false := decide_eq_false hq
        clear hq
        go_wp2_with fail
        refine (itruth_any false _).mono ?_
        rintro er w3 ⟨rfl, hb3⟩
        have HA := Lib.hid (HA.out.call hb3); have HC := Lib.hid (HC.out.call hb3); have HRB := Lib.hid (HRB.out.call hb3); have HB := Lib.hid (btrans HB.out HB.out.size hb3); clear hb3
        simp only [endR, vV, truV, Bool.false_eq_true, if_false]
        have r0 : w3.cell? ⟨(w.heap.size + 2), 0, none⟩ = some (.int .i64 0) := HRB.out.cell 0
        have r1 : w3.cell? ⟨(w.heap.size + 2), 1, none⟩ = some (.int .i64 0) := HRB.out.cell 1
        have r2 : w3.cell? ⟨(w.heap.size + 2), 2, none⟩ = some (.string ⟨#[]⟩) := HRB.out.cell 2
        have f0 := HRB.out.free 0
        have f1 := HRB.out.free 1
        have f2 := HRB.out.free 2
        have HK := Lib.hid (HRB.out.sets3 (.int .i64 3) (.int .i64 0) (.string (bs [])))
        go_wp2
        have k0 := HK.out.cell 0
        have k1 := HK.out.cell 1
        have k2 := HK.out.cell 2
        simp only [List.getElem?_toArray, List.getElem?_cons_zero, List.getElem?_cons_succ] at k0 k1 k2
        refine bodyPost_ret (v := .agg #[.int .i64 3, .int .i64 0, .string (bs [])]) (by simp [results, Tryz.results163, go_sem, k0, k1, k2] <;> rfl) rfl ⟨by rw [HF.out, HG.out] <;> rfl, below_sets3 HB.out (w.heap.size + 2) (by omega) _ _ _⟩
    · by_cases hq : 0 < c
      · have HG := Lib.hid (show cmpB 14 c = true from decide_eq_true hq)
        go_wp2_with fail
        refine (itruth_any true _).mono ?_
        rintro er w3 ⟨rfl, hb3⟩
        have HA := Lib.hid (HA.out.call hb3); have HC := Lib.hid (HC.out.call hb3); have HRB := Lib.hid (HRB.out.call hb3); have HB := Lib.hid (btrans HB.out HB.out.size hb3); clear hb3
        simp only [endR, vV, truV, if_true]
        have r0 : w3.cell? ⟨(w.heap.size + 2), 0, none⟩ = some (.int .i64 0) := HRB.out.cell 0
        have r1 : w3.cell? ⟨(w.heap.size + 2), 1, none⟩ = some (.int .i64 0) := HRB.out.cell 1
        have r2 : w3.cell? ⟨(w.heap.size + 2), 2, none⟩ = some (.string ⟨#[]⟩) := HRB.out.cell 2
        have f0 := HRB.out.free 0
        have f1 := HRB.out.free 1
        have f2 := HRB.out.free 2
        have HK := Lib.hid (HRB.out.sets3 (.int .i64 3) (.int .i64 1) (.string (bs [])))
        go_wp2
        have k0 := HK.out.cell 0
        have k1 := HK.out.cell 1
        have k2 := HK.out.cell 2
        simp only [List.getElem?_toArray, List.getElem?_cons_zero, List.getElem?_cons_succ] at k0 k1 k2
        refine bodyPost_ret (v := .agg #[.int .i64 3, .int .i64 1, .string (bs [])]) (by simp [results, Tryz.results163, go_sem, k0, k1, k2] <;> rfl) rfl ⟨by rw [HF.out, HG.out] <;> rfl, below_sets3 HB.out (w.heap.size + 2) (by omega) _ _ _⟩
      · have HG := Lib.hid (show cmpB 14 c = false from decide_eq_false hq)
        have tq : decide (0 < c) = false := decide_eq_false hq
        clear hq
        go_wp2_with fail
        refine (itruth_any false _).mono ?_
        rintro er w3 ⟨rfl, hb3⟩
        have HA := Lib.hid (HA.out.call hb3); have HC := Lib.hid (HC.out.call hb3); have HRB := Lib.hid (HRB.out.call hb3); have HB := Lib.hid (btrans HB.out HB.out.size hb3); clear hb3
        simp only [endR, vV, truV, Bool.false_eq_true, if_false]
        have r0 : w3.cell? ⟨(w.heap.size + 2), 0, none⟩ = some (.int .i64 0) := HRB.out.cell 0
        have r1 : w3.cell? ⟨(w.heap.size + 2), 1, none⟩ = some (.int .i64 0) := HRB.out.cell 1
        have r2 : w3.cell? ⟨(w.heap.size + 2), 2, none⟩ = some (.string ⟨#[]⟩) := HRB.out.cell 2
        have f0 := HRB.out.free 0
        have f1 := HRB.out.free 1
        have f2 := HRB.out.free 2
        have HK := Lib.hid (HRB.out.sets3 (.int .i64 3) (.int .i64 0) (.string (bs [])))
        go_wp2
        have k0 := HK.out.cell 0
        have k1 := HK.out.cell 1
        have k2 := HK.out.cell 2
        simp only [List.getElem?_toArray, List.getElem?_cons_zero, List.getElem?_cons_succ] at k0 k1 k2
        refine bodyPost_ret (v := .agg #[.int .i64 3, .int .i64 0, .string (bs [])]) (by simp [results, Tryz.results163, go_sem, k0, k1, k2] <;> rfl) rfl ⟨by rw [HF.out, HG.out] <;> rfl, below_sets3 HB.out (w.heap.size + 2) (by omega) _ _ _⟩
    · by_cases hq : 0 ≤ c
      · have HG := Lib.hid (show cmpB 15 c = true from decide_eq_true hq)
        go_wp2_with fail
        refine (itruth_any true _).mono ?_
        rintro er w3 ⟨rfl, hb3⟩
        have HA := Lib.hid (HA.out.call hb3); have HC := Lib.hid (HC.out.call hb3); have HRB := Lib.hid (HRB.out.call hb3); have HB := Lib.hid (btrans HB.out HB.out.size hb3); clear hb3
        simp only [endR, vV, truV, if_true]
        have r0 : w3.cell? ⟨(w.heap.size + 2), 0, none⟩ = some (.int .i64 0) := HRB.out.cell 0
        have r1 : w3.cell? ⟨(w.heap.size + 2), 1, none⟩ = some (.int .i64 0) := HRB.out.cell 1
        have r2 : w3.cell? ⟨(w.heap.size + 2), 2, none⟩ = some (.string ⟨#[]⟩) := HRB.out.cell 2
        have f0 := HRB.out.free 0
        have f1 := HRB.out.free 1
        have f2 := HRB.out.free 2
        have HK := Lib.hid (HRB.out.sets3 (.int .i64 3) (.int .i64 1) (.string (bs [])))
        go_wp2
        have k0 := HK.out.cell 0
        have k1 := HK.out.cell 1
        have k2 := HK.out.cell 2
        simp only [List.getElem?_toArray, List.getElem?_cons_zero, List.getElem?_cons_succ] at k0 k1 k2
        refine bodyPost_ret (v := .agg #[.int .i64 3, .int .i64 1, .string (bs [])]) (by simp [results, Tryz.results163, go_sem, k0, k1, k2] <;> rfl) rfl ⟨by rw [HF.out, HG.out] <;> rfl, below_sets3 HB.out (w.heap.size + 2) (by omega) _ _ _⟩
      · have HG := Lib.hid (show cmpB 15 c = false from decide_eq_false hq)
        have tq : decide (0 ≤ c) = false := decide_eq_false hq
        clear hq
        go_wp2_with fail
        refine (itruth_any false _).mono ?_
        rintro er w3 ⟨rfl, hb3⟩
        have HA := Lib.hid (HA.out.call hb3); have HC := Lib.hid (HC.out.call hb3); have HRB := Lib.hid (HRB.out.call hb3); have HB := Lib.hid (btrans HB.out HB.out.size hb3); clear hb3
        simp only [endR, vV, truV, Bool.false_eq_true, if_false]
        have r0 : w3.cell? ⟨(w.heap.size + 2), 0, none⟩ = some (.int .i64 0) := HRB.out.cell 0
        have r1 : w3.cell? ⟨(w.heap.size + 2), 1, none⟩ = some (.int .i64 0) := HRB.out.cell 1
        have r2 : w3.cell? ⟨(w.heap.size + 2), 2, none⟩ = some (.string ⟨#[]⟩) := HRB.out.cell 2
        have f0 := HRB.out.free 0
        have f1 := HRB.out.free 1
        have f2 := HRB.out.free 2
        have HK := Lib.hid (HRB.out.sets3 (.int .i64 3) (.int .i64 0) (.string (bs [])))
        go_wp2
        have k0 := HK.out.cell 0
        have k1 := HK.out.cell 1
        have k2 := HK.out.cell 2
        simp only [List.getElem?_toArray, List.getElem?_cons_zero, List.getElem?_cons_succ] at k0 k1 k2
        refine bodyPost_ret (v := .agg #[.int .i64 3, .int .i64 0, .string (bs [])]) (by simp [results, Tryz.results163, go_sem, k0, k1, k2] <;> rfl) rfl ⟨by rw [HF.out, HG.out] <;> rfl, below_sets3 HB.out (w.heap.size + 2) (by omega) _ _ _⟩
  have tk2 : (ak == 2) = false := by rw [beq_eq_false_iff_ne]; exact hk2
  by_cases hk3 : ak = 3
  rotate_left
  · have tk3 : (ak == 3) = false := by rw [beq_eq_false_iff_ne]; exact hk3
    have HF := Lib.hid (show R = .ab 1009 from HR.out.symm.trans (if_neg (fun h => h.2.elim hk1 (fun h => h.elim hk2 (fun h => hk3 h.1)))))
    clear hk1 hk2 hk3
    go_wp2_with fail
    refine (must_no _).mono ?_
    rintro er w9 ⟨rfl, rfl⟩
    go_wp2
    exact ⟨rfl, by rw [HF.out] <;> rfl, HB.out⟩
  have tk3 : (ak == 3) = true := by rw [hk3]; rfl
  by_cases h11 : op ≤ 11
  rotate_left
  · have HF := Lib.hid (show R = .ab 1009 from HR.out.symm.trans (if_neg (fun h => h.2.elim hk1 (fun h => h.elim hk2 (fun h => h11 h.2)))))
    clear hk1 hk2 hk3
    go_wp2_with fail
    refine (must_no _).mono ?_
    rintro er w9 ⟨rfl, rfl⟩
    go_wp2
    exact ⟨rfl, by rw [HF.out] <;> rfl, HB.out⟩
  have HF := Lib.hid (show R = .ok (truV (cmpB op c)) from HR.out.symm.trans ((if_pos ⟨rfl, .inr (.inr ⟨hk3, h11⟩)⟩).trans (by rw [HCV.out])))
  clear hk1 hk2 hk3
  go_wp2_with fail
  refine (must_yes _).mono ?_
  rintro er w1 ⟨rfl, rfl⟩
  go_wp2_with fail
  refine (VCompare_any ⟨ak, an, az⟩ ⟨ak, bn, bz⟩ _).mono ?_
  rw [HCV.out]
  rintro er w2 ⟨rfl, hb2⟩
  clear a0 a1 a2
  clear b0 b1 b2
  have HA := Lib.hid (HA.out.call hb2); have HC := Lib.hid (HC.out.call hb2); have HRB := Lib.hid (HRB.out.call hb2); have HB := Lib.hid (btrans HB.out HB.out.size hb2); clear hb2
  have hop : op = 10 ∨ op = 11 := by omega
  clear h10 h15 h11 tk
  rcases hop with rfl | rfl
  · by_cases hq : c = 0
    · have HG := Lib.hid (show cmpB 10 c = true from decide_eq_true hq)
      have tq : (c == 0) = true := by rw [hq]; rfl
      clear hq
      go_wp2_with fail
      refine (itruth_any true _).mono ?_
      rintro er w3 ⟨rfl, hb3⟩
      have HA := Lib.hid (HA.out.call hb3); have HC := Lib.hid (HC.out.call hb3); have HRB := Lib.hid (HRB.out.call hb3); have HB := Lib.hid (btrans HB.out HB.out.size hb3); clear hb3
      simp only [endR, vV, truV, if_true]
      have r0 : w3.cell? ⟨(w.heap.size + 2), 0, none⟩ = some (.int .i64 0) := HRB.out.cell 0
      have r1 : w3.cell? ⟨(w.heap.size + 2), 1, none⟩ = some (.int .i64 0) := HRB.out.cell 1
      have r2 : w3.cell? ⟨(w.heap.size + 2), 2, none⟩ = some (.string ⟨#[]⟩) := HRB.out.cell 2
      have f0 := HRB.out.free 0
      have f1 := HRB.out.free 1
      have f2 := HRB.out.free 2
      have HK := Lib.hid (HRB.out.sets3 (.int .i64 3) (.int .i64 1) (.string (bs [])))
      go_wp2
      have k0 := HK.out.cell 0
      have k1 := HK.out.cell 1
      have k2 := HK.out.cell 2
      simp only [List.getElem?_toArray, List.getElem?_cons_zero, List.getElem?_cons_succ] at k0 k1 k2
      refine bodyPost_ret (v := .agg #[.int .i64 3, .int .i64 1, .string (bs [])]) (by simp [results, Tryz.results163, go_sem, k0, k1, k2] <;> rfl) rfl ⟨by rw [HF.out, HG.out] <;> rfl, below_sets3 HB.out (w.heap.size + 2) (by omega) _ _ _⟩
    · have HG := Lib.hid (show cmpB 10 c = false from decide_eq_false hq)
      have tq : (c == 0) = false := by rw [beq_eq_false_iff_ne]; exact hq
      clear hq
      go_wp2_with fail
      refine (itruth_any false _).mono ?_
      rintro er w3 ⟨rfl, hb3⟩
      have HA := Lib.hid (HA.out.call hb3); have HC := Lib.hid (HC.out.call hb3); have HRB := Lib.hid (HRB.out.call hb3); have HB := Lib.hid (btrans HB.out HB.out.size hb3); clear hb3
      simp only [endR, vV, truV, Bool.false_eq_true, if_false]
      have r0 : w3.cell? ⟨(w.heap.size + 2), 0, none⟩ = some (.int .i64 0) := HRB.out.cell 0
      have r1 : w3.cell? ⟨(w.heap.size + 2), 1, none⟩ = some (.int .i64 0) := HRB.out.cell 1
      have r2 : w3.cell? ⟨(w.heap.size + 2), 2, none⟩ = some (.string ⟨#[]⟩) := HRB.out.cell 2
      have f0 := HRB.out.free 0
      have f1 := HRB.out.free 1
      have f2 := HRB.out.free 2
      have HK := Lib.hid (HRB.out.sets3 (.int .i64 3) (.int .i64 0) (.string (bs [])))
      go_wp2
      have k0 := HK.out.cell 0
      have k1 := HK.out.cell 1
      have k2 := HK.out.cell 2
      simp only [List.getElem?_toArray, List.getElem?_cons_zero, List.getElem?_cons_succ] at k0 k1 k2
      refine bodyPost_ret (v := .agg #[.int .i64 3, .int .i64 0, .string (bs [])]) (by simp [results, Tryz.results163, go_sem, k0, k1, k2] <;> rfl) rfl ⟨by rw [HF.out, HG.out] <;> rfl, below_sets3 HB.out (w.heap.size + 2) (by omega) _ _ _⟩
  · by_cases hq : c = 0
    · have HG := Lib.hid (show cmpB 11 c = false from decide_eq_false (fun h => h hq))
      have tq : (c != 0) = false := by rw [hq]; rfl
      clear hq
      go_wp2_with fail
      refine (itruth_any false _).mono ?_
      rintro er w3 ⟨rfl, hb3⟩
      have HA := Lib.hid (HA.out.call hb3); have HC := Lib.hid (HC.out.call hb3); have HRB := Lib.hid (HRB.out.call hb3); have HB := Lib.hid (btrans HB.out HB.out.size hb3); clear hb3
      simp only [endR, vV, truV, Bool.false_eq_true, if_false]
      have r0 : w3.cell? ⟨(w.heap.size + 2), 0, none⟩ = some (.int .i64 0) := HRB.out.cell 0
      have r1 : w3.cell? ⟨(w.heap.size + 2), 1, none⟩ = some (.int .i64 0) := HRB.out.cell 1
      have r2 : w3.cell? ⟨(w.heap.size + 2), 2, none⟩ = some (.string ⟨#[]⟩) := HRB.out.cell 2
      have f0 := HRB.out.free 0
      have f1 := HRB.out.free 1
      have f2 := HRB.out.free 2
      have HK := Lib.hid (HRB.out.sets3 (.int .i64 3) (.int .i64 0) (.string (bs [])))
      go_wp2
      have k0 := HK.out.cell 0
      have k1 := HK.out.cell 1
      have k2 := HK.out.cell 2
      simp only [List.getElem?_toArray, List.getElem?_cons_zero, List.getElem?_cons_succ] at k0 k1 k2
      refine bodyPost_ret (v := .agg #[.int .i64 3, .int .i64 0, .string (bs [])]) (by simp [results, Tryz.results163, go_sem, k0, k1, k2] <;> rfl) rfl ⟨by rw [HF.out, HG.out] <;> rfl, below_sets3 HB.out (w.heap.size + 2) (by omega) _ _ _⟩
    · have HG := Lib.hid (show cmpB 11 c = true from decide_eq_true hq)
      have tq : (c != 0) = true := by rw [bne_iff_ne]; exact hq
      clear hq
      go_wp2_with fail
      refine (itruth_any true _).mono ?_
      rintro er w3 ⟨rfl, hb3⟩
      have HA := Lib.hid (HA.out.call hb3); have HC := Lib.hid (HC.out.call hb3); have HRB := Lib.hid (HRB.out.call hb3); have HB := Lib.hid (btrans HB.out HB.out.size hb3); clear hb3
      simp only [endR, vV, truV, if_true]
      have r0 : w3.cell? ⟨(w.heap.size + 2), 0, none⟩ = some (.int .i64 0) := HRB.out.cell 0
      have r1 : w3.cell? ⟨(w.heap.size + 2), 1, none⟩ = some (.int .i64 0) := HRB.out.cell 1
      have r2 : w3.cell? ⟨(w.heap.size + 2), 2, none⟩ = some (.string ⟨#[]⟩) := HRB.out.cell 2
      have f0 := HRB.out.free 0
      have f1 := HRB.out.free 1
      have f2 := HRB.out.free 2
      have HK := Lib.hid (HRB.out.sets3 (.int .i64 3) (.int .i64 1) (.string (bs [])))
      go_wp2
      have k0 := HK.out.cell 0
      have k1 := HK.out.cell 1
      have k2 := HK.out.cell 2
      simp only [List.getElem?_toArray, List.getElem?_cons_zero, List.getElem?_cons_succ] at k0 k1 k2
      refine bodyPost_ret (v := .agg #[.int .i64 3, .int .i64 1, .string (bs [])]) (by simp [results, Tryz.results163, go_sem, k0, k1, k2] <;> rfl) rfl ⟨by rw [HF.out, HG.out] <;> rfl, below_sets3 HB.out (w.heap.size + 2) (by omega) _ _ _⟩
set_option maxRecDepth 100000 in
set_option maxHeartbeats 16000000 in
theorem ibinary_any (op : Int) (a b : Vl) (w : World) (h4 : 4 ≤ op) (h19 : op ≤ 19) (h9 : op ≠ 9) (h18 : op ≠ 18) (ha1 : -9223372036854775808 ≤ a.n) (ha2 : a.n ≤ 9223372036854775807) (hb1 : -9223372036854775808 ≤ b.n) (hb2 : b.n ≤ 9223372036854775807) (hal : a.s.length ≤ 1000000) (hbl : b.s.length ≤ 1000000) :
    Calls Tryz.prog 138 #[.int .i64 op, .agg (vV a), .agg (vV b)] w fun E w' => E = endR (binS op a b) ∧ Below w.heap.size w w' := by
  obtain ⟨ak, an, az⟩ := a
  obtain ⟨bk, bn, bz⟩ := b
  simp only at ha1 ha2 hb1 hb2 hal hbl
  obtain ⟨R, hR⟩ : ∃ R, binS op ⟨ak, an, az⟩ ⟨bk, bn, bz⟩ = R := ⟨_, rfl⟩
  rw [hR]
  simp only [vV]
  have HR := Lib.hid hR
  clear hR
  have hz1 : ¬ 9223372036854775807 < az.length + bz.length := by omega
  have hb0 := ((((Below.refl w.heap.size w).alloc (Nat.le_refl _) (.cells #[.int .i64 ak, .int .i64 an, .string (bs az)] 52)).alloc (by simp) (.cells #[.int .i64 bk, .int .i64 bn, .string (bs bz)] 52)).alloc (by simp; try omega) (.cells #[.int .i64 0, .int .i64 0, .string ⟨#[]⟩] 52))
  have h_HA := (((Bx.new w #[.int .i64 ak, .int .i64 an, .string (bs az)] 52).alloc (.cells #[.int .i64 bk, .int .i64 bn, .string (bs bz)] 52)).alloc (.cells #[.int .i64 0, .int .i64 0, .string ⟨#[]⟩] 52))
  have h_HC := ((Bx.new (w.alloc (.cells #[.int .i64 ak, .int .i64 an, .string (bs az)] 52)) #[.int .i64 bk, .int .i64 bn, .string (bs bz)] 52).alloc (.cells #[.int .i64 0, .int .i64 0, .string ⟨#[]⟩] 52))
  rw [show (w.alloc (.cells #[.int .i64 ak, .int .i64 an, .string (bs az)] 52)).heap.size = w.heap.size + 1 by simp] at h_HC
  have h_HRB := (Bx.new ((w.alloc (.cells #[.int .i64 ak, .int .i64 an, .string (bs az)] 52)).alloc (.cells #[.int .i64 bk, .int .i64 bn, .string (bs bz)] 52)) #[.int .i64 0, .int .i64 0, .string ⟨#[]⟩] 52)
  rw [show ((w.alloc (.cells #[.int .i64 ak, .int .i64 an, .string (bs az)] 52)).alloc (.cells #[.int .i64 bk, .int .i64 bn, .string (bs bz)] 52)).heap.size = w.heap.size + 2 by simp] at h_HRB
  have HB := Lib.hid hb0; have HA := Lib.hid h_HA; have HC := Lib.hid h_HC; have HRB := Lib.hid h_HRB
  clear hb0 h_HA h_HC h_HRB
  go_enter Tryz.func138, Tryz.ntmps138
  go_upto_region 1 with (fail)
  generalize hW0 : ((w.alloc (.cells #[.int .i64 ak, .int .i64 an, .string (bs az)] 52)).alloc (.cells #[.int .i64 bk, .int .i64 bn, .string (bs bz)] 52)).alloc (.cells #[.int .i64 0, .int .i64 0, .string ⟨#[]⟩] 52) = v0 at HB HA HC HRB ⊢
  clear hW0
  have a0 : v0.cell? ⟨w.heap.size, 0, none⟩ = some (.int .i64 ak) := HA.out.cell 0
  have a1 : v0.cell? ⟨w.heap.size, 1, none⟩ = some (.int .i64 an) := HA.out.cell 1
  have a2 : v0.cell? ⟨w.heap.size, 2, none⟩ = some (.string (bs az)) := HA.out.cell 2
  have b0 : v0.cell? ⟨(w.heap.size + 1), 0, none⟩ = some (.int .i64 bk) := HC.out.cell 0
  have b1 : v0.cell? ⟨(w.heap.size + 1), 1, none⟩ = some (.int .i64 bn) := HC.out.cell 1
  have b2 : v0.cell? ⟨(w.heap.size + 1), 2, none⟩ = some (.string (bs bz)) := HC.out.cell 2
  have hop : op = 4 ∨ op = 5 ∨ op = 6 ∨ op = 7 ∨ op = 8 ∨ op = 16 ∨ op = 17 ∨ op = 19 ∨ (10 ≤ op ∧ op ≤ 15) := by omega
  clear h4 h19 h9 h18
  rcases hop with rfl | rfl | rfl | rfl | rfl | rfl | rfl | rfl | hcm
  · skip
    by_cases hak : ak = 1
    rotate_left
    · have HF := Lib.hid (show R = .ab 1009 from HR.out.symm.trans (by unfold binS; rw [if_pos (by decide), if_neg (fun h => hak h.1)]))
      have tak : (ak == 1) = false := by rw [beq_eq_false_iff_ne]; exact hak
      clear hak
      go_wp2_with fail
      refine (must_no _).mono ?_
      rintro er w9 ⟨rfl, rfl⟩
      go_wp2
      exact ⟨rfl, by rw [HF.out] <;> rfl, HB.out⟩
    have tak : (ak == 1) = true := by rw [hak]; rfl
    by_cases hbk : bk = 1
    rotate_left
    · have HF := Lib.hid (show R = .ab 1009 from HR.out.symm.trans (by unfold binS; rw [if_pos (by decide), if_neg (fun h => hbk h.2)]))
      have tbk : (bk == 1) = false := by rw [beq_eq_false_iff_ne]; exact hbk
      clear hbk hak
      go_wp2_with fail
      refine (must_no _).mono ?_
      rintro er w9 ⟨rfl, rfl⟩
      go_wp2
      exact ⟨rfl, by rw [HF.out] <;> rfl, HB.out⟩
    have tbk : (bk == 1) = true := by rw [hbk]; rfl
    have HF := Lib.hid (show exS (ariS 4 an bn) = R from (show binS 4 ⟨ak, an, az⟩ ⟨bk, bn, bz⟩ = _ by unfold binS; rw [if_pos (by decide), if_pos ⟨hak, hbk⟩]).symm.trans HR.out)
    clear hak hbk
    go_wp2_with fail
    refine (must_yes _).mono ?_
    rintro er w1 ⟨rfl, rfl⟩
    go_wp2_with fail
    refine (arith_any 4 an bn _ ha1 ha2 hb1 hb2).mono ?_
    rw [HF.out]
    rintro er w2 ⟨rfl, hb2⟩
    clear a0 a1 a2
    clear b0 b1 b2
    have HA := Lib.hid (HA.out.call hb2); have HC := Lib.hid (HC.out.call hb2); have HRB := Lib.hid (HRB.out.call hb2); have HB := Lib.hid (btrans HB.out HB.out.size hb2); clear hb2
    rcases R with v | c | q
    · simp only [endR, vV]
      have r0 : w2.cell? ⟨(w.heap.size + 2), 0, none⟩ = some (.int .i64 0) := HRB.out.cell 0
      have r1 : w2.cell? ⟨(w.heap.size + 2), 1, none⟩ = some (.int .i64 0) := HRB.out.cell 1
      have r2 : w2.cell? ⟨(w.heap.size + 2), 2, none⟩ = some (.string ⟨#[]⟩) := HRB.out.cell 2
      have f0 := HRB.out.free 0
      have f1 := HRB.out.free 1
      have f2 := HRB.out.free 2
      have HK := Lib.hid (HRB.out.sets3 (.int .i64 v.k) (.int .i64 v.n) (.string (bs v.s)))
      go_wp2
      have k0 := HK.out.cell 0
      have k1 := HK.out.cell 1
      have k2 := HK.out.cell 2
      simp only [List.getElem?_toArray, List.getElem?_cons_zero, List.getElem?_cons_succ] at k0 k1 k2
      refine bodyPost_ret (v := .agg #[.int .i64 v.k, .int .i64 v.n, .string (bs v.s)]) (by simp [results, Tryz.results138, go_sem, k0, k1, k2] <;> rfl) rfl ⟨rfl, below_sets3 HB.out (w.heap.size + 2) (by omega) _ _ _⟩
    · simp only [endR]
      go_wp2
      exact ⟨rfl, rfl, HB.out⟩
    · simp only [endR]
      go_wp2
      exact ⟨rfl, rfl, HB.out⟩
  · skip
    by_cases hak : ak = 1
    rotate_left
    · have HF := Lib.hid (show R = .ab 1009 from HR.out.symm.trans (by unfold binS; rw [if_pos (by decide), if_neg (fun h => hak h.1)]))
      have tak : (ak == 1) = false := by rw [beq_eq_false_iff_ne]; exact hak
      clear hak
      go_wp2_with fail
      refine (must_no _).mono ?_
      rintro er w9 ⟨rfl, rfl⟩
      go_wp2
      exact ⟨rfl, by rw [HF.out] <;> rfl, HB.out⟩
    have tak : (ak == 1) = true := by rw [hak]; rfl
    by_cases hbk : bk = 1
    rotate_left
    · have HF := Lib.hid (show R = .ab 1009 from HR.out.symm.trans (by unfold binS; rw [if_pos (by decide), if_neg (fun h => hbk h.2)]))
      have tbk : (bk == 1) = false := by rw [beq_eq_false_iff_ne]; exact hbk
      clear hbk hak
      go_wp2_with fail
      refine (must_no _).mono ?_
      rintro er w9 ⟨rfl, rfl⟩
      go_wp2
      exact ⟨rfl, by rw [HF.out] <;> rfl, HB.out⟩
    have tbk : (bk == 1) = true := by rw [hbk]; rfl
    have HF := Lib.hid (show exS (ariS 5 an bn) = R from (show binS 5 ⟨ak, an, az⟩ ⟨bk, bn, bz⟩ = _ by unfold binS; rw [if_pos (by decide), if_pos ⟨hak, hbk⟩]).symm.trans HR.out)
    clear hak hbk
    go_wp2_with fail
    refine (must_yes _).mono ?_
    rintro er w1 ⟨rfl, rfl⟩
    go_wp2_with fail
    refine (arith_any 5 an bn _ ha1 ha2 hb1 hb2).mono ?_
    rw [HF.out]
    rintro er w2 ⟨rfl, hb2⟩
    clear a0 a1 a2
    clear b0 b1 b2
    have HA := Lib.hid (HA.out.call hb2); have HC := Lib.hid (HC.out.call hb2); have HRB := Lib.hid (HRB.out.call hb2); have HB := Lib.hid (btrans HB.out HB.out.size hb2); clear hb2
    rcases R with v | c | q
    · simp only [endR, vV]
      have r0 : w2.cell? ⟨(w.heap.size + 2), 0, none⟩ = some (.int .i64 0) := HRB.out.cell 0
      have r1 : w2.cell? ⟨(w.heap.size + 2), 1, none⟩ = some (.int .i64 0) := HRB.out.cell 1
      have r2 : w2.cell? ⟨(w.heap.size + 2), 2, none⟩ = some (.string ⟨#[]⟩) := HRB.out.cell 2
      have f0 := HRB.out.free 0
      have f1 := HRB.out.free 1
      have f2 := HRB.out.free 2
      have HK := Lib.hid (HRB.out.sets3 (.int .i64 v.k) (.int .i64 v.n) (.string (bs v.s)))
      go_wp2
      have k0 := HK.out.cell 0
      have k1 := HK.out.cell 1
      have k2 := HK.out.cell 2
      simp only [List.getElem?_toArray, List.getElem?_cons_zero, List.getElem?_cons_succ] at k0 k1 k2
      refine bodyPost_ret (v := .agg #[.int .i64 v.k, .int .i64 v.n, .string (bs v.s)]) (by simp [results, Tryz.results138, go_sem, k0, k1, k2] <;> rfl) rfl ⟨rfl, below_sets3 HB.out (w.heap.size + 2) (by omega) _ _ _⟩
    · simp only [endR]
      go_wp2
      exact ⟨rfl, rfl, HB.out⟩
    · simp only [endR]
      go_wp2
      exact ⟨rfl, rfl, HB.out⟩
  · skip
    by_cases hak : ak = 1
    rotate_left
    · have HF := Lib.hid (show R = .ab 1009 from HR.out.symm.trans (by unfold binS; rw [if_pos (by decide), if_neg (fun h => hak h.1)]))
      have tak : (ak == 1) = false := by rw [beq_eq_false_iff_ne]; exact hak
      clear hak
      go_wp2_with fail
      refine (must_no _).mono ?_
      rintro er w9 ⟨rfl, rfl⟩
      go_wp2
      exact ⟨rfl, by rw [HF.out] <;> rfl, HB.out⟩
    have tak : (ak == 1) = true := by rw [hak]; rfl
    by_cases hbk : bk = 1
    rotate_left
    · have HF := Lib.hid (show R = .ab 1009 from HR.out.symm.trans (by unfold binS; rw [if_pos (by decide), if_neg (fun h => hbk h.2)]))
      have tbk : (bk == 1) = false := by rw [beq_eq_false_iff_ne]; exact hbk
      clear hbk hak
      go_wp2_with fail
      refine (must_no _).mono ?_
      rintro er w9 ⟨rfl, rfl⟩
      go_wp2
      exact ⟨rfl, by rw [HF.out] <;> rfl, HB.out⟩
    have tbk : (bk == 1) = true := by rw [hbk]; rfl
    have HF := Lib.hid (show exS (ariS 6 an bn) = R from (show binS 6 ⟨ak, an, az⟩ ⟨bk, bn, bz⟩ = _ by unfold binS; rw [if_pos (by decide), if_pos ⟨hak, hbk⟩]).symm.trans HR.out)
    clear hak hbk
    go_wp2_with fail
    refine (must_yes _).mono ?_
    rintro er w1 ⟨rfl, rfl⟩
    go_wp2_with fail
    refine (arith_any 6 an bn _ ha1 ha2 hb1 hb2).mono ?_
    rw [HF.out]
    rintro er w2 ⟨rfl, hb2⟩
    clear a0 a1 a2
    clear b0 b1 b2
    have HA := Lib.hid (HA.out.call hb2); have HC := Lib.hid (HC.out.call hb2); have HRB := Lib.hid (HRB.out.call hb2); have HB := Lib.hid (btrans HB.out HB.out.size hb2); clear hb2
    rcases R with v | c | q
    · simp only [endR, vV]
      have r0 : w2.cell? ⟨(w.heap.size + 2), 0, none⟩ = some (.int .i64 0) := HRB.out.cell 0
      have r1 : w2.cell? ⟨(w.heap.size + 2), 1, none⟩ = some (.int .i64 0) := HRB.out.cell 1
      have r2 : w2.cell? ⟨(w.heap.size + 2), 2, none⟩ = some (.string ⟨#[]⟩) := HRB.out.cell 2
      have f0 := HRB.out.free 0
      have f1 := HRB.out.free 1
      have f2 := HRB.out.free 2
      have HK := Lib.hid (HRB.out.sets3 (.int .i64 v.k) (.int .i64 v.n) (.string (bs v.s)))
      go_wp2
      have k0 := HK.out.cell 0
      have k1 := HK.out.cell 1
      have k2 := HK.out.cell 2
      simp only [List.getElem?_toArray, List.getElem?_cons_zero, List.getElem?_cons_succ] at k0 k1 k2
      refine bodyPost_ret (v := .agg #[.int .i64 v.k, .int .i64 v.n, .string (bs v.s)]) (by simp [results, Tryz.results138, go_sem, k0, k1, k2] <;> rfl) rfl ⟨rfl, below_sets3 HB.out (w.heap.size + 2) (by omega) _ _ _⟩
    · simp only [endR]
      go_wp2
      exact ⟨rfl, rfl, HB.out⟩
    · simp only [endR]
      go_wp2
      exact ⟨rfl, rfl, HB.out⟩
  · skip
    by_cases hak : ak = 1
    rotate_left
    · have HF := Lib.hid (show R = .ab 1009 from HR.out.symm.trans (by unfold binS; rw [if_pos (by decide), if_neg (fun h => hak h.1)]))
      have tak : (ak == 1) = false := by rw [beq_eq_false_iff_ne]; exact hak
      clear hak
      go_wp2_with fail
      refine (must_no _).mono ?_
      rintro er w9 ⟨rfl, rfl⟩
      go_wp2
      exact ⟨rfl, by rw [HF.out] <;> rfl, HB.out⟩
    have tak : (ak == 1) = true := by rw [hak]; rfl
    by_cases hbk : bk = 1
    rotate_left
    · have HF := Lib.hid (show R = .ab 1009 from HR.out.symm.trans (by unfold binS; rw [if_pos (by decide), if_neg (fun h => hbk h.2)]))
      have tbk : (bk == 1) = false := by rw [beq_eq_false_iff_ne]; exact hbk
      clear hbk hak
      go_wp2_with fail
      refine (must_no _).mono ?_
      rintro er w9 ⟨rfl, rfl⟩
      go_wp2
      exact ⟨rfl, by rw [HF.out] <;> rfl, HB.out⟩
    have tbk : (bk == 1) = true := by rw [hbk]; rfl
    have HF := Lib.hid (show exS (ariS 7 an bn) = R from (show binS 7 ⟨ak, an, az⟩ ⟨bk, bn, bz⟩ = _ by unfold binS; rw [if_pos (by decide), if_pos ⟨hak, hbk⟩]).symm.trans HR.out)
    clear hak hbk
    go_wp2_with fail
    refine (must_yes _).mono ?_
    rintro er w1 ⟨rfl, rfl⟩
    go_wp2_with fail
    refine (arith_any 7 an bn _ ha1 ha2 hb1 hb2).mono ?_
    rw [HF.out]
    rintro er w2 ⟨rfl, hb2⟩
    clear a0 a1 a2
    clear b0 b1 b2
    have HA := Lib.hid (HA.out.call hb2); have HC := Lib.hid (HC.out.call hb2); have HRB := Lib.hid (HRB.out.call hb2); have HB := Lib.hid (btrans HB.out HB.out.size hb2); clear hb2
    rcases R with v | c | q
    · simp only [endR, vV]
      have r0 : w2.cell? ⟨(w.heap.size + 2), 0, none⟩ = some (.int .i64 0) := HRB.out.cell 0
      have r1 : w2.cell? ⟨(w.heap.size + 2), 1, none⟩ = some (.int .i64 0) := HRB.out.cell 1
      have r2 : w2.cell? ⟨(w.heap.size + 2), 2, none⟩ = some (.string ⟨#[]⟩) := HRB.out.cell 2
      have f0 := HRB.out.free 0
      have f1 := HRB.out.free 1
      have f2 := HRB.out.free 2
      have HK := Lib.hid (HRB.out.sets3 (.int .i64 v.k) (.int .i64 v.n) (.string (bs v.s)))
      go_wp2
      have k0 := HK.out.cell 0
      have k1 := HK.out.cell 1
      have k2 := HK.out.cell 2
      simp only [List.getElem?_toArray, List.getElem?_cons_zero, List.getElem?_cons_succ] at k0 k1 k2
      refine bodyPost_ret (v := .agg #[.int .i64 v.k, .int .i64 v.n, .string (bs v.s)]) (by simp [results, Tryz.results138, go_sem, k0, k1, k2] <;> rfl) rfl ⟨rfl, below_sets3 HB.out (w.heap.size + 2) (by omega) _ _ _⟩
    · simp only [endR]
      go_wp2
      exact ⟨rfl, rfl, HB.out⟩
    · simp only [endR]
      go_wp2
      exact ⟨rfl, rfl, HB.out⟩
  · skip
    by_cases hak : ak = 1
    rotate_left
    · have HF := Lib.hid (show R = .ab 1009 from HR.out.symm.trans (by unfold binS; rw [if_pos (by decide), if_neg (fun h => hak h.1)]))
      have tak : (ak == 1) = false := by rw [beq_eq_false_iff_ne]; exact hak
      clear hak
      go_wp2_with fail
      refine (must_no _).mono ?_
      rintro er w9 ⟨rfl, rfl⟩
      go_wp2
      exact ⟨rfl, by rw [HF.out] <;> rfl, HB.out⟩
    have tak : (ak == 1) = true := by rw [hak]; rfl
    by_cases hbk : bk = 1
    rotate_left
    · have HF := Lib.hid (show R = .ab 1009 from HR.out.symm.trans (by unfold binS; rw [if_pos (by decide), if_neg (fun h => hbk h.2)]))
      have tbk : (bk == 1) = false := by rw [beq_eq_false_iff_ne]; exact hbk
      clear hbk hak
      go_wp2_with fail
      refine (must_no _).mono ?_
      rintro er w9 ⟨rfl, rfl⟩
      go_wp2
      exact ⟨rfl, by rw [HF.out] <;> rfl, HB.out⟩
    have tbk : (bk == 1) = true := by rw [hbk]; rfl
    have HF := Lib.hid (show exS (ariS 8 an bn) = R from (show binS 8 ⟨ak, an, az⟩ ⟨bk, bn, bz⟩ = _ by unfold binS; rw [if_pos (by decide), if_pos ⟨hak, hbk⟩]).symm.trans HR.out)
    clear hak hbk
    go_wp2_with fail
    refine (must_yes _).mono ?_
    rintro er w1 ⟨rfl, rfl⟩
    go_wp2_with fail
    refine (arith_any 8 an bn _ ha1 ha2 hb1 hb2).mono ?_
    rw [HF.out]
    rintro er w2 ⟨rfl, hb2⟩
    clear a0 a1 a2
    clear b0 b1 b2
    have HA := Lib.hid (HA.out.call hb2); have HC := Lib.hid (HC.out.call hb2); have HRB := Lib.hid (HRB.out.call hb2); have HB := Lib.hid (btrans HB.out HB.out.size hb2); clear hb2
    rcases R with v | c | q
    · simp only [endR, vV]
      have r0 : w2.cell? ⟨(w.heap.size + 2), 0, none⟩ = some (.int .i64 0) := HRB.out.cell 0
      have r1 : w2.cell? ⟨(w.heap.size + 2), 1, none⟩ = some (.int .i64 0) := HRB.out.cell 1
      have r2 : w2.cell? ⟨(w.heap.size + 2), 2, none⟩ = some (.string ⟨#[]⟩) := HRB.out.cell 2
      have f0 := HRB.out.free 0
      have f1 := HRB.out.free 1
      have f2 := HRB.out.free 2
      have HK := Lib.hid (HRB.out.sets3 (.int .i64 v.k) (.int .i64 v.n) (.string (bs v.s)))
      go_wp2
      have k0 := HK.out.cell 0
      have k1 := HK.out.cell 1
      have k2 := HK.out.cell 2
      simp only [List.getElem?_toArray, List.getElem?_cons_zero, List.getElem?_cons_succ] at k0 k1 k2
      refine bodyPost_ret (v := .agg #[.int .i64 v.k, .int .i64 v.n, .string (bs v.s)]) (by simp [results, Tryz.results138, go_sem, k0, k1, k2] <;> rfl) rfl ⟨rfl, below_sets3 HB.out (w.heap.size + 2) (by omega) _ _ _⟩
    · simp only [endR]
      go_wp2
      exact ⟨rfl, rfl, HB.out⟩
    · simp only [endR]
      go_wp2
      exact ⟨rfl, rfl, HB.out⟩
  · skip
    by_cases hak : ak = 3
    rotate_left
    · have HF := Lib.hid (show R = .ab 1009 from HR.out.symm.trans (by unfold binS; rw [if_neg (by decide), if_pos rfl, if_neg (fun h => hak h.1)]))
      have tak : (ak == 3) = false := by rw [beq_eq_false_iff_ne]; exact hak
      clear hak
      go_wp2_with fail
      refine (must_no _).mono ?_
      rintro er w9 ⟨rfl, rfl⟩
      go_wp2
      exact ⟨rfl, by rw [HF.out] <;> rfl, HB.out⟩
    have tak : (ak == 3) = true := by rw [hak]; rfl
    by_cases hbk : bk = 3
    rotate_left
    · have HF := Lib.hid (show R = .ab 1009 from HR.out.symm.trans (by unfold binS; rw [if_neg (by decide), if_pos rfl, if_neg (fun h => hbk h.2)]))
      have tbk : (bk == 3) = false := by rw [beq_eq_false_iff_ne]; exact hbk
      clear hbk hak
      go_wp2_with fail
      refine (must_no _).mono ?_
      rintro er w9 ⟨rfl, rfl⟩
      go_wp2
      exact ⟨rfl, by rw [HF.out] <;> rfl, HB.out⟩
    have tbk : (bk == 3) = true := by rw [hbk]; rfl
    have HF := Lib.hid (show .ok (truV (decide (an = 1) && decide (bn = 1))) = R from (show binS 16 ⟨ak, an, az⟩ ⟨bk, bn, bz⟩ = _ by unfold binS; rw [if_neg (by decide), if_pos rfl, if_pos ⟨hak, hbk⟩]).symm.trans HR.out)
    clear hak hbk
    go_wp2_with fail
    refine (must_yes _).mono ?_
    rintro er w1 ⟨rfl, rfl⟩
    by_cases hx : an = 1
    · have tx : (an == 1) = true := by rw [hx]; rfl
      by_cases hy : bn = 1
      · have ty : (bn == 1) = true := by rw [hy]; rfl
        have HG := Lib.hid (show R = .ok (truV true) by rw [← HF.out, decide_eq_true hx, decide_eq_true hy]; rfl)
        clear hx hy
        go_wp2_with fail
        refine (itruth_any true _).mono ?_
        rintro er w3 ⟨rfl, hb3⟩
        clear a0 a1 a2
        clear b0 b1 b2
        have HA := Lib.hid (HA.out.call hb3); have HC := Lib.hid (HC.out.call hb3); have HRB := Lib.hid (HRB.out.call hb3); have HB := Lib.hid (btrans HB.out HB.out.size hb3); clear hb3
        simp only [endR, vV, truV, if_true]
        have r0 : w3.cell? ⟨(w.heap.size + 2), 0, none⟩ = some (.int .i64 0) := HRB.out.cell 0
        have r1 : w3.cell? ⟨(w.heap.size + 2), 1, none⟩ = some (.int .i64 0) := HRB.out.cell 1
        have r2 : w3.cell? ⟨(w.heap.size + 2), 2, none⟩ = some (.string ⟨#[]⟩) := HRB.out.cell 2
        have f0 := HRB.out.free 0
        have f1 := HRB.out.free 1
        have f2 := HRB.out.free 2
        have HK := Lib.hid (HRB.out.sets3 (.int .i64 3) (.int .i64 1) (.string (bs [])))
        go_wp2
        have k0 := HK.out.cell 0
        have k1 := HK.out.cell 1
        have k2 := HK.out.cell 2
        simp only [List.getElem?_toArray, List.getElem?_cons_zero, List.getElem?_cons_succ] at k0 k1 k2
        refine bodyPost_ret (v := .agg #[.int .i64 3, .int .i64 1, .string (bs [])]) (by simp [results, Tryz.results138, go_sem, k0, k1, k2] <;> rfl) rfl ⟨by rw [HG.out] <;> rfl, below_sets3 HB.out (w.heap.size + 2) (by omega) _ _ _⟩
      · have ty : (bn == 1) = false := by rw [beq_eq_false_iff_ne]; exact hy
        have HG := Lib.hid (show R = .ok (truV false) by rw [← HF.out, decide_eq_true hx, decide_eq_false hy]; rfl)
        clear hx hy
        go_wp2_with fail
        refine (itruth_any false _).mono ?_
        rintro er w3 ⟨rfl, hb3⟩
        clear a0 a1 a2
        clear b0 b1 b2
        have HA := Lib.hid (HA.out.call hb3); have HC := Lib.hid (HC.out.call hb3); have HRB := Lib.hid (HRB.out.call hb3); have HB := Lib.hid (btrans HB.out HB.out.size hb3); clear hb3
        simp only [endR, vV, truV, Bool.false_eq_true, if_false]
        have r0 : w3.cell? ⟨(w.heap.size + 2), 0, none⟩ = some (.int .i64 0) := HRB.out.cell 0
        have r1 : w3.cell? ⟨(w.heap.size + 2), 1, none⟩ = some (.int .i64 0) := HRB.out.cell 1
        have r2 : w3.cell? ⟨(w.heap.size + 2), 2, none⟩ = some (.string ⟨#[]⟩) := HRB.out.cell 2
        have f0 := HRB.out.free 0
        have f1 := HRB.out.free 1
        have f2 := HRB.out.free 2
        have HK := Lib.hid (HRB.out.sets3 (.int .i64 3) (.int .i64 0) (.string (bs [])))
        go_wp2
        have k0 := HK.out.cell 0
        have k1 := HK.out.cell 1
        have k2 := HK.out.cell 2
        simp only [List.getElem?_toArray, List.getElem?_cons_zero, List.getElem?_cons_succ] at k0 k1 k2
        refine bodyPost_ret (v := .agg #[.int .i64 3, .int .i64 0, .string (bs [])]) (by simp [results, Tryz.results138, go_sem, k0, k1, k2] <;> rfl) rfl ⟨by rw [HG.out] <;> rfl, below_sets3 HB.out (w.heap.size + 2) (by omega) _ _ _⟩
    · have tx : (an == 1) = false := by rw [beq_eq_false_iff_ne]; exact hx
      by_cases hy : bn = 1
      · have ty : (bn == 1) = true := by rw [hy]; rfl
        have HG := Lib.hid (show R = .ok (truV false) by rw [← HF.out, decide_eq_false hx, decide_eq_true hy]; rfl)
        clear hx hy
        go_wp2_with fail
        refine (itruth_any false _).mono ?_
        rintro er w3 ⟨rfl, hb3⟩
        clear a0 a1 a2
        clear b0 b1 b2
        have HA := Lib.hid (HA.out.call hb3); have HC := Lib.hid (HC.out.call hb3); have HRB := Lib.hid (HRB.out.call hb3); have HB := Lib.hid (btrans HB.out HB.out.size hb3); clear hb3
        simp only [endR, vV, truV, Bool.false_eq_true, if_false]
        have r0 : w3.cell? ⟨(w.heap.size + 2), 0, none⟩ = some (.int .i64 0) := HRB.out.cell 0
        have r1 : w3.cell? ⟨(w.heap.size + 2), 1, none⟩ = some (.int .i64 0) := HRB.out.cell 1
        have r2 : w3.cell? ⟨(w.heap.size + 2), 2, none⟩ = some (.string ⟨#[]⟩) := HRB.out.cell 2
        have f0 := HRB.out.free 0
        have f1 := HRB.out.free 1
        have f2 := HRB.out.free 2
        have HK := Lib.hid (HRB.out.sets3 (.int .i64 3) (.int .i64 0) (.string (bs [])))
        go_wp2
        have k0 := HK.out.cell 0
        have k1 := HK.out.cell 1
        have k2 := HK.out.cell 2
        simp only [List.getElem?_toArray, List.getElem?_cons_zero, List.getElem?_cons_succ] at k0 k1 k2
        refine bodyPost_ret (v := .agg #[.int .i64 3, .int .i64 0, .string (bs [])]) (by simp [results, Tryz.results138, go_sem, k0, k1, k2] <;> rfl) rfl ⟨by rw [HG.out] <;> rfl, below_sets3 HB.out (w.heap.size + 2) (by omega) _ _ _⟩
      · have ty : (bn == 1) = false := by rw [beq_eq_false_iff_ne]; exact hy
        have HG := Lib.hid (show R = .ok (truV false) by rw [← HF.out, decide_eq_false hx, decide_eq_false hy]; rfl)
        clear hx hy
        go_wp2_with fail
        refine (itruth_any false _).mono ?_
        rintro er w3 ⟨rfl, hb3⟩
        clear a0 a1 a2
        clear b0 b1 b2
        have HA := Lib.hid (HA.out.call hb3); have HC := Lib.hid (HC.out.call hb3); have HRB := Lib.hid (HRB.out.call hb3); have HB := Lib.hid (btrans HB.out HB.out.size hb3); clear hb3
        simp only [endR, vV, truV, Bool.false_eq_true, if_false]
        have r0 : w3.cell? ⟨(w.heap.size + 2), 0, none⟩ = some (.int .i64 0) := HRB.out.cell 0
        have r1 : w3.cell? ⟨(w.heap.size + 2), 1, none⟩ = some (.int .i64 0) := HRB.out.cell 1
        have r2 : w3.cell? ⟨(w.heap.size + 2), 2, none⟩ = some (.string ⟨#[]⟩) := HRB.out.cell 2
        have f0 := HRB.out.free 0
        have f1 := HRB.out.free 1
        have f2 := HRB.out.free 2
        have HK := Lib.hid (HRB.out.sets3 (.int .i64 3) (.int .i64 0) (.string (bs [])))
        go_wp2
        have k0 := HK.out.cell 0
        have k1 := HK.out.cell 1
        have k2 := HK.out.cell 2
        simp only [List.getElem?_toArray, List.getElem?_cons_zero, List.getElem?_cons_succ] at k0 k1 k2
        refine bodyPost_ret (v := .agg #[.int .i64 3, .int .i64 0, .string (bs [])]) (by simp [results, Tryz.results138, go_sem, k0, k1, k2] <;> rfl) rfl ⟨by rw [HG.out] <;> rfl, below_sets3 HB.out (w.heap.size + 2) (by omega) _ _ _⟩
  · skip
    by_cases hak : ak = 3
    rotate_left
    · have HF := Lib.hid (show R = .ab 1009 from HR.out.symm.trans (by unfold binS; rw [if_neg (by decide), if_neg (by decide), if_pos rfl, if_neg (fun h => hak h.1)]))
      have tak : (ak == 3) = false := by rw [beq_eq_false_iff_ne]; exact hak
      clear hak
      go_wp2_with fail
      refine (must_no _).mono ?_
      rintro er w9 ⟨rfl, rfl⟩
      go_wp2
      exact ⟨rfl, by rw [HF.out] <;> rfl, HB.out⟩
    have tak : (ak == 3) = true := by rw [hak]; rfl
    by_cases hbk : bk = 3
    rotate_left
    · have HF := Lib.hid (show R = .ab 1009 from HR.out.symm.trans (by unfold binS; rw [if_neg (by decide), if_neg (by decide), if_pos rfl, if_neg (fun h => hbk h.2)]))
      have tbk : (bk == 3) = false := by rw [beq_eq_false_iff_ne]; exact hbk
      clear hbk hak
      go_wp2_with fail
      refine (must_no _).mono ?_
      rintro er w9 ⟨rfl, rfl⟩
      go_wp2
      exact ⟨rfl, by rw [HF.out] <;> rfl, HB.out⟩
    have tbk : (bk == 3) = true := by rw [hbk]; rfl
    have HF := Lib.hid (show .ok (truV (decide (an = 1) || decide (bn = 1))) = R from (show binS 17 ⟨ak, an, az⟩ ⟨bk, bn, bz⟩ = _ by unfold binS; rw [if_neg (by decide), if_neg (by decide), if_pos rfl, if_pos ⟨hak, hbk⟩]).symm.trans HR.out)
    clear hak hbk
    go_wp2_with fail
    refine (must_yes _).mono ?_
    rintro er w1 ⟨rfl, rfl⟩
    by_cases hx : an = 1
    · have tx : (an == 1) = true := by rw [hx]; rfl
      by_cases hy : bn = 1
      · have ty : (bn == 1) = true := by rw [hy]; rfl
        have HG := Lib.hid (show R = .ok (truV true) by rw [← HF.out, decide_eq_true hx, decide_eq_true hy]; rfl)
        clear hx hy
        go_wp2_with fail
        refine (itruth_any true _).mono ?_
        rintro er w3 ⟨rfl, hb3⟩
        clear a0 a1 a2
        clear b0 b1 b2
        have HA := Lib.hid (HA.out.call hb3); have HC := Lib.hid (HC.out.call hb3); have HRB := Lib.hid (HRB.out.call hb3); have HB := Lib.hid (btrans HB.out HB.out.size hb3); clear hb3
        simp only [endR, vV, truV, if_true]
        have r0 : w3.cell? ⟨(w.heap.size + 2), 0, none⟩ = some (.int .i64 0) := HRB.out.cell 0
        have r1 : w3.cell? ⟨(w.heap.size + 2), 1, none⟩ = some (.int .i64 0) := HRB.out.cell 1
        have r2 : w3.cell? ⟨(w.heap.size + 2), 2, none⟩ = some (.string ⟨#[]⟩) := HRB.out.cell 2
        have f0 := HRB.out.free 0
        have f1 := HRB.out.free 1
        have f2 := HRB.out.free 2
        have HK := Lib.hid (HRB.out.sets3 (.int .i64 3) (.int .i64 1) (.string (bs [])))
        go_wp2
        have k0 := HK.out.cell 0
        have k1 := HK.out.cell 1
        have k2 := HK.out.cell 2
        simp only [List.getElem?_toArray, List.getElem?_cons_zero, List.getElem?_cons_succ] at k0 k1 k2
        refine bodyPost_ret (v := .agg #[.int .i64 3, .int .i64 1, .string (bs [])]) (by simp [results, Tryz.results138, go_sem, k0, k1, k2] <;> rfl) rfl ⟨by rw [HG.out] <;> rfl, below_sets3 HB.out (w.heap.size + 2) (by omega) _ _ _⟩
      · have ty : (bn == 1) = false := by rw [beq_eq_false_iff_ne]; exact hy
        have HG := Lib.hid (show R = .ok (truV true) by rw [← HF.out, decide_eq_true hx, decide_eq_false hy]; rfl)
        clear hx hy
        go_wp2_with fail
        refine (itruth_any true _).mono ?_
        rintro er w3 ⟨rfl, hb3⟩
        clear a0 a1 a2
        clear b0 b1 b2
        have HA := Lib.hid (HA.out.call hb3); have HC := Lib.hid (HC.out.call hb3); have HRB := Lib.hid (HRB.out.call hb3); have HB := Lib.hid (btrans HB.out HB.out.size hb3); clear hb3
        simp only [endR, vV, truV, if_true]
        have r0 : w3.cell? ⟨(w.heap.size + 2), 0, none⟩ = some (.int .i64 0) := HRB.out.cell 0
        have r1 : w3.cell? ⟨(w.heap.size + 2), 1, none⟩ = some (.int .i64 0) := HRB.out.cell 1
        have r2 : w3.cell? ⟨(w.heap.size + 2), 2, none⟩ = some (.string ⟨#[]⟩) := HRB.out.cell 2
        have f0 := HRB.out.free 0
        have f1 := HRB.out.free 1
        have f2 := HRB.out.free 2
        have HK := Lib.hid (HRB.out.sets3 (.int .i64 3) (.int .i64 1) (.string (bs [])))
        go_wp2
        have k0 := HK.out.cell 0
        have k1 := HK.out.cell 1
        have k2 := HK.out.cell 2
        simp only [List.getElem?_toArray, List.getElem?_cons_zero, List.getElem?_cons_succ] at k0 k1 k2
        refine bodyPost_ret (v := .agg #[.int .i64 3, .int .i64 1, .string (bs [])]) (by simp [results, Tryz.results138, go_sem, k0, k1, k2] <;> rfl) rfl ⟨by rw [HG.out] <;> rfl, below_sets3 HB.out (w.heap.size + 2) (by omega) _ _ _⟩
    · have tx : (an == 1) = false := by rw [beq_eq_false_iff_ne]; exact hx
      by_cases hy : bn = 1
      · have ty : (bn == 1) = true := by rw [hy]; rfl
        have HG := Lib.hid (show R = .ok (truV true) by rw [← HF.out, decide_eq_false hx, decide_eq_true hy]; rfl)
        clear hx hy
        go_wp2_with fail
        refine (itruth_any true _).mono ?_
        rintro er w3 ⟨rfl, hb3⟩
        clear a0 a1 a2
        clear b0 b1 b2
        have HA := Lib.hid (HA.out.call hb3); have HC := Lib.hid (HC.out.call hb3); have HRB := Lib.hid (HRB.out.call hb3); have HB := Lib.hid (btrans HB.out HB.out.size hb3); clear hb3
        simp only [endR, vV, truV, if_true]
        have r0 : w3.cell? ⟨(w.heap.size + 2), 0, none⟩ = some (.int .i64 0) := HRB.out.cell 0
        have r1 : w3.cell? ⟨(w.heap.size + 2), 1, none⟩ = some (.int .i64 0) := HRB.out.cell 1
        have r2 : w3.cell? ⟨(w.heap.size + 2), 2, none⟩ = some (.string ⟨#[]⟩) := HRB.out.cell 2
        have f0 := HRB.out.free 0
        have f1 := HRB.out.free 1
        have f2 := HRB.out.free 2
        have HK := Lib.hid (HRB.out.sets3 (.int .i64 3) (.int .i64 1) (.string (bs [])))
        go_wp2
        have k0 := HK.out.cell 0
        have k1 := HK.out.cell 1
        have k2 := HK.out.cell 2
        simp only [List.getElem?_toArray, List.getElem?_cons_zero, List.getElem?_cons_succ] at k0 k1 k2
        refine bodyPost_ret (v := .agg #[.int .i64 3, .int .i64 1, .string (bs [])]) (by simp [results, Tryz.results138, go_sem, k0, k1, k2] <;> rfl) rfl ⟨by rw [HG.out] <;> rfl, below_sets3 HB.out (w.heap.size + 2) (by omega) _ _ _⟩
      · have ty : (bn == 1) = false := by rw [beq_eq_false_iff_ne]; exact hy
        have HG := Lib.hid (show R = .ok (truV false) by rw [← HF.out, decide_eq_false hx, decide_eq_false hy]; rfl)
        clear hx hy
        go_wp2_with fail
        refine (itruth_any false _).mono ?_
        rintro er w3 ⟨rfl, hb3⟩
        clear a0 a1 a2
        clear b0 b1 b2
        have HA := Lib.hid (HA.out.call hb3); have HC := Lib.hid (HC.out.call hb3); have HRB := Lib.hid (HRB.out.call hb3); have HB := Lib.hid (btrans HB.out HB.out.size hb3); clear hb3
        simp only [endR, vV, truV, Bool.false_eq_true, if_false]
        have r0 : w3.cell? ⟨(w.heap.size + 2), 0, none⟩ = some (.int .i64 0) := HRB.out.cell 0
        have r1 : w3.cell? ⟨(w.heap.size + 2), 1, none⟩ = some (.int .i64 0) := HRB.out.cell 1
        have r2 : w3.cell? ⟨(w.heap.size + 2), 2, none⟩ = some (.string ⟨#[]⟩) := HRB.out.cell 2
        have f0 := HRB.out.free 0
        have f1 := HRB.out.free 1
        have f2 := HRB.out.free 2
        have HK := Lib.hid (HRB.out.sets3 (.int .i64 3) (.int .i64 0) (.string (bs [])))
        go_wp2
        have k0 := HK.out.cell 0
        have k1 := HK.out.cell 1
        have k2 := HK.out.cell 2
        simp only [List.getElem?_toArray, List.getElem?_cons_zero, List.getElem?_cons_succ] at k0 k1 k2
        refine bodyPost_ret (v := .agg #[.int .i64 3, .int .i64 0, .string (bs [])]) (by simp [results, Tryz.results138, go_sem, k0, k1, k2] <;> rfl) rfl ⟨by rw [HG.out] <;> rfl, below_sets3 HB.out (w.heap.size + 2) (by omega) _ _ _⟩
  · skip
    by_cases hak : ak = 2
    rotate_left
    · have HF := Lib.hid (show R = .ab 1009 from HR.out.symm.trans (by unfold binS; rw [if_neg (by decide), if_neg (by decide), if_neg (by decide), if_pos rfl, if_neg (fun h => hak h.1)]))
      have tak : (ak == 2) = false := by rw [beq_eq_false_iff_ne]; exact hak
      clear hak
      go_wp2_with fail
      refine (must_no _).mono ?_
      rintro er w9 ⟨rfl, rfl⟩
      go_wp2
      exact ⟨rfl, by rw [HF.out] <;> rfl, HB.out⟩
    have tak : (ak == 2) = true := by rw [hak]; rfl
    by_cases hbk : bk = 2
    rotate_left
    · have HF := Lib.hid (show R = .ab 1009 from HR.out.symm.trans (by unfold binS; rw [if_neg (by decide), if_neg (by decide), if_neg (by decide), if_pos rfl, if_neg (fun h => hbk h.2)]))
      have tbk : (bk == 2) = false := by rw [beq_eq_false_iff_ne]; exact hbk
      clear hbk hak
      go_wp2_with fail
      refine (must_no _).mono ?_
      rintro er w9 ⟨rfl, rfl⟩
      go_wp2
      exact ⟨rfl, by rw [HF.out] <;> rfl, HB.out⟩
    have tbk : (bk == 2) = true := by rw [hbk]; rfl
    have HF := Lib.hid (show txS (az ++ bz) = R from (show binS 19 ⟨ak, an, az⟩ ⟨bk, bn, bz⟩ = _ by unfold binS; rw [if_neg (by decide), if_neg (by decide), if_neg (by decide), if_pos rfl, if_pos ⟨hak, hbk⟩]).symm.trans HR.out)
    clear hak hbk
    go_wp2_with fail
    refine (must_yes _).mono ?_
    rintro er w1 ⟨rfl, rfl⟩
    go_wp2_with fail
    refine (itext_any (az ++ bz) (by rw [List.length_append]; omega) _).mono ?_
    rw [HF.out]
    rintro er w2 ⟨rfl, hb2⟩
    clear a0 a1 a2
    clear b0 b1 b2
    have HA := Lib.hid (HA.out.call hb2); have HC := Lib.hid (HC.out.call hb2); have HRB := Lib.hid (HRB.out.call hb2); have HB := Lib.hid (btrans HB.out HB.out.size hb2); clear hb2
    rcases R with v | c | q
    · simp only [endR, vV]
      have r0 : w2.cell? ⟨(w.heap.size + 2), 0, none⟩ = some (.int .i64 0) := HRB.out.cell 0
      have r1 : w2.cell? ⟨(w.heap.size + 2), 1, none⟩ = some (.int .i64 0) := HRB.out.cell 1
      have r2 : w2.cell? ⟨(w.heap.size + 2), 2, none⟩ = some (.string ⟨#[]⟩) := HRB.out.cell 2
      have f0 := HRB.out.free 0
      have f1 := HRB.out.free 1
      have f2 := HRB.out.free 2
      have HK := Lib.hid (HRB.out.sets3 (.int .i64 v.k) (.int .i64 v.n) (.string (bs v.s)))
      go_wp2
      have k0 := HK.out.cell 0
      have k1 := HK.out.cell 1
      have k2 := HK.out.cell 2
      simp only [List.getElem?_toArray, List.getElem?_cons_zero, List.getElem?_cons_succ] at k0 k1 k2
      refine bodyPost_ret (v := .agg #[.int .i64 v.k, .int .i64 v.n, .string (bs v.s)]) (by simp [results, Tryz.results138, go_sem, k0, k1, k2] <;> rfl) rfl ⟨rfl, below_sets3 HB.out (w.heap.size + 2) (by omega) _ _ _⟩
    · simp only [endR]
      go_wp2
      exact ⟨rfl, rfl, HB.out⟩
    · simp only [endR]
      go_wp2
      exact ⟨rfl, rfl, HB.out⟩
  · obtain ⟨c1, c2⟩ := hcm
    have n4 : (op == 4) = false := by rw [beq_eq_false_iff_ne]; omega
    have n5 : (op == 5) = false := by rw [beq_eq_false_iff_ne]; omega
    have n6 : (op == 6) = false := by rw [beq_eq_false_iff_ne]; omega
    have n7 : (op == 7) = false := by rw [beq_eq_false_iff_ne]; omega
    have n8 : (op == 8) = false := by rw [beq_eq_false_iff_ne]; omega
    have n16 : (op == 16) = false := by rw [beq_eq_false_iff_ne]; omega
    have n17 : (op == 17) = false := by rw [beq_eq_false_iff_ne]; omega
    have n19 : (op == 19) = false := by rw [beq_eq_false_iff_ne]; omega
    have HF := Lib.hid (show cmpS op ⟨ak, an, az⟩ ⟨bk, bn, bz⟩ = R from (show binS op ⟨ak, an, az⟩ ⟨bk, bn, bz⟩ = _ by unfold binS; rw [if_neg (by omega), if_neg (by omega), if_neg (by omega), if_neg (by omega)]).symm.trans HR.out)
    go_wp2_with fail
    refine (icompare_any op ⟨ak, an, az⟩ ⟨bk, bn, bz⟩ _ c1 c2).mono ?_
    rw [HF.out]
    rintro er w2 ⟨rfl, hb2⟩
    clear a0 a1 a2
    clear b0 b1 b2
    have HA := Lib.hid (HA.out.call hb2); have HC := Lib.hid (HC.out.call hb2); have HRB := Lib.hid (HRB.out.call hb2); have HB := Lib.hid (btrans HB.out HB.out.size hb2); clear hb2
    rcases R with v | c | q
    · simp only [endR, vV]
      have r0 : w2.cell? ⟨(w.heap.size + 2), 0, none⟩ = some (.int .i64 0) := HRB.out.cell 0
      have r1 : w2.cell? ⟨(w.heap.size + 2), 1, none⟩ = some (.int .i64 0) := HRB.out.cell 1
      have r2 : w2.cell? ⟨(w.heap.size + 2), 2, none⟩ = some (.string ⟨#[]⟩) := HRB.out.cell 2
      have f0 := HRB.out.free 0
      have f1 := HRB.out.free 1
      have f2 := HRB.out.free 2
      have HK := Lib.hid (HRB.out.sets3 (.int .i64 v.k) (.int .i64 v.n) (.string (bs v.s)))
      go_wp2
      have k0 := HK.out.cell 0
      have k1 := HK.out.cell 1
      have k2 := HK.out.cell 2
      simp only [List.getElem?_toArray, List.getElem?_cons_zero, List.getElem?_cons_succ] at k0 k1 k2
      refine bodyPost_ret (v := .agg #[.int .i64 v.k, .int .i64 v.n, .string (bs v.s)]) (by simp [results, Tryz.results138, go_sem, k0, k1, k2] <;> rfl) rfl ⟨rfl, below_sets3 HB.out (w.heap.size + 2) (by omega) _ _ _⟩
    · simp only [endR]
      go_wp2
      exact ⟨rfl, rfl, HB.out⟩
    · simp only [endR]
      go_wp2
      exact ⟨rfl, rfl, HB.out⟩
end Go.Proofs.YtnglaegofhpleaaGreatDoor
namespace Go.Proofs.YtnglaegofhpleaaGreatDoor
open Go.RowKit

theorem Bx.c14 {b : Nat} {u0 u1 u2 u3 u4 u5 u6 u7 u8 u9 u10 u11 u12 u13 : Value} {T : TypeId} {W : World} (h : Bx b #[u0, u1, u2, u3, u4, u5, u6, u7, u8, u9, u10, u11, u12, u13] T W) : W.cell? ⟨b, 0, none⟩ = some u0 ∧ W.cell? ⟨b, 1, none⟩ = some u1 ∧ W.cell? ⟨b, 2, none⟩ = some u2 ∧ W.cell? ⟨b, 3, none⟩ = some u3 ∧ W.cell? ⟨b, 4, none⟩ = some u4 ∧ W.cell? ⟨b, 5, none⟩ = some u5 ∧ W.cell? ⟨b, 6, none⟩ = some u6 ∧ W.cell? ⟨b, 7, none⟩ = some u7 ∧ W.cell? ⟨b, 8, none⟩ = some u8 ∧ W.cell? ⟨b, 9, none⟩ = some u9 ∧ W.cell? ⟨b, 10, none⟩ = some u10 ∧ W.cell? ⟨b, 11, none⟩ = some u11 ∧ W.cell? ⟨b, 12, none⟩ = some u12 ∧ W.cell? ⟨b, 13, none⟩ = some u13 := ⟨h.cell 0, h.cell 1, h.cell 2, h.cell 3, h.cell 4, h.cell 5, h.cell 6, h.cell 7, h.cell 8, h.cell 9, h.cell 10, h.cell 11, h.cell 12, h.cell 13⟩
theorem Cont_any (a : Option Addr) (cap : Nat) (M : List (List UInt8)) (x : List UInt8) (w : World) (hl : M.length ≤ 9000000000000) (hM : StrS w (.slice a M.length cap) M) :
    Calls Tryz.prog 96 #[.slice a M.length cap, .string (bs x)] w fun e w' => e = .returned (.bool (M.contains x)) ∧ w' = w := by
  by_cases h0 : M = []
  · subst h0
    exact Tryz.slices_Contains_string_empty a cap (bs x) w
  · obtain ⟨a0, c0, he, hcp, hc⟩ := hM
    cases he
    obtain ⟨b, off, rfl, hcell⟩ := hc h0
    have e : (M.map bs).take M.length = M.map bs := List.take_of_length_le (by simp)
    have h := Tryz.slices_Contains_string b off M.length cap (M.map bs) (bs x) w (by simp) (by omega) (fun j hj => by
      have hj' : j < M.length := by simpa using hj
      rw [hcell j hj']
      unfold strV
      rw [List.getD_eq_getElem?_getD, List.getElem?_map, List.getElem?_eq_getElem hj']; rfl)
    rw [e] at h
    have e2 : Lib.containsS (M.map bs) (bs x) = M.contains x := by
      rw [Bool.eq_iff_iff, Lib.containsS_iff, List.contains_iff_mem, List.mem_map]
      exact ⟨fun ⟨y, hy, he⟩ => bs_inj he ▸ hy, fun h => ⟨x, h, rfl⟩⟩
    rw [e2] at h
    exact h
/-- reading a key: an abort, a restart, or the state's value -/
def fetS (al : Bool) (rd : List (List UInt8)) (M : List Pr) (k : List UInt8) : Rs := if keyB k = false then .ab 1004 else if al = false ∧ rd.contains k = false then .re k else .ok (getP M k)
def rdsR (R : Rs) (k : List UInt8) : List (List UInt8) := match R with
  | .ok _ => [k]
  | _ => []
theorem below_grown {B mb : Nat} {W0 w w' : World} (h : Below B W0 w) (hg : w.grownBy w' (some mb)) (hB : B ≤ mb) (hs : B ≤ w.heap.size) : Below B W0 w' :=
  ⟨hg.os.trans h.os, hg.tape.trans h.tape, hg.output.trans h.output, Nat.le_trans h.size hg.size, fun k hk => (hg.block k (by omega) (fun e => by cases e; omega)).trans (h.block k hk)⟩
theorem grown_below {w w' : World} (h : Below w.heap.size w w') (row : Option Nat) : w.grownBy w' row := ⟨h.os, h.tape, h.output, h.size, fun k hk _ => h.block k hk⟩
theorem Bx.kept {b : Nat} {cs : Array Value} {T : TypeId} {W W' : World} {row : Option Nat} (h : Bx b cs T W) (hg : W.grownBy W' row) (hne : row ≠ some b) : Bx b cs T W' := (hg.block b h.lt (fun e => hne e.symm)).trans h
theorem own_st {B k n : Nat} {e T : TypeId} {v : Value} {xs : List Value} {w : World} {b : Nat} {cs : Array Value} (h : w.ownsRow B e k v n xs) (hb : Bx b cs T w) (hT : T ≠ e) (i : Nat) (u : Value) : (w.setCell ⟨b, i, none⟩ u).ownsRow B e k v n xs := by
  refine h.kept (grown_set w ⟨b, i, none⟩ u) ?_
  cases hv : v.ownBlock with
  | none => exact .inl rfl
  | some g2 =>
    refine .inr (fun q => ?_)
    have hq : g2 = b := by simpa using q
    rcases own_form h with ⟨rfl, _⟩ | ⟨g, cap, rfl, _, _⟩
    · simp [Value.ownBlock] at hv
    · have hgg : g = g2 := by simpa [Value.ownBlock] using hv
      exact own_other h hb hT (hgg.trans hq)
/-- what stands behind the three stores into a result's box -/
theorem fin_sets3 {w W : World} {mb b B k n : Nat} {cs : Array Value} {T1 T2 e : TypeId} {z0 z1 z2 v : Value} {xs : List Value} (hg : w.grownBy W (some mb)) (hx : Bx mb cs T1 W) (hr : Bx b #[z0, z1, z2] T2 W) (hT : T2 ≠ e) (hb : w.heap.size ≤ b) (hne : mb ≠ b) (ho : W.ownsRow B e k v n xs) (u0 u1 u2 : Value) :
    w.grownBy (((W.setCell ⟨b, 0, none⟩ u0).setCell ⟨b, 1, none⟩ u1).setCell ⟨b, 2, none⟩ u2) (some mb) ∧ Bx mb cs T1 (((W.setCell ⟨b, 0, none⟩ u0).setCell ⟨b, 1, none⟩ u1).setCell ⟨b, 2, none⟩ u2) ∧ (((W.setCell ⟨b, 0, none⟩ u0).setCell ⟨b, 1, none⟩ u1).setCell ⟨b, 2, none⟩ u2).ownsRow B e k v n xs := by
  have h1 := hr.set 0 u0
  have h2 := h1.set 1 u1
  refine ⟨hg.andThen (((grown_set W ⟨b, 0, none⟩ u0).trans (grown_set _ ⟨b, 1, none⟩ u1)).trans (grown_set _ ⟨b, 2, none⟩ u2)) (fun j hj => .inl (by cases hj; exact hb)), ((hx.other hne u0).other hne u1).other hne u2, ?_⟩
  exact own_st (own_st (own_st ho hr hT 0 u0) h1 hT 1 u1) h2 hT 2 u2
theorem own_sl {w : World} {base size n : Nat} {e : TypeId} {v : Value} {xs : List Value} (h : w.ownsRow base e size v n xs) : ∃ a cap, v = .slice a n cap := by
  rcases own_form h with ⟨rfl, rfl⟩ | ⟨g, cap, rfl, _⟩
  · exact ⟨none, 0, rfl⟩
  · exact ⟨_, cap, rfl⟩
theorem with_nil (k : List UInt8) : withK [] k = [k] := rfl

set_option maxRecDepth 100000 in
set_option maxHeartbeats 16000000 in
theorem fetch_any (mb vm om : Nat) (sa ra wa : Option Addr) (sc rc wc : Nat) (M : List Pr) (al : Bool) (rd wr : List (List UInt8)) (k : List UInt8) (hk : k.length ≤ 9223372036854775807) (w W0 : World) (hX : Bx mb #[.slice sa M.length sc, .bool al, .slice ra rd.length rc, .slice wa wr.length wc, .map (some vm), .map (some om), .int .i64 0, .int .i64 0, .slice none 0 0, .slice none 0 0, .slice none 0 0, .slice none 0 0, .string ⟨#[]⟩, .int .i64 0] 143 w) (hO : Mp om [] w) (hmb : W0.heap.size ≤ mb) (hW0 : Below W0.heap.size W0 w) (hM : CellsAt W0 (.slice sa M.length sc) M.length (prLs M)) (hR : StrS W0 (.slice ra rd.length rc) rd) (hl1 : M.length ≤ 9000000000000) (hl2 : rd.length ≤ 9000000000000) :
    Calls Tryz.prog 161 #[.pointer (some ⟨mb, 0, none⟩), .string (bs k)] w fun e w' => e = endR (fetS al rd M k) ∧ w.grownBy w' (some mb) ∧ ∃ rv, Bx mb #[.slice sa M.length sc, .bool al, .slice ra rd.length rc, .slice wa wr.length wc, .map (some vm), .map (some om), .int .i64 0, .int .i64 0, .slice none 0 0, rv, .slice none 0 0, .slice none 0 0, .string ⟨#[]⟩, .int .i64 0] 143 w' ∧ w'.ownsRow w.heap.size 9 1 rv (rdsR (fetS al rd M k) k).length ((rdsR (fetS al rd M k) k).map strV) := by
  obtain ⟨R, hR_⟩ : ∃ R, fetS al rd M k = R := ⟨_, rfl⟩
  rw [hR_]
  obtain ⟨kb, hkb⟩ : ∃ b, keyB k = b := ⟨_, rfl⟩
  obtain ⟨cb, hcb⟩ : ∃ b, rd.contains k = b := ⟨_, rfl⟩
  have hmw := hX.lt
  have hsz := hW0.size
  have HFR := Lib.hid hR_; have HKB := Lib.hid hkb; have HCB := Lib.hid hcb; have HM := Lib.hid hM; have HRS := Lib.hid hR; clear hR_ hkb hcb hM hR
  have hal0 := (Below.refl w.heap.size w).alloc (Nat.le_refl _) (.cells #[.int .i64 0, .int .i64 0, .string ⟨#[]⟩] 52)
  have HG := Lib.hid (grown_below hal0 (some mb)); have HRB := Lib.hid (Bx.new w #[.int .i64 0, .int .i64 0, .string ⟨#[]⟩] 52); have HX := Lib.hid (hX.call hal0); have HO := Lib.hid (hO.call hal0); have HW := Lib.hid (btrans hW0 hsz hal0); clear hX hO hW0 hal0
  go_enter Tryz.func161, Tryz.ntmps161
  go_upto_region 1 with (fail)
  generalize hW : w.alloc (.cells #[.int .i64 0, .int .i64 0, .string ⟨#[]⟩] 52) = v0 at HG HRB HX HO HW ⊢
  clear hW
  go_wp2_with fail
  refine (KValid_any k hk _).mono ?_
  rw [HKB.out]
  rintro er w1 ⟨rfl, hb1⟩
  have HG := Lib.hid (HG.out.trans (grown_below hb1 _)); have HRB := Lib.hid (HRB.out.call hb1); have HX := Lib.hid (HX.out.call hb1); have HO := Lib.hid (HO.out.call hb1); have HW := Lib.hid (btrans HW.out HW.out.size hb1); clear hb1
  cases kb with
  | false =>
    have HF := Lib.hid (show R = .ab 1004 from HFR.out.symm.trans (if_pos HKB.out))
    go_wp2_with fail
    refine (iabort_any 1004 _).mono ?_
    rintro er w2 ⟨rfl, rfl⟩
    go_wp2
    exact ⟨rfl, by rw [HF.out] <;> rfl, HG.out, ⟨_, HX.out, by rw [HF.out]; exact own_nil _ _ _ _⟩⟩
  | true =>
    have HFR := Lib.hid (show (if al = false ∧ rd.contains k = false then Rs.re k else .ok (getP M k)) = R from (show fetS al rd M k = _ from if_neg (by rw [HKB.out]; simp)).symm.trans HFR.out)
    have hlk : (Instr.lookup 141 (.map (some om)) (.string (bs k)) true).run Tryz.prog w1 = .ok (.tuple #[.agg #[.int .i64 0, .int .i64 0, .string ⟨#[]⟩], .bool false]) w1 := run_look HO.out k
    obtain ⟨m0, m1, m2, m3, m4, m5, m6, m7, m8, m9, m10, m11, m12, m13⟩ := HX.out.c14
    have hb2 := (Below.refl w1.heap.size w1).alloc (Nat.le_refl _) (.cells #[.int .i64 0, .int .i64 0, .string ⟨#[]⟩] 52)
    go_upto_region 4 with (fail)
    clear m0 m1 m2 m3 m4 m5 m6 m7 m8 m9 m10 m11 m12 m13
    clear hlk
    have HG := Lib.hid (HG.out.trans (grown_below hb2 _)); have HRB := Lib.hid (HRB.out.call hb2); have HX := Lib.hid (HX.out.call hb2); have HO := Lib.hid (HO.out.call hb2); have HW := Lib.hid (btrans HW.out HW.out.size hb2); clear hb2
    generalize hW : w1.alloc (.cells #[.int .i64 0, .int .i64 0, .string ⟨#[]⟩] 52) = v1 at HG HRB HX HO HW ⊢
    clear hW
    obtain ⟨m0, m1, m2, m3, m4, m5, m6, m7, m8, m9, m10, m11, m12, m13⟩ := HX.out.c14
    cases al with
    | true =>
      have HF := Lib.hid (show R = .ok (getP M k) from HFR.out.symm.trans (if_neg (by simp)))
      clear HFR
      go_wp2_with fail
      refine (iwith_any v1.heap.size (.slice none 0 0) [] k _ List.Pairwise.nil (own_nil _ _ _ _) (Nat.le_refl _) (by simp)).mono ?_
      rintro er w3 ⟨rv, rfl, hown, hgr, -⟩
      rw [with_nil] at hown
      simp only [List.length_singleton] at hown
      obtain ⟨rq, rqc, rfl⟩ := own_sl hown
      clear m0 m1 m2 m3 m4 m5 m6 m7 m8 m9 m10 m11 m12 m13
      have hb3 : Below v1.heap.size v1 w3 := ⟨hgr.os, hgr.tape, hgr.output, hgr.size, fun c hc => hgr.block c hc (by simp [Value.ownBlock])⟩
      have hmv := HX.out.lt
      have hwv := HG.out.size
      clear hgr
      have HG := Lib.hid (HG.out.trans (grown_below hb3 _)); have HRB := Lib.hid (HRB.out.call hb3); have HX := Lib.hid (HX.out.call hb3); have HO := Lib.hid (HO.out.call hb3); have HW := Lib.hid (btrans HW.out HW.out.size hb3); clear hb3
      obtain ⟨m0, m1, m2, m3, m4, m5, m6, m7, m8, m9, m10, m11, m12, m13⟩ := HX.out.c14
      have z9 := HX.out.free 9
      have HX2 := Lib.hid (show Bx mb #[.slice sa M.length sc, .bool true, .slice ra rd.length rc, .slice wa wr.length wc, .map (some vm), .map (some om), .int .i64 0, .int .i64 0, .slice none 0 0, .slice rq 1 rqc, .slice none 0 0, .slice none 0 0, .string ⟨#[]⟩, .int .i64 0] 143 (w3.setCell ⟨mb, 9, none⟩ (.slice rq 1 rqc)) from by have := HX.out.set 9 (.slice rq 1 rqc); simpa using this)
      have HG2 := Lib.hid (HG.out.trans (grown_set w3 ⟨mb, 9, none⟩ (.slice rq 1 rqc))); have HRB2 := Lib.hid (HRB.out.other (c := mb) (i := 9) (by omega) (.slice rq 1 rqc)); have HW2 := Lib.hid (below_set HW.out mb 9 hmb (.slice rq 1 rqc)); have HOW := Lib.hid (own_set hown mb 9 hmv (.slice rq 1 rqc))
      clear hown
      go_upto_region 9 with (fail)
      clear z9 HX HG HRB HW HO
      clear m0 m1 m2 m3 m4 m5 m6 m7 m8 m9 m10 m11 m12 m13
      generalize hWE : w3.setCell ⟨mb, 9, none⟩ (.slice rq 1 rqc) = v3 at HX2 HG2 HRB2 HW2 HOW ⊢
      clear hWE
      have HX := HX2; have HG := HG2; have HRB := HRB2; have HW := HW2; clear HX2 HG2 HRB2 HW2
      obtain ⟨m0, -⟩ := HX.out.c14
      obtain ⟨gv, hgv⟩ : ∃ v, getP M k = v := ⟨_, rfl⟩
      have HGV := Lib.hid hgv
      rw [hgv] at HF
      clear hgv
      go_wp2_with fail
      refine (SGet_any sa sc M k _ hl1 (HM.out.below HW.out)).mono ?_
      rw [HGV.out]
      rintro er w4 ⟨rfl, hb4⟩
      simp only [vV]
      clear m0
      have HG := Lib.hid (HG.out.trans (grown_below hb4 _)); have HRB := Lib.hid (HRB.out.call hb4); have HX := Lib.hid (HX.out.call hb4); have HOW := Lib.hid (own_below HOW.out hb4); clear hb4
      have r0 : w4.cell? ⟨w.heap.size, 0, none⟩ = some (.int .i64 0) := HRB.out.cell 0
      have r1 : w4.cell? ⟨w.heap.size, 1, none⟩ = some (.int .i64 0) := HRB.out.cell 1
      have r2 : w4.cell? ⟨w.heap.size, 2, none⟩ = some (.string ⟨#[]⟩) := HRB.out.cell 2
      have f0 := HRB.out.free 0
      have f1 := HRB.out.free 1
      have f2 := HRB.out.free 2
      have HK := Lib.hid (HRB.out.sets3 (.int .i64 gv.k) (.int .i64 gv.n) (.string (bs gv.s)))
      have HFIN := Lib.hid (fin_sets3 HG.out HX.out HRB.out (by decide) (Nat.le_refl _) (by omega) HOW.out (.int .i64 gv.k) (.int .i64 gv.n) (.string (bs gv.s)))
      go_wp2
      have k0 := HK.out.cell 0
      have k1 := HK.out.cell 1
      have k2 := HK.out.cell 2
      simp only [List.getElem?_toArray, List.getElem?_cons_zero, List.getElem?_cons_succ] at k0 k1 k2
      refine bodyPost_ret (v := .agg #[.int .i64 gv.k, .int .i64 gv.n, .string (bs gv.s)]) (by simp [results, Tryz.results161, go_sem, k0, k1, k2] <;> rfl) rfl ⟨by rw [HF.out] <;> rfl, HFIN.out.1, _, HFIN.out.2.1, ?_⟩
      rw [HF.out]
      exact own_mono HFIN.out.2.2 hwv
    | false =>
      go_wp2_with fail
      refine (Cont_any ra rc rd k _ hl2 (HRS.out.below HW.out)).mono ?_
      rw [HCB.out]
      rintro er w2 ⟨rfl, rfl⟩
      cases cb with
      | true =>
        have HF := Lib.hid (show R = .ok (getP M k) from HFR.out.symm.trans (if_neg (by rw [HCB.out]; simp)))
        clear HFR
        go_wp2_with fail
        refine (iwith_any w2.heap.size (.slice none 0 0) [] k _ List.Pairwise.nil (own_nil _ _ _ _) (Nat.le_refl _) (by simp)).mono ?_
        rintro er w3 ⟨rv, rfl, hown, hgr, -⟩
        rw [with_nil] at hown
        simp only [List.length_singleton] at hown
        obtain ⟨rq, rqc, rfl⟩ := own_sl hown
        clear m0 m1 m2 m3 m4 m5 m6 m7 m8 m9 m10 m11 m12 m13
        have hb3 : Below w2.heap.size w2 w3 := ⟨hgr.os, hgr.tape, hgr.output, hgr.size, fun c hc => hgr.block c hc (by simp [Value.ownBlock])⟩
        have hmv := HX.out.lt
        have hwv := HG.out.size
        clear hgr
        have HG := Lib.hid (HG.out.trans (grown_below hb3 _)); have HRB := Lib.hid (HRB.out.call hb3); have HX := Lib.hid (HX.out.call hb3); have HO := Lib.hid (HO.out.call hb3); have HW := Lib.hid (btrans HW.out HW.out.size hb3); clear hb3
        obtain ⟨m0, m1, m2, m3, m4, m5, m6, m7, m8, m9, m10, m11, m12, m13⟩ := HX.out.c14
        have z9 := HX.out.free 9
        have HX2 := Lib.hid (show Bx mb #[.slice sa M.length sc, .bool false, .slice ra rd.length rc, .slice wa wr.length wc, .map (some vm), .map (some om), .int .i64 0, .int .i64 0, .slice none 0 0, .slice rq 1 rqc, .slice none 0 0, .slice none 0 0, .string ⟨#[]⟩, .int .i64 0] 143 (w3.setCell ⟨mb, 9, none⟩ (.slice rq 1 rqc)) from by have := HX.out.set 9 (.slice rq 1 rqc); simpa using this)
        have HG2 := Lib.hid (HG.out.trans (grown_set w3 ⟨mb, 9, none⟩ (.slice rq 1 rqc))); have HRB2 := Lib.hid (HRB.out.other (c := mb) (i := 9) (by omega) (.slice rq 1 rqc)); have HW2 := Lib.hid (below_set HW.out mb 9 hmb (.slice rq 1 rqc)); have HOW := Lib.hid (own_set hown mb 9 hmv (.slice rq 1 rqc))
        clear hown
        go_upto_region 9 with (fail)
        clear z9 HX HG HRB HW HO
        clear m0 m1 m2 m3 m4 m5 m6 m7 m8 m9 m10 m11 m12 m13
        generalize hWE : w3.setCell ⟨mb, 9, none⟩ (.slice rq 1 rqc) = v3 at HX2 HG2 HRB2 HW2 HOW ⊢
        clear hWE
        have HX := HX2; have HG := HG2; have HRB := HRB2; have HW := HW2; clear HX2 HG2 HRB2 HW2
        obtain ⟨m0, -⟩ := HX.out.c14
        obtain ⟨gv, hgv⟩ : ∃ v, getP M k = v := ⟨_, rfl⟩
        have HGV := Lib.hid hgv
        rw [hgv] at HF
        clear hgv
        go_wp2_with fail
        refine (SGet_any sa sc M k _ hl1 (HM.out.below HW.out)).mono ?_
        rw [HGV.out]
        rintro er w4 ⟨rfl, hb4⟩
        simp only [vV]
        clear m0
        have HG := Lib.hid (HG.out.trans (grown_below hb4 _)); have HRB := Lib.hid (HRB.out.call hb4); have HX := Lib.hid (HX.out.call hb4); have HOW := Lib.hid (own_below HOW.out hb4); clear hb4
        have r0 : w4.cell? ⟨w.heap.size, 0, none⟩ = some (.int .i64 0) := HRB.out.cell 0
        have r1 : w4.cell? ⟨w.heap.size, 1, none⟩ = some (.int .i64 0) := HRB.out.cell 1
        have r2 : w4.cell? ⟨w.heap.size, 2, none⟩ = some (.string ⟨#[]⟩) := HRB.out.cell 2
        have f0 := HRB.out.free 0
        have f1 := HRB.out.free 1
        have f2 := HRB.out.free 2
        have HK := Lib.hid (HRB.out.sets3 (.int .i64 gv.k) (.int .i64 gv.n) (.string (bs gv.s)))
        have HFIN := Lib.hid (fin_sets3 HG.out HX.out HRB.out (by decide) (Nat.le_refl _) (by omega) HOW.out (.int .i64 gv.k) (.int .i64 gv.n) (.string (bs gv.s)))
        go_wp2
        have k0 := HK.out.cell 0
        have k1 := HK.out.cell 1
        have k2 := HK.out.cell 2
        simp only [List.getElem?_toArray, List.getElem?_cons_zero, List.getElem?_cons_succ] at k0 k1 k2
        refine bodyPost_ret (v := .agg #[.int .i64 gv.k, .int .i64 gv.n, .string (bs gv.s)]) (by simp [results, Tryz.results161, go_sem, k0, k1, k2] <;> rfl) rfl ⟨by rw [HF.out] <;> rfl, HFIN.out.1, _, HFIN.out.2.1, ?_⟩
        rw [HF.out]
        exact own_mono HFIN.out.2.2 hwv
      | false =>
        have HF := Lib.hid (show R = .re k from HFR.out.symm.trans (if_pos ⟨(by first | exact True.intro | rfl), HCB.out⟩))
        clear m0 m1 m2 m3 m4 m5 m6 m7 m8 m9 m10 m11 m12 m13
        go_wp2_with fail
        refine (irestart_any k _).mono ?_
        rintro er w9 ⟨rfl, rfl⟩
        go_wp2
        exact ⟨(by first | exact True.intro | rfl), by rw [HF.out] <;> rfl, HG.out, ⟨_, HX.out, by rw [HF.out]; exact own_nil _ _ _ _⟩⟩
end Go.Proofs.YtnglaegofhpleaaGreatDoor
