/- What the claim needs of: WalTwo, WalR, WalT, WalW, WalPa, DiskCrL. No conditions. -/
import Derived.Test.YtkpfkknldeafkaaZp3
import Derived.Test.YtkpfkknldeafkaaRows
import Derived.WalkKit
import Derived.WalkSpells
import Derived.WalkLawsBesides
import Derived.Lib.SlBytesRow
import Derived.Lib.Hide
import Derived.Laws.Bits64
import Derived.Laws.CopyOwn
import Derived.Lib.BufferWrite
import Derived.Deep.RegionLaw
import Derived.Deep.DeepCutAuto
import Derived.ChangeAlike
import Derived.RegionTactic
import Derived.Deep.RegionHeld3
import Derived.Laws.ResultCell
import Derived.RangeFuncNested
import Derived.RangeFuncBound
import Derived.RangeFuncCalls
import Derived.RangeFuncLeaves
import Derived.Shelf.Abstract
import Derived.Shelf.RegionOpen
import Derived.OwnWalkIn
import Derived.TacticsInMore
import Derived.LoopNIn
import Derived.LoopIn
import Derived.Laws.AppendOwnNone
import Derived.Deep.DeepAppendWide
import Derived.Laws.OwnMore
import Derived.Deep.AppendLies
import Derived.Outline
import Derived.Shelf.Bits.Mul64
import Derived.OrdersIn
import Derived.TacticsIn
import Derived.Deep.QuietTactic
import Derived.BigQuiet
import Derived.Deep.Cut
import Derived.Deep.CutRange
import Derived.ProofKit
import Derived.OpenShut
import Derived.Lib.SmallJoins
import Derived.SliceStrings
import Derived.Deep.Slices
import Derived.SizedLaws
import Derived.ArgAppend
import Derived.Lib.AppendStr
import Derived.Tactics
import Derived.Tactics2
import Derived.Defers
import Derived.Recover
import Derived.Laws.Pointers
namespace Go.Proofs.Ytkpfkknldeafkaa
open Go.RowKit

def failE (e : Int) : PanicEntry := { v := .iface 141 (.agg #[.int .i64 e]), recovered := false }
/-- how a sequence of operations ends -/
def recE (e : Int) : Ending := if e = 0 then .returned (.tuple #[]) else .panicked [failE e]
theorem recE_ok : recE 0 = .returned (.tuple #[]) := rfl
theorem recE_no {e : Int} (h : e ≠ 0) : recE e = .panicked [failE e] := by unfold recE; rw [if_neg h]

set_option maxRecDepth 100000 in
set_option maxHeartbeats 4000000 in
theorem done_ok (b : Nat) (z0 z1 z2 z3 z4 : Value) (sa pa : Option Addr) (sc pc : Nat) (nd : Dk) (w : World) (hW : Bx b #[z0, z1, z2, z3, z4] 116 w) :
    Calls Try.prog 87 #[.pointer (some ⟨b, 0, none⟩), .agg #[.slice sa nd.S.length sc, .slice pa nd.P.length pc, .int .i64 nd.fuse, .int .i64 nd.ops, .bool nd.dead], .int .i64 0] w fun E w' => E = .returned (.tuple #[]) ∧ Bx b #[.slice sa nd.S.length sc, .slice pa nd.P.length pc, .int .i64 nd.fuse, .int .i64 nd.ops, .bool nd.dead] 116 w' ∧ KpB b w w' := by
  have HX := Lib.hid (Bx.new w #[.slice sa nd.S.length sc, .slice pa nd.P.length pc, .int .i64 nd.fuse, .int .i64 nd.ops, .bool nd.dead] 38); have HB := Lib.hid (hW.alloc (.cells #[.slice sa nd.S.length sc, .slice pa nd.P.length pc, .int .i64 nd.fuse, .int .i64 nd.ops, .bool nd.dead] 38)); have HK := Lib.hid (KpB.of_call (b := b) ((Below.refl w.heap.size w).alloc (Nat.le_refl _) (.cells #[.slice sa nd.S.length sc, .slice pa nd.P.length pc, .int .i64 nd.fuse, .int .i64 nd.ops, .bool nd.dead] 38)) (Nat.le_of_lt hW.lt)); have zb := hW.lt; clear hW
  go_enter Try.func87, Try.ntmps87
  go_upto_region 1 with (fail)
  generalize hW0 : w.alloc (.cells #[.slice sa nd.S.length sc, .slice pa nd.P.length pc, .int .i64 nd.fuse, .int .i64 nd.ops, .bool nd.dead] 38) = v0 at HX HB HK ⊢
  clear hW0
  have x0 : v0.cell? ⟨w.heap.size, 0, none⟩ = some (.slice sa nd.S.length sc) := HX.out.cell 0
  have x1 : v0.cell? ⟨w.heap.size, 1, none⟩ = some (.slice pa nd.P.length pc) := HX.out.cell 1
  have x2 : v0.cell? ⟨w.heap.size, 2, none⟩ = some (.int .i64 nd.fuse) := HX.out.cell 2
  have x3 : v0.cell? ⟨w.heap.size, 3, none⟩ = some (.int .i64 nd.ops) := HX.out.cell 3
  have x4 : v0.cell? ⟨w.heap.size, 4, none⟩ = some (.bool nd.dead) := HX.out.cell 4
  have b0 : v0.cell? ⟨b, 0, none⟩ = some (z0) := HB.out.cell 0
  have b1 : v0.cell? ⟨b, 1, none⟩ = some (z1) := HB.out.cell 1
  have b2 : v0.cell? ⟨b, 2, none⟩ = some (z2) := HB.out.cell 2
  have b3 : v0.cell? ⟨b, 3, none⟩ = some (z3) := HB.out.cell 3
  have b4 : v0.cell? ⟨b, 4, none⟩ = some (z4) := HB.out.cell 4
  have g0 := HB.out.free 0
  have g1 := HB.out.free 1
  have g2 := HB.out.free 2
  have g3 := HB.out.free 3
  have g4 := HB.out.free 4
  have HB2 := Lib.hid (HB.out.sets (.slice sa nd.S.length sc) (.slice pa nd.P.length pc) (.int .i64 nd.fuse) (.int .i64 nd.ops) (.bool nd.dead)); have HK2 := Lib.hid (HK.out.sets (.slice sa nd.S.length sc) (.slice pa nd.P.length pc) (.int .i64 nd.fuse) (.int .i64 nd.ops) (.bool nd.dead))
  go_wp2
  go_end0
  exact ⟨rfl, HB2.out, HK2.out⟩
set_option maxRecDepth 100000 in
set_option maxHeartbeats 4000000 in
theorem done_no (b : Nat) (z0 z1 z2 z3 z4 : Value) (sa pa : Option Addr) (sc pc : Nat) (nd : Dk) (e : Int) (he : e ≠ 0) (w : World) (hW : Bx b #[z0, z1, z2, z3, z4] 116 w) :
    Calls Try.prog 87 #[.pointer (some ⟨b, 0, none⟩), .agg #[.slice sa nd.S.length sc, .slice pa nd.P.length pc, .int .i64 nd.fuse, .int .i64 nd.ops, .bool nd.dead], .int .i64 e] w fun E w' => E = .panicked [failE e] ∧ Bx b #[.slice sa nd.S.length sc, .slice pa nd.P.length pc, .int .i64 nd.fuse, .int .i64 nd.ops, .bool nd.dead] 116 w' ∧ KpB b w w' := by
  have HX := Lib.hid (Bx.new w #[.slice sa nd.S.length sc, .slice pa nd.P.length pc, .int .i64 nd.fuse, .int .i64 nd.ops, .bool nd.dead] 38); have HB := Lib.hid (hW.alloc (.cells #[.slice sa nd.S.length sc, .slice pa nd.P.length pc, .int .i64 nd.fuse, .int .i64 nd.ops, .bool nd.dead] 38)); have HK := Lib.hid (KpB.of_call (b := b) ((Below.refl w.heap.size w).alloc (Nat.le_refl _) (.cells #[.slice sa nd.S.length sc, .slice pa nd.P.length pc, .int .i64 nd.fuse, .int .i64 nd.ops, .bool nd.dead] 38)) (Nat.le_of_lt hW.lt)); have zb := hW.lt; clear hW
  have te : (e != 0) = true := by rw [bne_iff_ne]; exact he
  clear he
  go_enter Try.func87, Try.ntmps87
  go_upto_region 1 with (fail)
  generalize hW0 : w.alloc (.cells #[.slice sa nd.S.length sc, .slice pa nd.P.length pc, .int .i64 nd.fuse, .int .i64 nd.ops, .bool nd.dead] 38) = v0 at HX HB HK ⊢
  clear hW0
  have x0 : v0.cell? ⟨w.heap.size, 0, none⟩ = some (.slice sa nd.S.length sc) := HX.out.cell 0
  have x1 : v0.cell? ⟨w.heap.size, 1, none⟩ = some (.slice pa nd.P.length pc) := HX.out.cell 1
  have x2 : v0.cell? ⟨w.heap.size, 2, none⟩ = some (.int .i64 nd.fuse) := HX.out.cell 2
  have x3 : v0.cell? ⟨w.heap.size, 3, none⟩ = some (.int .i64 nd.ops) := HX.out.cell 3
  have x4 : v0.cell? ⟨w.heap.size, 4, none⟩ = some (.bool nd.dead) := HX.out.cell 4
  have b0 : v0.cell? ⟨b, 0, none⟩ = some (z0) := HB.out.cell 0
  have b1 : v0.cell? ⟨b, 1, none⟩ = some (z1) := HB.out.cell 1
  have b2 : v0.cell? ⟨b, 2, none⟩ = some (z2) := HB.out.cell 2
  have b3 : v0.cell? ⟨b, 3, none⟩ = some (z3) := HB.out.cell 3
  have b4 : v0.cell? ⟨b, 4, none⟩ = some (z4) := HB.out.cell 4
  have g0 := HB.out.free 0
  have g1 := HB.out.free 1
  have g2 := HB.out.free 2
  have g3 := HB.out.free 3
  have g4 := HB.out.free 4
  have HB2 := Lib.hid (HB.out.sets (.slice sa nd.S.length sc) (.slice pa nd.P.length pc) (.int .i64 nd.fuse) (.int .i64 nd.ops) (.bool nd.dead)); have HK2 := Lib.hid (HK.out.sets (.slice sa nd.S.length sc) (.slice pa nd.P.length pc) (.int .i64 nd.fuse) (.int .i64 nd.ops) (.bool nd.dead))
  go_wp2
  exact ⟨rfl, rfl, HB2.out, HK2.out⟩
theorem strs_cells {W : World} {b off n cap : Nat} {L : List (List UInt8)} (h : StrS W (.slice (some ⟨b, off, none⟩) n cap) L) : n = L.length ∧ L.length ≤ cap ∧ ∀ i (h : i < L.length), W.cell? ⟨b, off + i, none⟩ = some (strV L[i]) := by
  obtain ⟨a, c, he, hc, hL⟩ := h
  simp only [Value.slice.injEq] at he
  obtain ⟨rfl, hn, rfl⟩ := he
  refine ⟨hn, hc, fun i hi => ?_⟩
  obtain ⟨b', off', hb, hcell⟩ := hL (by intro h0; rw [h0] at hi; simp at hi)
  simp only [Option.some.injEq, Addr.mk.injEq] at hb
  obtain ⟨rfl, rfl, _⟩ := hb
  exact hcell i hi
theorem own_at {W : World} {B : Nat} {va : Option Addr} {vc : Nat} {L : List (List UInt8)} (h : W.ownsRow B 9 1 (.slice va L.length vc) L.length (L.map strV)) (k : Nat) (hk : k < L.length) :
    ∃ gb, va = some ⟨gb, 0, none⟩ ∧ B ≤ gb ∧ W.cell? ⟨gb, k, none⟩ = some (.string (bs L[k])) := by
  have hs := StrS.of_own h
  rcases own_form h with ⟨_, h2⟩ | ⟨g, cap, he, _, hg⟩
  · omega
  · simp only [Value.slice.injEq, true_and] at he
    obtain ⟨rfl, rfl⟩ := he
    obtain ⟨_, _, hc⟩ := strs_cells hs
    have := hc k hk
    rw [Nat.zero_add] at this
    exact ⟨g, rfl, hg, this⟩
theorem own_cap {W : World} {B : Nat} {va : Option Addr} {vc : Nat} {L : List (List UInt8)} (h : W.ownsRow B 9 1 (.slice va L.length vc) L.length (L.map strV)) : L.length ≤ vc := by
  obtain ⟨a, cap, he, hc, _⟩ := StrS.of_own h
  simp only [Value.slice.injEq, true_and] at he
  omega
def RecPost (b : Nat) (r : Dk × Int) (w : World) (E : Ending) (w' : World) : Prop :=
  ∃ sa sc pa pc, E = recE r.2 ∧ Bx b #[.slice sa r.1.S.length sc, .slice pa r.1.P.length pc, .int .i64 r.1.fuse, .int .i64 r.1.ops, .bool r.1.dead] 116 w' ∧ Lists w' sa sc pa pc r.1 ∧ KpB b w w'
set_option maxRecDepth 100000 in
set_option maxHeartbeats 64000000 in
theorem record_any (b : Nat) (sa pa : Option Addr) (sc pc : Nat) (d : Dk) (g at_ : Int) (l : List UInt8) (SL : List (List UInt8)) (r : Dk × Int) (w : World) (hW : Bx b #[.slice sa d.S.length sc, .slice pa d.P.length pc, .int .i64 d.fuse, .int .i64 d.ops, .bool d.dead] 116 w) (hD : Lists w sa sc pa pc d) (hl : l.length ≤ 1000000000000000) (hsp : splitS g l = (SL, 0)) (hr : wrF SL d at_ = r) (a0 : 0 ≤ at_) (a1 : at_ ≤ 1000000) (hp : d.P.length ≤ 8000000000000) :
    Calls Try.prog 81 #[.pointer (some ⟨b, 0, none⟩), .int .i64 g, .int .i64 at_, .string (bs l)] w (RecPost b r w) := by
  have hsl := split_len g l
  rw [hsp] at hsl
  simp only at hsl
  obtain ⟨_, _, hb3, hb4⟩ := hD
  have hD : Lists w sa sc pa pc d := ⟨by assumption, by assumption, hb3, hb4⟩
  have HSP := Lib.hid hsp; have HR := Lib.hid hr; have HW := Lib.hid hW; have HD := Lib.hid hD; have zb := hW.lt; clear hsp hr hW hD
  go_enter Try.func81, Try.ntmps81
  go_wp2_with fail
  refine (Split_any g l _ hl).mono ?_
  rw [HSP.out]
  rintro er w1 ⟨v, rfl, hown, hb1⟩
  have HW1 := Lib.hid (HW.out.call hb1); have HD1 := Lib.hid (HD.out.below hb1); have HK1 := Lib.hid (KpB.of_call hb1 (Nat.le_of_lt zb)); clear hb1 HW HD
  obtain ⟨va, vc, rfl⟩ := own_slice hown
  have HO := Lib.hid hown; clear hown
  go_wp2
  go_loopw [25] (fun i wr => ∃ (k : Nat) (dk : Dk) (a1 : Option Addr) (c1 : Nat) (a2 : Option Addr) (c2 : Nat), k ≤ SL.length ∧ i = .int .i64 k ∧ wrF (SL.drop k) dk (at_ + (k : Int)) = r ∧ dk.S.length = d.S.length ∧ dk.P.length ≤ d.P.length + k ∧ Bx b #[.slice a1 dk.S.length c1, .slice a2 dk.P.length c2, .int .i64 dk.fuse, .int .i64 dk.ops, .bool dk.dead] 116 wr ∧ Lists wr a1 c1 a2 c2 dk ∧ KpB b w1 wr) (fun i _ => SL.length - (intOf i).toNat)
  case atStart => exact ⟨0, d, sa, sc, pa, pc, Nat.zero_le _, rfl, by rw [show at_ + ((0 : Nat) : Int) = at_ by omega]; exact HR.out, rfl, Nat.le_refl _, HW1.out, HD1.out, KpB.refl _ _⟩
  case round =>
    obtain ⟨k, dk, a1, c1, a2, c2, hk, rfl, h1, h2, h3, h4, h5, h6⟩ := hrel
    have HE := Lib.hid h1; have HS := Lib.hid h2; have HW := Lib.hid h4; have HD := Lib.hid h5; have HK := Lib.hid h6; clear h1 h2 h4 h5 h6 HW1 HD1
    by_cases hlt : k < SL.length
    · have hlt' : (k : Int) < (SL.length : Int) := by omega
      obtain ⟨gb, rfl, hgb, hcell⟩ : ∃ gb, va = some ⟨gb, 0, none⟩ ∧ w.heap.size ≤ gb ∧ w1.cell? ⟨gb, k, none⟩ = some (.string (bs SL[k])) := own_at HO.out k hlt
      have hne : gb ≠ b := by omega
      have hcw := HK.out.cell hcell hne
      have hcl : SL.length ≤ vc := own_cap HO.out
      have HNE := Lib.hid hcell; clear hcell
      obtain ⟨⟨d2, e2⟩, hw⟩ : ∃ x, writeS dk (at_ + (k : Int)) SL[k] = x := ⟨_, rfl⟩
      have hwl := write_len dk (at_ + (k : Int)) SL[k]
      rw [hw] at hwl
      simp only at hwl
      obtain ⟨hwl1, hwl2⟩ := hwl
      have HWL := Lib.hid hwl1; clear hwl1
      have hdr : SL.drop k = SL[k] :: SL.drop (k + 1) := List.drop_eq_getElem_cons hlt
      have HDR := Lib.hid hdr; have HWR := Lib.hid hw; clear hdr hw
      have x0 : wr.cell? ⟨b, 0, none⟩ = some (.slice a1 dk.S.length c1) := HW.out.cell 0
      have x1 : wr.cell? ⟨b, 1, none⟩ = some (.slice a2 dk.P.length c2) := HW.out.cell 1
      have x2 : wr.cell? ⟨b, 2, none⟩ = some (.int .i64 dk.fuse) := HW.out.cell 2
      have x3 : wr.cell? ⟨b, 3, none⟩ = some (.int .i64 dk.ops) := HW.out.cell 3
      have x4 : wr.cell? ⟨b, 4, none⟩ = some (.bool dk.dead) := HW.out.cell 4
      go_wp2_with fail
      refine (Write_any _ _ _ _ dk (at_ + (k : Int)) SL[k] _ HD.out (by omega)).mono ?_
      rw [HWR.out]
      rintro er w2 ⟨a3, c3, a4, c4, rfl, hO2, hb2⟩
      clear x0 x1 x2 x3 x4 hcw
      have zbr := HW.out.lt
      have HD2 := Lib.hid (hO2.lists (d := d2) (by omega) (by rw [HWL.out, HS.out]; exact hb4)); clear hO2
      have HW2 := Lib.hid (HW.out.call hb2); have HK2 := Lib.hid (HK.out.trans (KpB.of_call hb2 (Nat.le_of_lt zbr))); clear hb2 HW HD HK
      by_cases he : e2 = 0
      · subst he
        go_wp2_with fail
        refine (done_ok b _ _ _ _ _ a3 a4 c3 c4 d2 _ HW2.out).mono ?_
        rintro er w3 ⟨rfl, hW3, hK3⟩
        have HD3 := Lib.hid (hK3.lists HD2.out HW2.out); have HW3 := Lib.hid hW3; have HK3 := Lib.hid (HK2.out.trans hK3); clear hW3 hK3
        go_wp2
        go_roundw
        case rel => exact ⟨k + 1, d2, a3, c3, a4, c4, by omega, by go_num, by rw [← HE.out, HDR.out, wrF_ok (by rw [HWR.out]), HWR.out]; rw [show at_ + ((k + 1 : Nat) : Int) = at_ + (k : Int) + 1 by omega], by rw [HWL.out, HS.out], by omega, HW3.out, HD3.out, HK3.out⟩
        case measure => simp [intOf]; omega
      · have hr2 : r = (d2, e2) := by rw [← HE.out, HDR.out, wrF_no (by rw [HWR.out]; exact he), HWR.out]
        subst hr2
        go_wp2_with fail
        refine (done_no b _ _ _ _ _ a3 a4 c3 c4 d2 e2 he _ HW2.out).mono ?_
        rintro er w3 ⟨rfl, hW3, hK3⟩
        have HD3 := Lib.hid (hK3.lists HD2.out HW2.out); have HW3 := Lib.hid hW3; have HK3 := Lib.hid ((HK1.out.trans HK2.out).trans hK3); clear hW3 hK3
        exact ⟨rfl, a3, c3, a4, c4, (recE_no he).symm, HW3.out, HD3.out, HK3.out⟩
    · obtain rfl : k = SL.length := by omega
      have hlt' : ¬ ((SL.length : Nat) : Int) < (SL.length : Int) := by omega
      obtain ⟨⟨d2, e2⟩, hw⟩ : ∃ x, syncS dk = x := ⟨_, rfl⟩
      have hwl := sync_len dk
      rw [hw] at hwl
      simp only at hwl
      obtain ⟨hwl1, hwl2⟩ := hwl
      have HWL := Lib.hid hwl1; clear hwl1
      have hre : r = (d2, e2) := by rw [← HE.out, List.drop_length, wrF_nil, hw]
      subst hre
      have HWR := Lib.hid hw; clear hw
      have x0 : wr.cell? ⟨b, 0, none⟩ = some (.slice a1 dk.S.length c1) := HW.out.cell 0
      have x1 : wr.cell? ⟨b, 1, none⟩ = some (.slice a2 dk.P.length c2) := HW.out.cell 1
      have x2 : wr.cell? ⟨b, 2, none⟩ = some (.int .i64 dk.fuse) := HW.out.cell 2
      have x3 : wr.cell? ⟨b, 3, none⟩ = some (.int .i64 dk.ops) := HW.out.cell 3
      have x4 : wr.cell? ⟨b, 4, none⟩ = some (.bool dk.dead) := HW.out.cell 4
      go_wp2_with fail
      refine (Sync_any _ _ _ _ dk _ HD.out).mono ?_
      rw [HWR.out]
      rintro er w2 ⟨a3, c3, a4, c4, rfl, hO2, hb2⟩
      clear x0 x1 x2 x3 x4
      have zbr := HW.out.lt
      have HD2 := Lib.hid (hO2.lists (d := d2) (by omega) (by rw [HWL.out, HS.out]; exact hb4)); clear hO2
      have HW2 := Lib.hid (HW.out.call hb2); have HK2 := Lib.hid (HK.out.trans (KpB.of_call hb2 (Nat.le_of_lt zbr))); clear hb2 HW HD HK
      by_cases he : e2 = 0
      · subst he
        go_wp2_with fail
        refine (done_ok b _ _ _ _ _ a3 a4 c3 c4 d2 _ HW2.out).mono ?_
        rintro er w3 ⟨rfl, hW3, hK3⟩
        have HD3 := Lib.hid (hK3.lists HD2.out HW2.out); have HW3 := Lib.hid hW3; have HK3 := Lib.hid ((HK1.out.trans HK2.out).trans hK3); clear hW3 hK3
        go_wp2
        go_end0
        exact ⟨a3, c3, a4, c4, recE_ok.symm, HW3.out, HD3.out, HK3.out⟩
      · skip
        go_wp2_with fail
        refine (done_no b _ _ _ _ _ a3 a4 c3 c4 d2 e2 he _ HW2.out).mono ?_
        rintro er w3 ⟨rfl, hW3, hK3⟩
        have HD3 := Lib.hid (hK3.lists HD2.out HW2.out); have HW3 := Lib.hid hW3; have HK3 := Lib.hid ((HK1.out.trans HK2.out).trans hK3); clear hW3 hK3
        exact ⟨rfl, a3, c3, a4, c4, (recE_no he).symm, HW3.out, HD3.out, HK3.out⟩
end Go.Proofs.Ytkpfkknldeafkaa

namespace Go.Proofs.Ytkpfkknldeafkaa
open Go.RowKit

theorem run_assert (u : TypeId) (v : Value) (w : World) : (Instr.typeAssert (.iface 141 v) u 141 true).run Try.prog w = .ok (.tuple #[v, .bool true]) w := by
  simp [Instr.typeAssert, run_underlying Try.underlying141]
set_option maxRecDepth 100000 in
set_option maxHeartbeats 4000000 in
theorem catch_idle (p : Nat) (w : World) :
    CallsD Try.prog 110 #[.pointer (some ⟨p, 0, none⟩)] .returning w fun e u' w' => e = .returned (.tuple #[]) ∧ u' = .returning ∧ w' = w := by
  refine callsD_of_wpS Try.func110 rfl fun c₀ cs hu => ?_
  apply wpS_seq
  apply wpS_region
  simp [wpOpsS, go_sem, recoverD, hu, Try.ntmps110, Exit.thenS]
  have hT : ∀ x : Value, #[Value.pointer (some ⟨p, 0, none⟩)] ++ ((Array.replicate 15 undef).setIfInBounds 3 x).setIfInBounds 0 x = #[Value.pointer (some ⟨p, 0, none⟩), x, undef, undef, x, undef, undef, undef, undef, undef, undef, undef, undef, undef, undef, undef] := fun _ => rfl
  rw [hT]
  refine wpS_of_wp ?_
  go_wp2
  cases c₀
  simp_all [bodyPostS, results, Try.results110]
set_option maxRecDepth 100000 in
set_option maxHeartbeats 4000000 in
theorem catch_pan (p : Nat) (x e : Int) (w : World) (hc : Bx p #[.int .i64 x] 24 w) :
    CallsD Try.prog 110 #[.pointer (some ⟨p, 0, none⟩)] (.panicking [failE e]) w fun E u' w' => E = .returned (.tuple #[]) ∧ u' = .panicking [{ failE e with recovered := true }] ∧ Bx p #[.int .i64 e] 24 w' ∧ KpB p w w' := by
  refine callsD_of_wpS Try.func110 rfl fun c₀ cs hu => ?_
  apply wpS_seq
  apply wpS_region
  unfold failE at hu
  simp [wpOpsS, go_sem, recoverD, hu, Try.ntmps110, Exit.thenS]
  have hT : ∀ x : Value, #[Value.pointer (some ⟨p, 0, none⟩)] ++ ((Array.replicate 15 undef).setIfInBounds 3 x).setIfInBounds 0 x = #[Value.pointer (some ⟨p, 0, none⟩), x, undef, undef, x, undef, undef, undef, undef, undef, undef, undef, undef, undef, undef, undef] := fun _ => rfl
  rw [hT]
  refine wpS_of_wp ?_
  have hta := run_assert
  have HC := Lib.hid (hc.alloc (.cells #[.int .i64 e] 141)); have HY := Lib.hid (Bx.new w #[.int .i64 e] 141); have HK := Lib.hid (KpB.of_call (b := p) ((Below.refl w.heap.size w).alloc (Nat.le_refl _) (.cells #[.int .i64 e] 141)) (Nat.le_of_lt hc.lt))
  clear hc
  go_upto_region 3 with (fail)
  generalize hW0 : w.alloc (.cells #[.int .i64 e] 141) = v0 at HC HY HK ⊢
  clear hW0
  have y0 : v0.cell? ⟨w.heap.size, 0, none⟩ = some (.int .i64 e) := HY.out.cell 0
  have c0 : v0.cell? ⟨p, 0, none⟩ = some (.int .i64 x) := HC.out.cell 0
  have f0 := HC.out.free 0
  have HC2 : Bx p #[.int .i64 e] 24 (v0.setCell ⟨p, 0, none⟩ (.int .i64 e)) := HC.out.set 0 (.int .i64 e)
  have HK2 := HK.out.set 0 (.int .i64 e)
  have HC3 := Lib.hid HC2; have HK3 := Lib.hid HK2; clear HC2 HK2
  go_wp2
  exact ⟨rfl, _, rfl, .tuple #[], results_none rfl _ _ _, rfl, rfl, HC3.out, HK3.out⟩
theorem KpB.join {b p : Nat} {w w1 w2 : World} (h : KpB b w w1) (k : KpB p w1 w2) (hp : w.heap.size ≤ p) (hb : b ≤ p) : KpB b w w2 :=
  ⟨h.below.trans (k.below.mono hb), Nat.le_trans h.size k.size, fun c hc hl => (k.other c (by omega) (Nat.lt_of_lt_of_le hl h.size)).trans (h.other c hc hl)⟩
theorem one_nostr {B o : Nat} {s : List UInt8} {T : TypeId} {W : World} {x : Int} (h : Bx B #[.int .i64 x] T W) : W.cell? ⟨B, o, none⟩ ≠ some (strV s) := by
  rw [h.cell o]
  match o with
  | 0 => intro e; cases e
  | n + 1 => intro e; simp at e
theorem KpB.lists1 {b : Nat} {W W' : World} {sa pa : Option Addr} {sc pc : Nat} {d : Dk} (hk : KpB b W W') (h : Lists W sa sc pa pc d) {T : TypeId} {x : Int} (hB : Bx b #[.int .i64 x] T W) :
    Lists W' sa sc pa pc d := by
  obtain ⟨⟨a, cap, he, hc, hx⟩, ⟨a', cap', he', hc', hx'⟩, h3, h4⟩ := h
  refine ⟨⟨a, cap, he, hc, fun hne => ?_⟩, ⟨a', cap', he', hc', fun hne => ?_⟩, h3, h4⟩
  · obtain ⟨b', off, ha, hcell⟩ := hx hne
    refine ⟨b', off, ha, fun i hi => hk.cell (hcell i hi) ?_⟩
    intro e; subst e; exact one_nostr hB (hcell i hi)
  · obtain ⟨b', off, ha, hcell⟩ := hx' hne
    refine ⟨b', off, ha, fun i hi => ?_⟩
    have hne2 : b' ≠ b := by intro e; subst e; exact one_nostr hB (hcell i hi).2
    exact ⟨hk.cell (hcell i hi).1 hne2, hk.cell (hcell i hi).2 hne2⟩
def RunPost (b : Nat) (r : Dk × Int) (w : World) (E : Ending) (w' : World) : Prop :=
  ∃ sa sc pa pc, E = .returned (.int .i64 r.2) ∧ Bx b #[.slice sa r.1.S.length sc, .slice pa r.1.P.length pc, .int .i64 r.1.fuse, .int .i64 r.1.ops, .bool r.1.dead] 116 w' ∧ Lists w' sa sc pa pc r.1 ∧ KpB b w w'
set_option maxRecDepth 100000 in
set_option maxHeartbeats 8000000 in
theorem run_any (K : FuncId) (caps : Array Value) (b : Nat) (r : Dk × Int) (w : World) (hE : ∀ w : World, (callFunc K caps).run Try.prog w = .ok (.enter K caps) w) (hb : b < w.heap.size) (hC : Calls Try.prog K caps (w.alloc (.cells #[.int .i64 0] 24)) (RecPost b r (w.alloc (.cells #[.int .i64 0] 24)))) :
    Calls Try.prog 79 #[.pointer (some ⟨b, 0, none⟩), .func (.func K) #[] caps] w (RunPost b r w) := by
  have hmf : ∀ (fn : Fn) (first cap : Array Value) (w : World), (Instr.makeFunc fn first cap).run Try.prog w = .ok (.func fn first cap) w := fun _ _ _ _ => rfl
  have HX := Lib.hid (Bx.new w #[.int .i64 0] 24); have HK := Lib.hid (KpB.of_call (b := b) ((Below.refl w.heap.size w).alloc (Nat.le_refl _) (.cells #[.int .i64 0] 24)) (Nat.le_of_lt hb))
  go_enter_defers Try.func79, Try.ntmps79
  go_wp2_with fail
  refine hC.mono ?_
  clear hE
  rintro E w1 ⟨a1, c1, a2, c2, hE, h1, h2, h3⟩
  have HW := Lib.hid h1; have HD := Lib.hid h2; have HKK := Lib.hid h3; have HX1 := Lib.hid (h3.bx HX.out (Nat.ne_of_gt hb)); clear h1 h2 h3
  by_cases he : r.2 = 0
  · rw [he, recE_ok] at hE
    subst hE
    have x0 : w1.cell? ⟨w.heap.size, 0, none⟩ = some (.int .i64 0) := HX1.out.cell 0
    have f0 := HX1.out.free 0
    have HX2 := Lib.hid (show Bx w.heap.size #[.int .i64 0] 24 (w1.setCell ⟨w.heap.size, 0, none⟩ (.int .i64 0)) from HX1.out.set 0 (.int .i64 0))
    go_wp2
    refine leaves_cons (f := 110) (args := #[.pointer (some ⟨w.heap.size, 0, none⟩)]) (by simp) (by simp [go_sem]) ?_
    refine (catch_idle w.heap.size _).mono ?_
    rintro e u' w'' ⟨rfl, rfl, rfl⟩
    have k0 : (w1.setCell ⟨w.heap.size, 0, none⟩ (.int .i64 0)).cell? ⟨w.heap.size, 0, none⟩ = some (.int .i64 0) := HX2.out.cell 0
    have hK3 : KpB w.heap.size w1 (w1.setCell ⟨w.heap.size, 0, none⟩ (.int .i64 0)) := (KpB.refl _ _).set 0 _
    have hpost : RunPost b r w (.returned (.int .i64 0)) (w1.setCell ⟨w.heap.size, 0, none⟩ (.int .i64 0)) :=
      ⟨a1, c1, a2, c2, by rw [he], hK3.bx HW.out (Nat.ne_of_lt hb), hK3.lists1 HD.out HX1.out, (HK.out.trans HKK.out).join hK3 (Nat.le_refl _) (Nat.le_of_lt hb)⟩
    simpa [Leaves, settle, results, Try.results79, go_sem, k0] using hpost
  · rw [recE_no he] at hE
    subst hE
    go_wp2
    refine leaves_cons (f := 110) (args := #[.pointer (some ⟨w.heap.size, 0, none⟩)]) (by simp) (by simp [go_sem]) ?_
    refine (catch_pan w.heap.size 0 r.2 _ HX1.out).mono ?_
    rintro e u' w'' ⟨rfl, rfl, hX3, hK3⟩
    have k0 : w''.cell? ⟨w.heap.size, 0, none⟩ = some (.int .i64 r.2) := hX3.cell 0
    have hpost : RunPost b r w (.returned (.int .i64 r.2)) w'' :=
      ⟨a1, c1, a2, c2, rfl, hK3.bx HW.out (Nat.ne_of_lt hb), hK3.lists1 HD.out HX1.out, (HK.out.trans HKK.out).join hK3 (Nat.le_refl _) (Nat.le_of_lt hb)⟩
    simpa [Leaves, settle, results, Try.results79, go_sem, k0, failE] using hpost
end Go.Proofs.Ytkpfkknldeafkaa

namespace Go.Proofs.Ytkpfkknldeafkaa
open Go.RowKit

theorem wcells13_sets {W : World} {x y z i0 i1 i2 i3 i4 i5 i6 i7 i8 i9 i10 i11 i12 : Nat} {u0 u1 u2 u3 u4 u5 u6 u7 u8 u9 u10 u11 u12 : Value} (h : W.drew.cell? ⟨x, i0, none⟩ = some u0 ∧ W.drew.cell? ⟨x, i1, none⟩ = some u1 ∧ W.drew.cell? ⟨x, i2, none⟩ = some u2 ∧ W.drew.cell? ⟨x, i3, none⟩ = some u3 ∧ W.drew.cell? ⟨x, i4, none⟩ = some u4 ∧ W.drew.cell? ⟨y, i5, none⟩ = some u5 ∧ W.drew.cell? ⟨y, i6, none⟩ = some u6 ∧ W.drew.cell? ⟨y, i7, none⟩ = some u7 ∧ W.drew.cell? ⟨y, i8, none⟩ = some u8 ∧ W.drew.cell? ⟨y, i9, none⟩ = some u9 ∧ W.drew.cell? ⟨y, i10, none⟩ = some u10 ∧ W.drew.cell? ⟨y, i11, none⟩ = some u11 ∧ W.drew.cell? ⟨z, i12, none⟩ = some u12) (b : Nat) (h_x : b ≠ x) (h_y : b ≠ y) (h_z : b ≠ z) (v0 v1 v2 v3 v4 : Value) :
    (((((W.setCell ⟨b, 0, none⟩ v0).setCell ⟨b, 1, none⟩ v1).setCell ⟨b, 2, none⟩ v2).setCell ⟨b, 3, none⟩ v3).setCell ⟨b, 4, none⟩ v4).drew.cell? ⟨x, i0, none⟩ = some u0 ∧ (((((W.setCell ⟨b, 0, none⟩ v0).setCell ⟨b, 1, none⟩ v1).setCell ⟨b, 2, none⟩ v2).setCell ⟨b, 3, none⟩ v3).setCell ⟨b, 4, none⟩ v4).drew.cell? ⟨x, i1, none⟩ = some u1 ∧ (((((W.setCell ⟨b, 0, none⟩ v0).setCell ⟨b, 1, none⟩ v1).setCell ⟨b, 2, none⟩ v2).setCell ⟨b, 3, none⟩ v3).setCell ⟨b, 4, none⟩ v4).drew.cell? ⟨x, i2, none⟩ = some u2 ∧ (((((W.setCell ⟨b, 0, none⟩ v0).setCell ⟨b, 1, none⟩ v1).setCell ⟨b, 2, none⟩ v2).setCell ⟨b, 3, none⟩ v3).setCell ⟨b, 4, none⟩ v4).drew.cell? ⟨x, i3, none⟩ = some u3 ∧ (((((W.setCell ⟨b, 0, none⟩ v0).setCell ⟨b, 1, none⟩ v1).setCell ⟨b, 2, none⟩ v2).setCell ⟨b, 3, none⟩ v3).setCell ⟨b, 4, none⟩ v4).drew.cell? ⟨x, i4, none⟩ = some u4 ∧ (((((W.setCell ⟨b, 0, none⟩ v0).setCell ⟨b, 1, none⟩ v1).setCell ⟨b, 2, none⟩ v2).setCell ⟨b, 3, none⟩ v3).setCell ⟨b, 4, none⟩ v4).drew.cell? ⟨y, i5, none⟩ = some u5 ∧ (((((W.setCell ⟨b, 0, none⟩ v0).setCell ⟨b, 1, none⟩ v1).setCell ⟨b, 2, none⟩ v2).setCell ⟨b, 3, none⟩ v3).setCell ⟨b, 4, none⟩ v4).drew.cell? ⟨y, i6, none⟩ = some u6 ∧ (((((W.setCell ⟨b, 0, none⟩ v0).setCell ⟨b, 1, none⟩ v1).setCell ⟨b, 2, none⟩ v2).setCell ⟨b, 3, none⟩ v3).setCell ⟨b, 4, none⟩ v4).drew.cell? ⟨y, i7, none⟩ = some u7 ∧ (((((W.setCell ⟨b, 0, none⟩ v0).setCell ⟨b, 1, none⟩ v1).setCell ⟨b, 2, none⟩ v2).setCell ⟨b, 3, none⟩ v3).setCell ⟨b, 4, none⟩ v4).drew.cell? ⟨y, i8, none⟩ = some u8 ∧ (((((W.setCell ⟨b, 0, none⟩ v0).setCell ⟨b, 1, none⟩ v1).setCell ⟨b, 2, none⟩ v2).setCell ⟨b, 3, none⟩ v3).setCell ⟨b, 4, none⟩ v4).drew.cell? ⟨y, i9, none⟩ = some u9 ∧ (((((W.setCell ⟨b, 0, none⟩ v0).setCell ⟨b, 1, none⟩ v1).setCell ⟨b, 2, none⟩ v2).setCell ⟨b, 3, none⟩ v3).setCell ⟨b, 4, none⟩ v4).drew.cell? ⟨y, i10, none⟩ = some u10 ∧ (((((W.setCell ⟨b, 0, none⟩ v0).setCell ⟨b, 1, none⟩ v1).setCell ⟨b, 2, none⟩ v2).setCell ⟨b, 3, none⟩ v3).setCell ⟨b, 4, none⟩ v4).drew.cell? ⟨y, i11, none⟩ = some u11 ∧ (((((W.setCell ⟨b, 0, none⟩ v0).setCell ⟨b, 1, none⟩ v1).setCell ⟨b, 2, none⟩ v2).setCell ⟨b, 3, none⟩ v3).setCell ⟨b, 4, none⟩ v4).drew.cell? ⟨z, i12, none⟩ = some u12 := by
  obtain ⟨h0, h1, h2, h3, h4, h5, h6, h7, h8, h9, h10, h11, h12⟩ := h
  exact ⟨drew_cell (cell1_set _ h_x (cell1_set _ h_x (cell1_set _ h_x (cell1_set _ h_x (cell1_set _ h_x (cell_drew h0)))))), drew_cell (cell1_set _ h_x (cell1_set _ h_x (cell1_set _ h_x (cell1_set _ h_x (cell1_set _ h_x (cell_drew h1)))))), drew_cell (cell1_set _ h_x (cell1_set _ h_x (cell1_set _ h_x (cell1_set _ h_x (cell1_set _ h_x (cell_drew h2)))))), drew_cell (cell1_set _ h_x (cell1_set _ h_x (cell1_set _ h_x (cell1_set _ h_x (cell1_set _ h_x (cell_drew h3)))))), drew_cell (cell1_set _ h_x (cell1_set _ h_x (cell1_set _ h_x (cell1_set _ h_x (cell1_set _ h_x (cell_drew h4)))))), drew_cell (cell1_set _ h_y (cell1_set _ h_y (cell1_set _ h_y (cell1_set _ h_y (cell1_set _ h_y (cell_drew h5)))))), drew_cell (cell1_set _ h_y (cell1_set _ h_y (cell1_set _ h_y (cell1_set _ h_y (cell1_set _ h_y (cell_drew h6)))))), drew_cell (cell1_set _ h_y (cell1_set _ h_y (cell1_set _ h_y (cell1_set _ h_y (cell1_set _ h_y (cell_drew h7)))))), drew_cell (cell1_set _ h_y (cell1_set _ h_y (cell1_set _ h_y (cell1_set _ h_y (cell1_set _ h_y (cell_drew h8)))))), drew_cell (cell1_set _ h_y (cell1_set _ h_y (cell1_set _ h_y (cell1_set _ h_y (cell1_set _ h_y (cell_drew h9)))))), drew_cell (cell1_set _ h_y (cell1_set _ h_y (cell1_set _ h_y (cell1_set _ h_y (cell1_set _ h_y (cell_drew h10)))))), drew_cell (cell1_set _ h_y (cell1_set _ h_y (cell1_set _ h_y (cell1_set _ h_y (cell1_set _ h_y (cell_drew h11)))))), drew_cell (cell1_set _ h_z (cell1_set _ h_z (cell1_set _ h_z (cell1_set _ h_z (cell1_set _ h_z (cell_drew h12))))))⟩
theorem wcells13_sets7 {W : World} {x y z i0 i1 i2 i3 i4 i5 i6 i7 i8 i9 i10 i11 i12 : Nat} {u0 u1 u2 u3 u4 u5 u6 u7 u8 u9 u10 u11 u12 : Value} (h : W.drew.cell? ⟨x, i0, none⟩ = some u0 ∧ W.drew.cell? ⟨x, i1, none⟩ = some u1 ∧ W.drew.cell? ⟨x, i2, none⟩ = some u2 ∧ W.drew.cell? ⟨x, i3, none⟩ = some u3 ∧ W.drew.cell? ⟨x, i4, none⟩ = some u4 ∧ W.drew.cell? ⟨y, i5, none⟩ = some u5 ∧ W.drew.cell? ⟨y, i6, none⟩ = some u6 ∧ W.drew.cell? ⟨y, i7, none⟩ = some u7 ∧ W.drew.cell? ⟨y, i8, none⟩ = some u8 ∧ W.drew.cell? ⟨y, i9, none⟩ = some u9 ∧ W.drew.cell? ⟨y, i10, none⟩ = some u10 ∧ W.drew.cell? ⟨y, i11, none⟩ = some u11 ∧ W.drew.cell? ⟨z, i12, none⟩ = some u12) (b : Nat) (h_x : b ≠ x) (h_y : b ≠ y) (h_z : b ≠ z) (v0 v1 v2 v3 v4 v5 v6 : Value) :
    (((((((W.setCell ⟨b, 0, none⟩ v0).setCell ⟨b, 1, none⟩ v1).setCell ⟨b, 2, none⟩ v2).setCell ⟨b, 3, none⟩ v3).setCell ⟨b, 4, none⟩ v4).setCell ⟨b, 5, none⟩ v5).setCell ⟨b, 6, none⟩ v6).drew.cell? ⟨x, i0, none⟩ = some u0 ∧ (((((((W.setCell ⟨b, 0, none⟩ v0).setCell ⟨b, 1, none⟩ v1).setCell ⟨b, 2, none⟩ v2).setCell ⟨b, 3, none⟩ v3).setCell ⟨b, 4, none⟩ v4).setCell ⟨b, 5, none⟩ v5).setCell ⟨b, 6, none⟩ v6).drew.cell? ⟨x, i1, none⟩ = some u1 ∧ (((((((W.setCell ⟨b, 0, none⟩ v0).setCell ⟨b, 1, none⟩ v1).setCell ⟨b, 2, none⟩ v2).setCell ⟨b, 3, none⟩ v3).setCell ⟨b, 4, none⟩ v4).setCell ⟨b, 5, none⟩ v5).setCell ⟨b, 6, none⟩ v6).drew.cell? ⟨x, i2, none⟩ = some u2 ∧ (((((((W.setCell ⟨b, 0, none⟩ v0).setCell ⟨b, 1, none⟩ v1).setCell ⟨b, 2, none⟩ v2).setCell ⟨b, 3, none⟩ v3).setCell ⟨b, 4, none⟩ v4).setCell ⟨b, 5, none⟩ v5).setCell ⟨b, 6, none⟩ v6).drew.cell? ⟨x, i3, none⟩ = some u3 ∧ (((((((W.setCell ⟨b, 0, none⟩ v0).setCell ⟨b, 1, none⟩ v1).setCell ⟨b, 2, none⟩ v2).setCell ⟨b, 3, none⟩ v3).setCell ⟨b, 4, none⟩ v4).setCell ⟨b, 5, none⟩ v5).setCell ⟨b, 6, none⟩ v6).drew.cell? ⟨x, i4, none⟩ = some u4 ∧ (((((((W.setCell ⟨b, 0, none⟩ v0).setCell ⟨b, 1, none⟩ v1).setCell ⟨b, 2, none⟩ v2).setCell ⟨b, 3, none⟩ v3).setCell ⟨b, 4, none⟩ v4).setCell ⟨b, 5, none⟩ v5).setCell ⟨b, 6, none⟩ v6).drew.cell? ⟨y, i5, none⟩ = some u5 ∧ (((((((W.setCell ⟨b, 0, none⟩ v0).setCell ⟨b, 1, none⟩ v1).setCell ⟨b, 2, none⟩ v2).setCell ⟨b, 3, none⟩ v3).setCell ⟨b, 4, none⟩ v4).setCell ⟨b, 5, none⟩ v5).setCell ⟨b, 6, none⟩ v6).drew.cell? ⟨y, i6, none⟩ = some u6 ∧ (((((((W.setCell ⟨b, 0, none⟩ v0).setCell ⟨b, 1, none⟩ v1).setCell ⟨b, 2, none⟩ v2).setCell ⟨b, 3, none⟩ v3).setCell ⟨b, 4, none⟩ v4).setCell ⟨b, 5, none⟩ v5).setCell ⟨b, 6, none⟩ v6).drew.cell? ⟨y, i7, none⟩ = some u7 ∧ (((((((W.setCell ⟨b, 0, none⟩ v0).setCell ⟨b, 1, none⟩ v1).setCell ⟨b, 2, none⟩ v2).setCell ⟨b, 3, none⟩ v3).setCell ⟨b, 4, none⟩ v4).setCell ⟨b, 5, none⟩ v5).setCell ⟨b, 6, none⟩ v6).drew.cell? ⟨y, i8, none⟩ = some u8 ∧ (((((((W.setCell ⟨b, 0, none⟩ v0).setCell ⟨b, 1, none⟩ v1).setCell ⟨b, 2, none⟩ v2).setCell ⟨b, 3, none⟩ v3).setCell ⟨b, 4, none⟩ v4).setCell ⟨b, 5, none⟩ v5).setCell ⟨b, 6, none⟩ v6).drew.cell? ⟨y, i9, none⟩ = some u9 ∧ (((((((W.setCell ⟨b, 0, none⟩ v0).setCell ⟨b, 1, none⟩ v1).setCell ⟨b, 2, none⟩ v2).setCell ⟨b, 3, none⟩ v3).setCell ⟨b, 4, none⟩ v4).setCell ⟨b, 5, none⟩ v5).setCell ⟨b, 6, none⟩ v6).drew.cell? ⟨y, i10, none⟩ = some u10 ∧ (((((((W.setCell ⟨b, 0, none⟩ v0).setCell ⟨b, 1, none⟩ v1).setCell ⟨b, 2, none⟩ v2).setCell ⟨b, 3, none⟩ v3).setCell ⟨b, 4, none⟩ v4).setCell ⟨b, 5, none⟩ v5).setCell ⟨b, 6, none⟩ v6).drew.cell? ⟨y, i11, none⟩ = some u11 ∧ (((((((W.setCell ⟨b, 0, none⟩ v0).setCell ⟨b, 1, none⟩ v1).setCell ⟨b, 2, none⟩ v2).setCell ⟨b, 3, none⟩ v3).setCell ⟨b, 4, none⟩ v4).setCell ⟨b, 5, none⟩ v5).setCell ⟨b, 6, none⟩ v6).drew.cell? ⟨z, i12, none⟩ = some u12 := by
  obtain ⟨h0, h1, h2, h3, h4, h5, h6, h7, h8, h9, h10, h11, h12⟩ := h
  exact ⟨drew_cell (cell1_set _ h_x (cell1_set _ h_x (cell1_set _ h_x (cell1_set _ h_x (cell1_set _ h_x (cell1_set _ h_x (cell1_set _ h_x (cell_drew h0)))))))), drew_cell (cell1_set _ h_x (cell1_set _ h_x (cell1_set _ h_x (cell1_set _ h_x (cell1_set _ h_x (cell1_set _ h_x (cell1_set _ h_x (cell_drew h1)))))))), drew_cell (cell1_set _ h_x (cell1_set _ h_x (cell1_set _ h_x (cell1_set _ h_x (cell1_set _ h_x (cell1_set _ h_x (cell1_set _ h_x (cell_drew h2)))))))), drew_cell (cell1_set _ h_x (cell1_set _ h_x (cell1_set _ h_x (cell1_set _ h_x (cell1_set _ h_x (cell1_set _ h_x (cell1_set _ h_x (cell_drew h3)))))))), drew_cell (cell1_set _ h_x (cell1_set _ h_x (cell1_set _ h_x (cell1_set _ h_x (cell1_set _ h_x (cell1_set _ h_x (cell1_set _ h_x (cell_drew h4)))))))), drew_cell (cell1_set _ h_y (cell1_set _ h_y (cell1_set _ h_y (cell1_set _ h_y (cell1_set _ h_y (cell1_set _ h_y (cell1_set _ h_y (cell_drew h5)))))))), drew_cell (cell1_set _ h_y (cell1_set _ h_y (cell1_set _ h_y (cell1_set _ h_y (cell1_set _ h_y (cell1_set _ h_y (cell1_set _ h_y (cell_drew h6)))))))), drew_cell (cell1_set _ h_y (cell1_set _ h_y (cell1_set _ h_y (cell1_set _ h_y (cell1_set _ h_y (cell1_set _ h_y (cell1_set _ h_y (cell_drew h7)))))))), drew_cell (cell1_set _ h_y (cell1_set _ h_y (cell1_set _ h_y (cell1_set _ h_y (cell1_set _ h_y (cell1_set _ h_y (cell1_set _ h_y (cell_drew h8)))))))), drew_cell (cell1_set _ h_y (cell1_set _ h_y (cell1_set _ h_y (cell1_set _ h_y (cell1_set _ h_y (cell1_set _ h_y (cell1_set _ h_y (cell_drew h9)))))))), drew_cell (cell1_set _ h_y (cell1_set _ h_y (cell1_set _ h_y (cell1_set _ h_y (cell1_set _ h_y (cell1_set _ h_y (cell1_set _ h_y (cell_drew h10)))))))), drew_cell (cell1_set _ h_y (cell1_set _ h_y (cell1_set _ h_y (cell1_set _ h_y (cell1_set _ h_y (cell1_set _ h_y (cell1_set _ h_y (cell_drew h11)))))))), drew_cell (cell1_set _ h_z (cell1_set _ h_z (cell1_set _ h_z (cell1_set _ h_z (cell1_set _ h_z (cell1_set _ h_z (cell1_set _ h_z (cell_drew h12))))))))⟩
set_option maxRecDepth 100000 in
set_option maxHeartbeats 8000000 in
theorem app1_any (vb jb fb lb wb : Nat) (sa pa : Option Addr) (sc pc : Nat) (d : Dk) (j : Jn) (fi : Int) (l : List UInt8) (SL : List (List UInt8)) (r : Dk × Int) (w : World) (hV : Bx vb #[.pointer (some ⟨wb, 0, none⟩)] 114 w) (hJ : Bx jb #[.int .i64 j.x.g, .int .i64 j.x.e, .int .i64 j.x.a, .int .i64 j.x.z, .int .i64 j.x.p, .int .i64 j.n, .int .i64 j.r] 57 w) (hF : Bx fb #[.int .i64 fi] 3 w) (hL : Bx lb #[.string (bs l)] 9 w) (hW : Bx wb #[.slice sa d.S.length sc, .slice pa d.P.length pc, .int .i64 d.fuse, .int .i64 d.ops, .bool d.dead] 116 w) (hD : Lists w sa sc pa pc d) (hl : l.length ≤ 1000000000000000) (hsp : splitS j.x.g l = (SL, 0)) (hr : wrF SL d (fi + j.n) = r) (f0 : 0 ≤ fi) (f1 : fi ≤ 10000) (n0 : 0 ≤ j.n) (n1 : j.n ≤ 10000) (hp : d.P.length ≤ 8000000000000) :
    Calls Try.prog 80 #[.pointer (some ⟨vb, 0, none⟩), .pointer (some ⟨jb, 0, none⟩), .pointer (some ⟨fb, 0, none⟩), .pointer (some ⟨lb, 0, none⟩)] w (RecPost wb r w) := by
  have v0 : w.cell? ⟨vb, 0, none⟩ = some (.pointer (some ⟨wb, 0, none⟩)) := hV.cell 0
  have y0 : w.cell? ⟨jb, 0, none⟩ = some (.int .i64 j.x.g) := hJ.cell 0
  have y5 : w.cell? ⟨jb, 5, none⟩ = some (.int .i64 j.n) := hJ.cell 5
  have x0 : w.cell? ⟨fb, 0, none⟩ = some (.int .i64 fi) := hF.cell 0
  have l0 : w.cell? ⟨lb, 0, none⟩ = some (.string (bs l)) := hL.cell 0
  have HW := Lib.hid hW; have HD := Lib.hid hD; have HSP := Lib.hid hsp; have HRR := Lib.hid hr; clear hV hJ hF hL hW hD hsp hr
  go_enter Try.func80, Try.ntmps80
  go_wp2_with fail
  refine (record_any wb sa pa sc pc d j.x.g (fi + j.n) l SL r w HW.out HD.out hl HSP.out HRR.out (by omega) (by omega) hp).mono ?_
  rintro E w1 ⟨a1, c1, a2, c2, hE, h1, h2, h3⟩
  by_cases he : r.2 = 0
  · rw [he, recE_ok] at hE
    subst hE
    go_wp2
    go_end0
    exact ⟨a1, c1, a2, c2, by rw [he, recE_ok], h1, h2, h3⟩
  · rw [recE_no he] at hE
    subst hE
    exact ⟨rfl, a1, c1, a2, c2, by rw [recE_no he], h1, h2, h3⟩
def APost (r : Dk × Jn × Int) (w : World) (e : Ending) (w' : World) : Prop :=
  ∃ sa sc pa pc, e = .returned (.tuple #[.agg #[.slice sa r.1.S.length sc, .slice pa r.1.P.length pc, .int .i64 r.1.fuse, .int .i64 r.1.ops, .bool r.1.dead], .agg (jnV r.2.1), .int .i64 r.2.2]) ∧ Lists w' sa sc pa pc r.1 ∧ Below w.heap.size w w'
theorem APost.mk {r : Dk × Jn × Int} {w w' : World} {e : Ending} (r2 : Dk × Jn × Int) (sa : Option Addr) (sc : Nat) (pa : Option Addr) (pc : Nat) (he : e = .returned (.tuple #[.agg #[.slice sa r2.1.S.length sc, .slice pa r2.1.P.length pc, .int .i64 r2.1.fuse, .int .i64 r2.1.ops, .bool r2.1.dead], .agg (jnV r2.2.1), .int .i64 r2.2.2]))
    (ho : Lists w' sa sc pa pc r2.1) (hb : Below w.heap.size w w') (hr : r = r2) : APost r w e w' := by
  subst hr; exact ⟨sa, sc, pa, pc, he, ho, hb⟩
theorem Lists.sets7i {W : World} {sa pa : Option Addr} {sc pc : Nat} {d : Dk} (h : Lists W sa sc pa pc d) {B : Nat} {T : TypeId} {i0 i1 i2 i3 i4 i5 i6 : Int} (hB : Bx B #[.int .i64 i0, .int .i64 i1, .int .i64 i2, .int .i64 i3, .int .i64 i4, .int .i64 i5, .int .i64 i6] T W) (u0 u1 u2 u3 u4 u5 u6 : Value) :
    Lists (((((((W.setCell ⟨B, 0, none⟩ u0).setCell ⟨B, 1, none⟩ u1).setCell ⟨B, 2, none⟩ u2).setCell ⟨B, 3, none⟩ u3).setCell ⟨B, 4, none⟩ u4).setCell ⟨B, 5, none⟩ u5).setCell ⟨B, 6, none⟩ u6) sa sc pa pc d := by
  have hn : ∀ (o : Nat) (s : List UInt8), W.cell? ⟨B, o, none⟩ ≠ some (strV s) := by
    intro o s
    rw [hB.cell o]
    match o with
    | 0 | 1 | 2 | 3 | 4 | 5 | 6 => intro e; cases e
    | n + 7 => intro e; simp at e
  have hk : KpB B W (((((((W.setCell ⟨B, 0, none⟩ u0).setCell ⟨B, 1, none⟩ u1).setCell ⟨B, 2, none⟩ u2).setCell ⟨B, 3, none⟩ u3).setCell ⟨B, 4, none⟩ u4).setCell ⟨B, 5, none⟩ u5).setCell ⟨B, 6, none⟩ u6) := (((KpB.refl B W).sets u0 u1 u2 u3 u4).set 5 u5).set 6 u6
  obtain ⟨⟨a, cap, he, hc, hx⟩, ⟨a', cap', he', hc', hx'⟩, h3, h4⟩ := h
  refine ⟨⟨a, cap, he, hc, fun hne => ?_⟩, ⟨a', cap', he', hc', fun hne => ?_⟩, h3, h4⟩
  · obtain ⟨b', off, ha, hcell⟩ := hx hne
    refine ⟨b', off, ha, fun i hi => hk.cell (hcell i hi) ?_⟩
    intro e; subst e; exact hn _ _ (hcell i hi)
  · obtain ⟨b', off, ha, hcell⟩ := hx' hne
    refine ⟨b', off, ha, fun i hi => ?_⟩
    have hne2 : b' ≠ B := by intro e; subst e; exact hn _ _ (hcell i hi).2
    exact ⟨hk.cell (hcell i hi).1 hne2, hk.cell (hcell i hi).2 hne2⟩
theorem Lists.drewD {W : World} {sa pa : Option Addr} {sc pc : Nat} {d : Dk} (h : Lists W sa sc pa pc d) : Lists W.drew sa sc pa pc d := h
theorem plan_ok {d : Dk} {j : Jn} {l : List UInt8} {SL : List (List UInt8)} (h : planS d j l = (SL, 0)) : validB d = true ∧ jB d j = true ∧ splitS j.x.g l = (SL, 0) ∧ (SL.length : Int) ≤ (szN d : Int) - j.n := by
  unfold planS at h
  by_cases h1 : validB d = true ∧ jB d j = true
  · rw [if_pos h1] at h
    by_cases h2 : (splitS j.x.g l).2 = 0
    · rw [if_pos h2] at h
      by_cases h3 : (szN d : Int) - j.n < ((splitS j.x.g l).1.length : Int)
      · rw [if_pos h3] at h; exact absurd (congrArg Prod.snd h) (by simp)
      · rw [if_neg h3] at h
        have h4 := congrArg Prod.fst h
        simp only at h4
        refine ⟨h1.1, h1.2, Prod.ext h4 h2, ?_⟩
        rw [← h4]; omega
    · rw [if_neg h2] at h; exact absurd (congrArg Prod.snd h) h2
  · rw [if_neg h1] at h; exact absurd (congrArg Prod.snd h) (by simp)

set_option maxRecDepth 100000 in
set_option maxHeartbeats 64000000 in
theorem appW_any (sa pa : Option Addr) (sc pc : Nat) (d : Dk) (j : Jn) (l : List UInt8) (w : World) (hD : Lists w sa sc pa pc d) (hl : l.length ≤ 1000000000000000) (hp : d.P.length ≤ 8000000000000) :
    Calls Try.prog 41 #[.agg #[.slice sa d.S.length sc, .slice pa d.P.length pc, .int .i64 d.fuse, .int .i64 d.ops, .bool d.dead], .agg (jnV j), .string (bs l)] w (APost (appW d j l) w) := by
  obtain ⟨⟨SL, e⟩, hpl⟩ : ∃ r, planS d j l = r := ⟨_, rfl⟩
  have HPL := Lib.hid hpl; clear hpl
  simp only [jnV]
  have hb0 := ((((((Below.refl w.heap.size w).alloc (Nat.le_refl _) (.cells #[.slice sa d.S.length sc, .slice pa d.P.length pc, .int .i64 d.fuse, .int .i64 d.ops, .bool d.dead] 38)).alloc (by simp) (.cells #[.int .i64 j.x.g, .int .i64 j.x.e, .int .i64 j.x.a, .int .i64 j.x.z, .int .i64 j.x.p, .int .i64 j.n, .int .i64 j.r] 57)).alloc (by simp; try omega) (.cells #[.string (bs l)] 9)).alloc (by simp; try omega) (.cells #[.slice none 0 0, .slice none 0 0, .int .i64 0, .int .i64 0, .bool false] 38)).alloc (by simp; try omega) (.cells #[.int .i64 0, .int .i64 0, .int .i64 0, .int .i64 0, .int .i64 0, .int .i64 0, .int .i64 0] 57))
  have h_HX := (((((Bx.new w #[.slice sa d.S.length sc, .slice pa d.P.length pc, .int .i64 d.fuse, .int .i64 d.ops, .bool d.dead] 38).alloc (.cells #[.int .i64 j.x.g, .int .i64 j.x.e, .int .i64 j.x.a, .int .i64 j.x.z, .int .i64 j.x.p, .int .i64 j.n, .int .i64 j.r] 57)).alloc (.cells #[.string (bs l)] 9)).alloc (.cells #[.slice none 0 0, .slice none 0 0, .int .i64 0, .int .i64 0, .bool false] 38)).alloc (.cells #[.int .i64 0, .int .i64 0, .int .i64 0, .int .i64 0, .int .i64 0, .int .i64 0, .int .i64 0] 57))
  have h_HJ := ((((Bx.new (w.alloc (.cells #[.slice sa d.S.length sc, .slice pa d.P.length pc, .int .i64 d.fuse, .int .i64 d.ops, .bool d.dead] 38)) #[.int .i64 j.x.g, .int .i64 j.x.e, .int .i64 j.x.a, .int .i64 j.x.z, .int .i64 j.x.p, .int .i64 j.n, .int .i64 j.r] 57).alloc (.cells #[.string (bs l)] 9)).alloc (.cells #[.slice none 0 0, .slice none 0 0, .int .i64 0, .int .i64 0, .bool false] 38)).alloc (.cells #[.int .i64 0, .int .i64 0, .int .i64 0, .int .i64 0, .int .i64 0, .int .i64 0, .int .i64 0] 57))
  rw [show (w.alloc (.cells #[.slice sa d.S.length sc, .slice pa d.P.length pc, .int .i64 d.fuse, .int .i64 d.ops, .bool d.dead] 38)).heap.size = w.heap.size + 1 by simp] at h_HJ
  have h_HL := (((Bx.new ((w.alloc (.cells #[.slice sa d.S.length sc, .slice pa d.P.length pc, .int .i64 d.fuse, .int .i64 d.ops, .bool d.dead] 38)).alloc (.cells #[.int .i64 j.x.g, .int .i64 j.x.e, .int .i64 j.x.a, .int .i64 j.x.z, .int .i64 j.x.p, .int .i64 j.n, .int .i64 j.r] 57)) #[.string (bs l)] 9).alloc (.cells #[.slice none 0 0, .slice none 0 0, .int .i64 0, .int .i64 0, .bool false] 38)).alloc (.cells #[.int .i64 0, .int .i64 0, .int .i64 0, .int .i64 0, .int .i64 0, .int .i64 0, .int .i64 0] 57))
  rw [show ((w.alloc (.cells #[.slice sa d.S.length sc, .slice pa d.P.length pc, .int .i64 d.fuse, .int .i64 d.ops, .bool d.dead] 38)).alloc (.cells #[.int .i64 j.x.g, .int .i64 j.x.e, .int .i64 j.x.a, .int .i64 j.x.z, .int .i64 j.x.p, .int .i64 j.n, .int .i64 j.r] 57)).heap.size = w.heap.size + 2 by simp] at h_HL
  have h_HR := ((Bx.new (((w.alloc (.cells #[.slice sa d.S.length sc, .slice pa d.P.length pc, .int .i64 d.fuse, .int .i64 d.ops, .bool d.dead] 38)).alloc (.cells #[.int .i64 j.x.g, .int .i64 j.x.e, .int .i64 j.x.a, .int .i64 j.x.z, .int .i64 j.x.p, .int .i64 j.n, .int .i64 j.r] 57)).alloc (.cells #[.string (bs l)] 9)) #[.slice none 0 0, .slice none 0 0, .int .i64 0, .int .i64 0, .bool false] 38).alloc (.cells #[.int .i64 0, .int .i64 0, .int .i64 0, .int .i64 0, .int .i64 0, .int .i64 0, .int .i64 0] 57))
  rw [show (((w.alloc (.cells #[.slice sa d.S.length sc, .slice pa d.P.length pc, .int .i64 d.fuse, .int .i64 d.ops, .bool d.dead] 38)).alloc (.cells #[.int .i64 j.x.g, .int .i64 j.x.e, .int .i64 j.x.a, .int .i64 j.x.z, .int .i64 j.x.p, .int .i64 j.n, .int .i64 j.r] 57)).alloc (.cells #[.string (bs l)] 9)).heap.size = w.heap.size + 3 by simp] at h_HR
  have h_HJ2 := (Bx.new ((((w.alloc (.cells #[.slice sa d.S.length sc, .slice pa d.P.length pc, .int .i64 d.fuse, .int .i64 d.ops, .bool d.dead] 38)).alloc (.cells #[.int .i64 j.x.g, .int .i64 j.x.e, .int .i64 j.x.a, .int .i64 j.x.z, .int .i64 j.x.p, .int .i64 j.n, .int .i64 j.r] 57)).alloc (.cells #[.string (bs l)] 9)).alloc (.cells #[.slice none 0 0, .slice none 0 0, .int .i64 0, .int .i64 0, .bool false] 38)) #[.int .i64 0, .int .i64 0, .int .i64 0, .int .i64 0, .int .i64 0, .int .i64 0, .int .i64 0] 57)
  rw [show ((((w.alloc (.cells #[.slice sa d.S.length sc, .slice pa d.P.length pc, .int .i64 d.fuse, .int .i64 d.ops, .bool d.dead] 38)).alloc (.cells #[.int .i64 j.x.g, .int .i64 j.x.e, .int .i64 j.x.a, .int .i64 j.x.z, .int .i64 j.x.p, .int .i64 j.n, .int .i64 j.r] 57)).alloc (.cells #[.string (bs l)] 9)).alloc (.cells #[.slice none 0 0, .slice none 0 0, .int .i64 0, .int .i64 0, .bool false] 38)).heap.size = w.heap.size + 4 by simp] at h_HJ2
  have HB := Lib.hid hb0; have HX := Lib.hid h_HX; have HJ := Lib.hid h_HJ; have HL := Lib.hid h_HL; have HR := Lib.hid h_HR; have HJ2 := Lib.hid h_HJ2
  clear hb0 h_HX h_HJ h_HL h_HR h_HJ2
  have HD := Lib.hid (hD.below HB.out)
  go_enter Try.func41, Try.ntmps41
  go_upto_region 1 with (fail)
  generalize hW0 : ((((w.alloc (.cells #[.slice sa d.S.length sc, .slice pa d.P.length pc, .int .i64 d.fuse, .int .i64 d.ops, .bool d.dead] 38)).alloc (.cells #[.int .i64 j.x.g, .int .i64 j.x.e, .int .i64 j.x.a, .int .i64 j.x.z, .int .i64 j.x.p, .int .i64 j.n, .int .i64 j.r] 57)).alloc (.cells #[.string (bs l)] 9)).alloc (.cells #[.slice none 0 0, .slice none 0 0, .int .i64 0, .int .i64 0, .bool false] 38)).alloc (.cells #[.int .i64 0, .int .i64 0, .int .i64 0, .int .i64 0, .int .i64 0, .int .i64 0, .int .i64 0] 57) = v0 at HB HD HX HJ HL HR HJ2 ⊢
  clear hW0
  obtain ⟨_, _, _, hszS⟩ := hD
  have x0 : v0.cell? ⟨w.heap.size, 0, none⟩ = some (.slice sa d.S.length sc) := HX.out.cell 0
  have x1 : v0.cell? ⟨w.heap.size, 1, none⟩ = some (.slice pa d.P.length pc) := HX.out.cell 1
  have x2 : v0.cell? ⟨w.heap.size, 2, none⟩ = some (.int .i64 d.fuse) := HX.out.cell 2
  have x3 : v0.cell? ⟨w.heap.size, 3, none⟩ = some (.int .i64 d.ops) := HX.out.cell 3
  have x4 : v0.cell? ⟨w.heap.size, 4, none⟩ = some (.bool d.dead) := HX.out.cell 4
  have y0 : v0.cell? ⟨(w.heap.size + 1), 0, none⟩ = some (.int .i64 j.x.g) := HJ.out.cell 0
  have y1 : v0.cell? ⟨(w.heap.size + 1), 1, none⟩ = some (.int .i64 j.x.e) := HJ.out.cell 1
  have y2 : v0.cell? ⟨(w.heap.size + 1), 2, none⟩ = some (.int .i64 j.x.a) := HJ.out.cell 2
  have y3 : v0.cell? ⟨(w.heap.size + 1), 3, none⟩ = some (.int .i64 j.x.z) := HJ.out.cell 3
  have y4 : v0.cell? ⟨(w.heap.size + 1), 4, none⟩ = some (.int .i64 j.x.p) := HJ.out.cell 4
  have y5 : v0.cell? ⟨(w.heap.size + 1), 5, none⟩ = some (.int .i64 j.n) := HJ.out.cell 5
  have y6 : v0.cell? ⟨(w.heap.size + 1), 6, none⟩ = some (.int .i64 j.r) := HJ.out.cell 6
  have l0 : v0.cell? ⟨w.heap.size + 2, 0, none⟩ = some (.string (bs l)) := HL.out.cell 0
  go_wp2_with fail
  refine (check_any _ _ _ _ d j l _ HD.out hl).mono ?_
  rw [HPL.out]
  rintro er w1 ⟨rfl, hb1⟩
  clear x0 x1 x2 x3 x4
  clear y0 y1 y2 y3 y4 y5 y6
  clear l0
  have HX := Lib.hid (HX.out.call hb1)
  have HJ := Lib.hid (HJ.out.call hb1)
  have HL := Lib.hid (HL.out.call hb1)
  have HR := Lib.hid (HR.out.call hb1)
  have HJ2 := Lib.hid (HJ2.out.call hb1)
  have HD := Lib.hid (HD.out.below hb1)
  have HB := Lib.hid (btrans HB.out HB.out.size hb1); clear hb1
  by_cases he : e = 0
  rotate_left
  · have te : (e != 0) = true := by rw [bne_iff_ne]; exact he
    have HE := Lib.hid he; clear he
    have hres : appW d j l = (d, j0, e) := by unfold appW; rw [HPL.out]; simp only; rw [if_neg HE.out]
    have HRES := Lib.hid hres; clear hres
    have x0 : w1.cell? ⟨w.heap.size, 0, none⟩ = some (.slice sa d.S.length sc) := HX.out.cell 0
    have x1 : w1.cell? ⟨w.heap.size, 1, none⟩ = some (.slice pa d.P.length pc) := HX.out.cell 1
    have x2 : w1.cell? ⟨w.heap.size, 2, none⟩ = some (.int .i64 d.fuse) := HX.out.cell 2
    have x3 : w1.cell? ⟨w.heap.size, 3, none⟩ = some (.int .i64 d.ops) := HX.out.cell 3
    have x4 : w1.cell? ⟨w.heap.size, 4, none⟩ = some (.bool d.dead) := HX.out.cell 4
    have zcl : d.P.length ≤ 9000000000000 := by omega
    have zcs := hszS
    go_wp2_with fail
    refine (clone_w _ _ _ _ d _ HD.out).mono ?_
    rintro er wc ⟨a1, c1, a2, c2, rfl, hO1, hb1⟩
    clear x0 x1 x2 x3 x4
    have HLC := Lib.hid (hO1.lists (d := d) zcl zcs); clear hO1
    have HR := Lib.hid (HR.out.call hb1)
    have HJ2 := Lib.hid (HJ2.out.call hb1)
    have HB := Lib.hid (btrans HB.out HB.out.size hb1); clear hb1
    have r0 : wc.cell? ⟨(w.heap.size + 3), 0, none⟩ = some (.slice none 0 0) := HR.out.cell 0
    have r1 : wc.cell? ⟨(w.heap.size + 3), 1, none⟩ = some (.slice none 0 0) := HR.out.cell 1
    have r2 : wc.cell? ⟨(w.heap.size + 3), 2, none⟩ = some (.int .i64 0) := HR.out.cell 2
    have r3 : wc.cell? ⟨(w.heap.size + 3), 3, none⟩ = some (.int .i64 0) := HR.out.cell 3
    have r4 : wc.cell? ⟨(w.heap.size + 3), 4, none⟩ = some (.bool false) := HR.out.cell 4
    have q0 : wc.cell? ⟨(w.heap.size + 4), 0, none⟩ = some (.int .i64 0) := HJ2.out.cell 0
    have q1 : wc.cell? ⟨(w.heap.size + 4), 1, none⟩ = some (.int .i64 0) := HJ2.out.cell 1
    have q2 : wc.cell? ⟨(w.heap.size + 4), 2, none⟩ = some (.int .i64 0) := HJ2.out.cell 2
    have q3 : wc.cell? ⟨(w.heap.size + 4), 3, none⟩ = some (.int .i64 0) := HJ2.out.cell 3
    have q4 : wc.cell? ⟨(w.heap.size + 4), 4, none⟩ = some (.int .i64 0) := HJ2.out.cell 4
    have q5 : wc.cell? ⟨(w.heap.size + 4), 5, none⟩ = some (.int .i64 0) := HJ2.out.cell 5
    have q6 : wc.cell? ⟨(w.heap.size + 4), 6, none⟩ = some (.int .i64 0) := HJ2.out.cell 6
    have f0 := HR.out.free 0
    have f1 := HR.out.free 1
    have f2 := HR.out.free 2
    have f3 := HR.out.free 3
    have f4 := HR.out.free 4
    have p0 := HJ2.out.free 0
    have p1 := HJ2.out.free 1
    have p2 := HJ2.out.free 2
    have p3 := HJ2.out.free 3
    have p4 := HJ2.out.free 4
    have p5 := HJ2.out.free 5
    have p6 := HJ2.out.free 6
    have HJ3 := Lib.hid (HJ2.out.sets_ne (c := w.heap.size + 3) (by omega) (.slice a1 d.S.length c1) (.slice a2 d.P.length c2) (.int .i64 d.fuse) (.int .i64 d.ops) (.bool d.dead))
    have KR := Lib.hid ((HR.out.sets (.slice a1 d.S.length c1) (.slice a2 d.P.length c2) (.int .i64 d.fuse) (.int .i64 d.ops) (.bool d.dead)).sets7_ne (c := w.heap.size + 4) (by omega) (.int .i64 0) (.int .i64 0) (.int .i64 0) (.int .i64 0) (.int .i64 0) (.int .i64 0) (.int .i64 0))
    have KJ := Lib.hid (HJ3.out.sets7 (.int .i64 0) (.int .i64 0) (.int .i64 0) (.int .i64 0) (.int .i64 0) (.int .i64 0) (.int .i64 0))
    have KL := Lib.hid ((HLC.out.sets_box HR.out (.slice a1 d.S.length c1) (.slice a2 d.P.length c2) (.int .i64 d.fuse) (.int .i64 d.ops) (.bool d.dead)).sets7i HJ3.out (.int .i64 0) (.int .i64 0) (.int .i64 0) (.int .i64 0) (.int .i64 0) (.int .i64 0) (.int .i64 0))
    have KB := Lib.hid (below_sets7 (below_sets HB.out (w.heap.size + 3) (by omega) (.slice a1 d.S.length c1) (.slice a2 d.P.length c2) (.int .i64 d.fuse) (.int .i64 d.ops) (.bool d.dead)) (w.heap.size + 4) (by omega) (.int .i64 0) (.int .i64 0) (.int .i64 0) (.int .i64 0) (.int .i64 0) (.int .i64 0) (.int .i64 0))
    go_wp2
    have k0 := KR.out.cell 0
    have k1 := KR.out.cell 1
    have k2 := KR.out.cell 2
    have k3 := KR.out.cell 3
    have k4 := KR.out.cell 4
    have m0 := KJ.out.cell 0
    have m1 := KJ.out.cell 1
    have m2 := KJ.out.cell 2
    have m3 := KJ.out.cell 3
    have m4 := KJ.out.cell 4
    have m5 := KJ.out.cell 5
    have m6 := KJ.out.cell 6
    simp only [List.getElem?_toArray, List.getElem?_cons_zero, List.getElem?_cons_succ] at k0 k1 k2 k3 k4 m0 m1 m2 m3 m4 m5 m6
    refine bodyPost_ret (v := .tuple #[.agg #[.slice a1 d.S.length c1, .slice a2 d.P.length c2, .int .i64 d.fuse, .int .i64 d.ops, .bool d.dead], .agg #[.int .i64 0, .int .i64 0, .int .i64 0, .int .i64 0, .int .i64 0, .int .i64 0, .int .i64 0], .int .i64 e]) (by simp [results, Try.results41, go_sem, k0, k1, k2, k3, k4, m0, m1, m2, m3, m4, m5, m6]) rfl ?_
    exact APost.mk (d, j0, e) a1 c1 a2 c2 rfl KL.out KB.out HRES.out
  subst he
  obtain ⟨hv, hj, hsp, hfit⟩ := plan_ok HPL.out
  have HV := Lib.hid hv; have HSP := Lib.hid hsp
  obtain ⟨_, jn0, jn1, jr0, jr1⟩ := jB_bounds hv hj
  obtain ⟨_, za2, _, za4, _⟩ := arN_bounds hv
  clear hv hj hsp
  have x0 : w1.cell? ⟨w.heap.size, 0, none⟩ = some (.slice sa d.S.length sc) := HX.out.cell 0
  have x1 : w1.cell? ⟨w.heap.size, 1, none⟩ = some (.slice pa d.P.length pc) := HX.out.cell 1
  have x2 : w1.cell? ⟨w.heap.size, 2, none⟩ = some (.int .i64 d.fuse) := HX.out.cell 2
  have x3 : w1.cell? ⟨w.heap.size, 3, none⟩ = some (.int .i64 d.ops) := HX.out.cell 3
  have x4 : w1.cell? ⟨w.heap.size, 4, none⟩ = some (.bool d.dead) := HX.out.cell 4
  go_wp2_with fail
  refine (Areas_any _ _ _ _ d _ HD.out).mono ?_
  rw [areas_ok HV.out]
  rintro er w2 ⟨rfl, hb1⟩
  clear x0 x1 x2 x3 x4
  have HX := Lib.hid (HX.out.call hb1)
  have HJ := Lib.hid (HJ.out.call hb1)
  have HL := Lib.hid (HL.out.call hb1)
  have HR := Lib.hid (HR.out.call hb1)
  have HJ2 := Lib.hid (HJ2.out.call hb1)
  have HD := Lib.hid (HD.out.below hb1)
  have HB := Lib.hid (btrans HB.out HB.out.size hb1); clear hb1
  obtain ⟨fi, hfi⟩ : ∃ q : Int, q = 2 + 2 * (arN d : Int) := ⟨_, rfl⟩
  rw [← hfi]
  have HFI := Lib.hid hfi
  have fi0 : 0 ≤ fi := by omega
  have fi1 : fi ≤ 10000 := by omega
  clear hfi
  have zj := HJ2.out.lt
  have hal := (Below.refl w2.heap.size w2).alloc (Nat.le_refl _) (.cells #[.int .i64 fi] 3)
  have HF := Lib.hid (Bx.new w2 #[.int .i64 fi] 3)
  have HX := Lib.hid (HX.out.call hal)
  have HJ := Lib.hid (HJ.out.call hal)
  have HL := Lib.hid (HL.out.call hal)
  have HR := Lib.hid (HR.out.call hal)
  have HJ2 := Lib.hid (HJ2.out.call hal)
  have HD := Lib.hid (HD.out.below hal)
  have HB := Lib.hid (btrans HB.out HB.out.size hal); clear hal
  go_upto_region 5 with (fail)
  generalize hW : w2.alloc (.cells #[.int .i64 fi] 3) = v2 at HX HJ HL HR HJ2 HD HB HF ⊢
  clear hW
  have zf := HF.out.lt
  have x0 : v2.cell? ⟨w.heap.size, 0, none⟩ = some (.slice sa d.S.length sc) := HX.out.cell 0
  have x1 : v2.cell? ⟨w.heap.size, 1, none⟩ = some (.slice pa d.P.length pc) := HX.out.cell 1
  have x2 : v2.cell? ⟨w.heap.size, 2, none⟩ = some (.int .i64 d.fuse) := HX.out.cell 2
  have x3 : v2.cell? ⟨w.heap.size, 3, none⟩ = some (.int .i64 d.ops) := HX.out.cell 3
  have x4 : v2.cell? ⟨w.heap.size, 4, none⟩ = some (.bool d.dead) := HX.out.cell 4
  have hal := ((Below.refl v2.heap.size v2).alloc (Nat.le_refl _) (.cells #[.slice sa d.S.length sc, .slice pa d.P.length pc, .int .i64 d.fuse, .int .i64 d.ops, .bool d.dead] 116)).alloc (by simp) (.cells #[.pointer (some ⟨v2.heap.size, 0, none⟩)] 114)
  have HW := Lib.hid ((Bx.new v2 #[.slice sa d.S.length sc, .slice pa d.P.length pc, .int .i64 d.fuse, .int .i64 d.ops, .bool d.dead] 116).alloc (.cells #[.pointer (some ⟨v2.heap.size, 0, none⟩)] 114))
  have HV2 := Lib.hid (Bx.new1 v2 (.cells #[.slice sa d.S.length sc, .slice pa d.P.length pc, .int .i64 d.fuse, .int .i64 d.ops, .bool d.dead] 116) #[.pointer (some ⟨v2.heap.size, 0, none⟩)] 114)
  have HX := Lib.hid (HX.out.call hal)
  have HJ := Lib.hid (HJ.out.call hal)
  have HL := Lib.hid (HL.out.call hal)
  have HR := Lib.hid (HR.out.call hal)
  have HJ2 := Lib.hid (HJ2.out.call hal)
  have HF := Lib.hid (HF.out.call hal)
  have HD := Lib.hid (HD.out.below hal)
  have HB := Lib.hid (btrans HB.out HB.out.size hal); clear hal
  go_upto_region 6 with (fail)
  clear x0 x1 x2 x3 x4
  generalize hW : (v2.alloc (.cells #[.slice sa d.S.length sc, .slice pa d.P.length pc, .int .i64 d.fuse, .int .i64 d.ops, .bool d.dead] 116)).alloc (.cells #[.pointer (some ⟨v2.heap.size, 0, none⟩)] 114) = v3 at HX HJ HL HR HJ2 HD HB HF HW HV2 ⊢
  clear hW
  have zv := HV2.out.lt
  obtain ⟨r, hr⟩ : ∃ r, wrF SL d (fi + j.n) = r := ⟨_, rfl⟩
  have hsl := split_len j.x.g l
  rw [HSP.out] at hsl
  simp only at hsl
  have HRR := Lib.hid hr; clear hr
  have hmf : ∀ (fn : Fn) (first cap : Array Value) (w : World), (Instr.makeFunc fn first cap).run Try.prog w = .ok (.func fn first cap) w := fun _ _ _ _ => rfl
  have v0c : v3.cell? ⟨v2.heap.size + 1, 0, none⟩ = some (.pointer (some ⟨v2.heap.size, 0, none⟩)) := HV2.out.cell 0
  have hal := (Below.refl v3.heap.size v3).alloc (Nat.le_refl _) (.cells #[.int .i64 0] 24)
  have hcl := app1_any (v2.heap.size + 1) (w.heap.size + 1) w2.heap.size (w.heap.size + 2) v2.heap.size sa pa sc pc d j fi l SL r _ (HV2.out.call hal) (HJ.out.call hal) (HF.out.call hal) (HL.out.call hal) (HW.out.call hal) (HD.out.below hal) hl HSP.out HRR.out fi0 fi1 jn0 (by omega) hp
  have HCL := Lib.hid hcl; clear hcl hal
  have zb3 := HW.out.lt
  go_wp2_with fail
  refine (run_any _ _ v2.heap.size r _ (fun w => by simp [go_sem]) zb3 HCL.out).mono ?_
  rintro er w4 ⟨a3, c3, a4, c4, rfl, hW4, hL4, hK4⟩
  clear v0c hmf HCL
  have HJ := Lib.hid (hK4.bx HJ.out (by omega))
  have HR := Lib.hid (hK4.bx HR.out (by omega))
  have HJ2 := Lib.hid (hK4.bx HJ2.out (by omega))
  have HV2 := Lib.hid (hK4.bx HV2.out (by omega))
  have HB := Lib.hid (hK4.out HB.out (by omega)); have HW := Lib.hid hW4; have HL4 := Lib.hid hL4
  have zs4 := hK4.size
  clear hW4 hL4 hK4 HX HL HD HF
  obtain ⟨rd, re⟩ := r
  have zj4 := HJ2.out.lt
  by_cases hf : re = 0
  rotate_left
  · have tf : (re != 0) = true := by rw [bne_iff_ne]; exact hf
    have HFE := Lib.hid hf; clear hf
    have hres : appW d j l = (rd, j0, re) := by unfold appW; rw [HPL.out]; simp only; rw [← HFI.out, HRR.out]; simp only; rw [if_pos trivial, if_neg HFE.out]
    have HRES := Lib.hid hres; clear hres
    have n0 : w4.cell? ⟨v2.heap.size, 0, none⟩ = some (.slice a3 rd.S.length c3) := HW.out.cell 0
    have n1 : w4.cell? ⟨v2.heap.size, 1, none⟩ = some (.slice a4 rd.P.length c4) := HW.out.cell 1
    have n2 : w4.cell? ⟨v2.heap.size, 2, none⟩ = some (.int .i64 rd.fuse) := HW.out.cell 2
    have n3 : w4.cell? ⟨v2.heap.size, 3, none⟩ = some (.int .i64 rd.ops) := HW.out.cell 3
    have n4 : w4.cell? ⟨v2.heap.size, 4, none⟩ = some (.bool rd.dead) := HW.out.cell 4
    have v0c : w4.cell? ⟨v2.heap.size + 1, 0, none⟩ = some (.pointer (some ⟨v2.heap.size, 0, none⟩)) := HV2.out.cell 0
    have r0 : w4.cell? ⟨(w.heap.size + 3), 0, none⟩ = some (.slice none 0 0) := HR.out.cell 0
    have r1 : w4.cell? ⟨(w.heap.size + 3), 1, none⟩ = some (.slice none 0 0) := HR.out.cell 1
    have r2 : w4.cell? ⟨(w.heap.size + 3), 2, none⟩ = some (.int .i64 0) := HR.out.cell 2
    have r3 : w4.cell? ⟨(w.heap.size + 3), 3, none⟩ = some (.int .i64 0) := HR.out.cell 3
    have r4 : w4.cell? ⟨(w.heap.size + 3), 4, none⟩ = some (.bool false) := HR.out.cell 4
    have q0 : w4.cell? ⟨(w.heap.size + 4), 0, none⟩ = some (.int .i64 0) := HJ2.out.cell 0
    have q1 : w4.cell? ⟨(w.heap.size + 4), 1, none⟩ = some (.int .i64 0) := HJ2.out.cell 1
    have q2 : w4.cell? ⟨(w.heap.size + 4), 2, none⟩ = some (.int .i64 0) := HJ2.out.cell 2
    have q3 : w4.cell? ⟨(w.heap.size + 4), 3, none⟩ = some (.int .i64 0) := HJ2.out.cell 3
    have q4 : w4.cell? ⟨(w.heap.size + 4), 4, none⟩ = some (.int .i64 0) := HJ2.out.cell 4
    have q5 : w4.cell? ⟨(w.heap.size + 4), 5, none⟩ = some (.int .i64 0) := HJ2.out.cell 5
    have q6 : w4.cell? ⟨(w.heap.size + 4), 6, none⟩ = some (.int .i64 0) := HJ2.out.cell 6
    have f0 := HR.out.free 0
    have f1 := HR.out.free 1
    have f2 := HR.out.free 2
    have f3 := HR.out.free 3
    have f4 := HR.out.free 4
    have p0 := HJ2.out.free 0
    have p1 := HJ2.out.free 1
    have p2 := HJ2.out.free 2
    have p3 := HJ2.out.free 3
    have p4 := HJ2.out.free 4
    have p5 := HJ2.out.free 5
    have p6 := HJ2.out.free 6
    have HJ3 := Lib.hid (HJ2.out.sets_ne (c := w.heap.size + 3) (by omega) (.slice a3 rd.S.length c3) (.slice a4 rd.P.length c4) (.int .i64 rd.fuse) (.int .i64 rd.ops) (.bool rd.dead))
    have KR := Lib.hid ((HR.out.sets (.slice a3 rd.S.length c3) (.slice a4 rd.P.length c4) (.int .i64 rd.fuse) (.int .i64 rd.ops) (.bool rd.dead)).sets7_ne (c := w.heap.size + 4) (by omega) (.int .i64 0) (.int .i64 0) (.int .i64 0) (.int .i64 0) (.int .i64 0) (.int .i64 0) (.int .i64 0))
    have KJ := Lib.hid (HJ3.out.sets7 (.int .i64 0) (.int .i64 0) (.int .i64 0) (.int .i64 0) (.int .i64 0) (.int .i64 0) (.int .i64 0))
    have KL := Lib.hid ((HL4.out.sets_box HR.out (.slice a3 rd.S.length c3) (.slice a4 rd.P.length c4) (.int .i64 rd.fuse) (.int .i64 rd.ops) (.bool rd.dead)).sets7i HJ3.out (.int .i64 0) (.int .i64 0) (.int .i64 0) (.int .i64 0) (.int .i64 0) (.int .i64 0) (.int .i64 0))
    have KB := Lib.hid (below_sets7 (below_sets HB.out (w.heap.size + 3) (by omega) (.slice a3 rd.S.length c3) (.slice a4 rd.P.length c4) (.int .i64 rd.fuse) (.int .i64 rd.ops) (.bool rd.dead)) (w.heap.size + 4) (by omega) (.int .i64 0) (.int .i64 0) (.int .i64 0) (.int .i64 0) (.int .i64 0) (.int .i64 0) (.int .i64 0))
    go_wp2
    have k0 := KR.out.cell 0
    have k1 := KR.out.cell 1
    have k2 := KR.out.cell 2
    have k3 := KR.out.cell 3
    have k4 := KR.out.cell 4
    have m0 := KJ.out.cell 0
    have m1 := KJ.out.cell 1
    have m2 := KJ.out.cell 2
    have m3 := KJ.out.cell 3
    have m4 := KJ.out.cell 4
    have m5 := KJ.out.cell 5
    have m6 := KJ.out.cell 6
    simp only [List.getElem?_toArray, List.getElem?_cons_zero, List.getElem?_cons_succ] at k0 k1 k2 k3 k4 m0 m1 m2 m3 m4 m5 m6
    refine bodyPost_ret (v := .tuple #[.agg #[.slice a3 rd.S.length c3, .slice a4 rd.P.length c4, .int .i64 rd.fuse, .int .i64 rd.ops, .bool rd.dead], .agg #[.int .i64 0, .int .i64 0, .int .i64 0, .int .i64 0, .int .i64 0, .int .i64 0, .int .i64 0], .int .i64 re]) (by simp [results, Try.results41, go_sem, k0, k1, k2, k3, k4, m0, m1, m2, m3, m4, m5, m6]) rfl ?_
    exact APost.mk (rd, j0, re) a3 c3 a4 c4 rfl KL.out KB.out HRES.out
  subst hf
  have hres : appW d j l = (rd, ⟨j.x, j.n + (SL.length : Int), j.r + 1⟩, 0) := by unfold appW; rw [HPL.out]; simp only; rw [← HFI.out, HRR.out]; simp only; rw [if_pos trivial, if_pos trivial]
  have HRES := Lib.hid hres; clear hres
  have n0 : w4.cell? ⟨v2.heap.size, 0, none⟩ = some (.slice a3 rd.S.length c3) := HW.out.cell 0
  have n1 : w4.cell? ⟨v2.heap.size, 1, none⟩ = some (.slice a4 rd.P.length c4) := HW.out.cell 1
  have n2 : w4.cell? ⟨v2.heap.size, 2, none⟩ = some (.int .i64 rd.fuse) := HW.out.cell 2
  have n3 : w4.cell? ⟨v2.heap.size, 3, none⟩ = some (.int .i64 rd.ops) := HW.out.cell 3
  have n4 : w4.cell? ⟨v2.heap.size, 4, none⟩ = some (.bool rd.dead) := HW.out.cell 4
  have y0 : w4.cell? ⟨(w.heap.size + 1), 0, none⟩ = some (.int .i64 j.x.g) := HJ.out.cell 0
  have y1 : w4.cell? ⟨(w.heap.size + 1), 1, none⟩ = some (.int .i64 j.x.e) := HJ.out.cell 1
  have y2 : w4.cell? ⟨(w.heap.size + 1), 2, none⟩ = some (.int .i64 j.x.a) := HJ.out.cell 2
  have y3 : w4.cell? ⟨(w.heap.size + 1), 3, none⟩ = some (.int .i64 j.x.z) := HJ.out.cell 3
  have y4 : w4.cell? ⟨(w.heap.size + 1), 4, none⟩ = some (.int .i64 j.x.p) := HJ.out.cell 4
  have y5 : w4.cell? ⟨(w.heap.size + 1), 5, none⟩ = some (.int .i64 j.n) := HJ.out.cell 5
  have y6 : w4.cell? ⟨(w.heap.size + 1), 6, none⟩ = some (.int .i64 j.r) := HJ.out.cell 6
  have v0c : w4.cell? ⟨v2.heap.size + 1, 0, none⟩ = some (.pointer (some ⟨v2.heap.size, 0, none⟩)) := HV2.out.cell 0
  have hs13 : w4.drew.cell? ⟨(v2.heap.size), 0, none⟩ = some (.slice a3 rd.S.length c3) ∧ w4.drew.cell? ⟨(v2.heap.size), 1, none⟩ = some (.slice a4 rd.P.length c4) ∧ w4.drew.cell? ⟨(v2.heap.size), 2, none⟩ = some (.int .i64 rd.fuse) ∧ w4.drew.cell? ⟨(v2.heap.size), 3, none⟩ = some (.int .i64 rd.ops) ∧ w4.drew.cell? ⟨(v2.heap.size), 4, none⟩ = some (.bool rd.dead) ∧ w4.drew.cell? ⟨(w.heap.size + 1), 0, none⟩ = some (.int .i64 j.x.g) ∧ w4.drew.cell? ⟨(w.heap.size + 1), 1, none⟩ = some (.int .i64 j.x.e) ∧ w4.drew.cell? ⟨(w.heap.size + 1), 2, none⟩ = some (.int .i64 j.x.a) ∧ w4.drew.cell? ⟨(w.heap.size + 1), 3, none⟩ = some (.int .i64 j.x.z) ∧ w4.drew.cell? ⟨(w.heap.size + 1), 4, none⟩ = some (.int .i64 j.x.p) ∧ w4.drew.cell? ⟨(w.heap.size + 1), 5, none⟩ = some (.int .i64 j.n) ∧ w4.drew.cell? ⟨(w.heap.size + 1), 6, none⟩ = some (.int .i64 j.r) ∧ w4.drew.cell? ⟨(v2.heap.size + 1), 0, none⟩ = some (.pointer (some ⟨v2.heap.size, 0, none⟩)) := ⟨n0, n1, n2, n3, n4, y0, y1, y2, y3, y4, y5, y6, v0c⟩
  have HS13 := Lib.hid hs13; clear hs13 n0 n1 n2 n3 n4 y0 y1 y2 y3 y4 y5 y6 v0c
  have hwa : IntKind.i64.wrap (j.n + (SL.length : Int)) = j.n + (SL.length : Int) := by rw [IntKind.wrap_i64]; omega
  have hwb : IntKind.i64.wrap (j.r + 1) = j.r + 1 := by rw [IntKind.wrap_i64]; omega
  go_wp2_with fail
  refine wp_region_held_drew (S := (fun w' => w'.cell? ⟨(v2.heap.size), 0, none⟩ = some (.slice a3 rd.S.length c3) ∧ w'.cell? ⟨(v2.heap.size), 1, none⟩ = some (.slice a4 rd.P.length c4) ∧ w'.cell? ⟨(v2.heap.size), 2, none⟩ = some (.int .i64 rd.fuse) ∧ w'.cell? ⟨(v2.heap.size), 3, none⟩ = some (.int .i64 rd.ops) ∧ w'.cell? ⟨(v2.heap.size), 4, none⟩ = some (.bool rd.dead) ∧ w'.cell? ⟨(w.heap.size + 1), 0, none⟩ = some (.int .i64 j.x.g) ∧ w'.cell? ⟨(w.heap.size + 1), 1, none⟩ = some (.int .i64 j.x.e) ∧ w'.cell? ⟨(w.heap.size + 1), 2, none⟩ = some (.int .i64 j.x.a) ∧ w'.cell? ⟨(w.heap.size + 1), 3, none⟩ = some (.int .i64 j.x.z) ∧ w'.cell? ⟨(w.heap.size + 1), 4, none⟩ = some (.int .i64 j.x.p) ∧ w'.cell? ⟨(w.heap.size + 1), 5, none⟩ = some (.int .i64 j.n) ∧ w'.cell? ⟨(w.heap.size + 1), 6, none⟩ = some (.int .i64 j.r) ∧ w'.cell? ⟨(v2.heap.size + 1), 0, none⟩ = some (.pointer (some ⟨v2.heap.size, 0, none⟩)))) (by kernel_rfl) ?_ (fun hHeld => ?_)
  · exact HS13.out
  refine takeH (i := 0) (v := ?vv1) 49 rfl rfl (by kernel_rfl) (by kernel_rfl) (by kernel_rfl) (fun _ _ _ h => h) (Or.inl ⟨by kernel_rfl, ?yy1⟩) (by assumption) ?_
  case yy1 => intro w hSw; (try dsimp only at hSw); go_simp; (try with_reducible rfl)
  simp only [List.setIfInBounds_toArray, List.set_cons_zero, List.set_cons_succ]
  refine takeH (i := 1) (v := ?vv2) 50 rfl rfl (by kernel_rfl) (by kernel_rfl) (by kernel_rfl) (fun _ _ _ h => h) (Or.inl ⟨by kernel_rfl, ?yy2⟩) (by assumption) ?_
  case yy2 => intro w hSw; (try dsimp only at hSw); go_simp; (try with_reducible rfl)
  simp only [List.setIfInBounds_toArray, List.set_cons_zero, List.set_cons_succ]
  refine takeH (i := 2) (v := ?vv3) 51 rfl rfl (by kernel_rfl) (by kernel_rfl) (by kernel_rfl) (fun _ _ _ h => h) (Or.inl ⟨by kernel_rfl, ?yy3⟩) (by assumption) ?_
  case yy3 => intro w hSw; (try dsimp only at hSw); go_simp; (try with_reducible rfl)
  simp only [List.setIfInBounds_toArray, List.set_cons_zero, List.set_cons_succ]
  refine takeH (i := 3) (v := ?vv4) 52 rfl rfl (by kernel_rfl) (by kernel_rfl) (by kernel_rfl) (fun _ _ _ h => h) (Or.inl ⟨by kernel_rfl, ?yy4⟩) (by assumption) ?_
  case yy4 => intro w hSw; (try dsimp only at hSw); go_simp; (try with_reducible rfl)
  simp only [List.setIfInBounds_toArray, List.set_cons_zero, List.set_cons_succ]
  refine takeH (i := 4) (v := ?vv5) 53 rfl rfl (by kernel_rfl) (by kernel_rfl) (by kernel_rfl) (fun _ _ _ h => h) (Or.inl ⟨by kernel_rfl, ?yy5⟩) (by assumption) ?_
  case yy5 => intro w hSw; (try dsimp only at hSw); go_simp; (try with_reducible rfl)
  simp only [List.setIfInBounds_toArray, List.set_cons_zero, List.set_cons_succ]
  refine takeH (i := 5) (v := ?vv6) 54 rfl rfl (by kernel_rfl) (by kernel_rfl) (by kernel_rfl) (fun _ _ _ h => h) (Or.inl ⟨by kernel_rfl, ?yy6⟩) (by assumption) ?_
  case yy6 => intro w hSw; (try dsimp only at hSw); go_simp; (try with_reducible rfl)
  simp only [List.setIfInBounds_toArray, List.set_cons_zero, List.set_cons_succ]
  refine takeH (i := 6) (v := ?vv7) 55 rfl rfl (by kernel_rfl) (by kernel_rfl) (by kernel_rfl) (fun _ _ _ h => h) (Or.inl ⟨by kernel_rfl, ?yy7⟩) (by assumption) ?_
  case yy7 => intro w hSw; (try dsimp only at hSw); go_simp; (try with_reducible rfl)
  simp only [List.setIfInBounds_toArray, List.set_cons_zero, List.set_cons_succ]
  refine takeH (i := 7) (v := ?vv8) 56 rfl rfl (by kernel_rfl) (by kernel_rfl) (by kernel_rfl) (fun _ _ _ h => h) (Or.inl ⟨by kernel_rfl, ?yy8⟩) (by assumption) ?_
  case yy8 => intro w hSw; (try dsimp only at hSw); go_simp; (try with_reducible rfl)
  simp only [List.setIfInBounds_toArray, List.set_cons_zero, List.set_cons_succ]
  refine takeH (i := 8) (v := ?vv9) 57 rfl rfl (by kernel_rfl) (by kernel_rfl) (by kernel_rfl) (fun _ _ _ h => h) (Or.inl ⟨by kernel_rfl, ?yy9⟩) (by assumption) ?_
  case yy9 => intro w hSw; (try dsimp only at hSw); go_simp; (try with_reducible rfl)
  simp only [List.setIfInBounds_toArray, List.set_cons_zero, List.set_cons_succ]
  refine takeH (i := 9) (v := ?vv10) 58 rfl rfl (by kernel_rfl) (by kernel_rfl) (by kernel_rfl) (fun _ _ _ h => h) (Or.inl ⟨by kernel_rfl, ?yy10⟩) (by assumption) ?_
  case yy10 => intro w hSw; (try dsimp only at hSw); go_simp; (try with_reducible rfl)
  simp only [List.setIfInBounds_toArray, List.set_cons_zero, List.set_cons_succ]
  refine takeH (i := 10) (v := ?vv11) 59 rfl rfl (by kernel_rfl) (by kernel_rfl) (by kernel_rfl) (fun _ _ _ h => h) (Or.inl ⟨by kernel_rfl, ?yy11⟩) (by assumption) ?_
  case yy11 => intro w hSw; (try dsimp only at hSw); go_simp; (try with_reducible rfl)
  simp only [List.setIfInBounds_toArray, List.set_cons_zero, List.set_cons_succ]
  refine takeH (i := 11) (v := ?vv12) 60 rfl rfl (by kernel_rfl) (by kernel_rfl) (by kernel_rfl) (fun _ _ _ h => h) (Or.inl ⟨by kernel_rfl, ?yy12⟩) (by assumption) ?_
  case yy12 => intro w hSw; (try dsimp only at hSw); go_simp; (try with_reducible rfl)
  simp only [List.setIfInBounds_toArray, List.set_cons_zero, List.set_cons_succ]
  refine takeH (i := 12) (v := ?vv13) 61 rfl rfl (by kernel_rfl) (by kernel_rfl) (by kernel_rfl) (fun _ _ _ h => h) (Or.inl ⟨by kernel_rfl, ?yy13⟩) (by assumption) ?_
  case yy13 => intro w hSw; (try dsimp only at hSw); go_simp; (try with_reducible rfl)
  simp only [List.setIfInBounds_toArray, List.set_cons_zero, List.set_cons_succ]
  refine takeH (i := 13) (v := ?vv14) 62 rfl rfl (by kernel_rfl) (by kernel_rfl) (by kernel_rfl) (fun _ _ _ h => h) (Or.inl ⟨by kernel_rfl, ?yy14⟩) (by assumption) ?_
  case yy14 => intro w hSw; (try dsimp only at hSw); go_simp; (try with_reducible rfl)
  simp only [List.setIfInBounds_toArray, List.set_cons_zero, List.set_cons_succ]
  refine wpAnyH_ready (rs := [14]) (by kernel_rfl) (by simp) ?_
  refine (AllReadyH.cons rfl (fun K hK => ?_) AllReadyH.nil)
  have r0 : w4.cell? ⟨(w.heap.size + 3), 0, none⟩ = some (.slice none 0 0) := HR.out.cell 0
  have r1 : w4.cell? ⟨(w.heap.size + 3), 1, none⟩ = some (.slice none 0 0) := HR.out.cell 1
  have r2 : w4.cell? ⟨(w.heap.size + 3), 2, none⟩ = some (.int .i64 0) := HR.out.cell 2
  have r3 : w4.cell? ⟨(w.heap.size + 3), 3, none⟩ = some (.int .i64 0) := HR.out.cell 3
  have r4 : w4.cell? ⟨(w.heap.size + 3), 4, none⟩ = some (.bool false) := HR.out.cell 4
  have f0 : w4.frozen? ⟨(w.heap.size + 3), 0, none⟩ = false := HR.out.free 0
  have f1 : w4.frozen? ⟨(w.heap.size + 3), 1, none⟩ = false := HR.out.free 1
  have f2 : w4.frozen? ⟨(w.heap.size + 3), 2, none⟩ = false := HR.out.free 2
  have f3 : w4.frozen? ⟨(w.heap.size + 3), 3, none⟩ = false := HR.out.free 3
  have f4 : w4.frozen? ⟨(w.heap.size + 3), 4, none⟩ = false := HR.out.free 4
  go_simp
  refine hK.out _ _ ?_ (fun hHeld => ?_)
  · exact wcells13_sets (W := w4) (by assumption) (w.heap.size + 3) (by omega) (by omega) (by omega) _ _ _ _ _
  clear hK K
  (try simp only [Act.put, List.setIfInBounds_toArray, List.set_cons_zero, List.set_cons_succ])
  clear r0 r1 r2 r3 r4
  clear f0 f1 f2 f3 f4
  have HRa := Lib.hid (HR.out.sets (.slice a3 rd.S.length c3) (.slice a4 rd.P.length c4) (.int .i64 rd.fuse) (.int .i64 rd.ops) (.bool rd.dead)); have HJa := Lib.hid (HJ2.out.sets_ne (c := w.heap.size + 3) (by omega) (.slice a3 rd.S.length c3) (.slice a4 rd.P.length c4) (.int .i64 rd.fuse) (.int .i64 rd.ops) (.bool rd.dead)); have HBa := Lib.hid (below_sets HB.out (w.heap.size + 3) (by omega) (.slice a3 rd.S.length c3) (.slice a4 rd.P.length c4) (.int .i64 rd.fuse) (.int .i64 rd.ops) (.bool rd.dead)); have HLa := Lib.hid (HL4.out.sets_box HR.out (.slice a3 rd.S.length c3) (.slice a4 rd.P.length c4) (.int .i64 rd.fuse) (.int .i64 rd.ops) (.bool rd.dead))
  generalize hWE : (((((w4.setCell ⟨(w.heap.size + 3), 0, none⟩ (.slice a3 rd.S.length c3)).setCell ⟨(w.heap.size + 3), 1, none⟩ (.slice a4 rd.P.length c4)).setCell ⟨(w.heap.size + 3), 2, none⟩ (.int .i64 rd.fuse)).setCell ⟨(w.heap.size + 3), 3, none⟩ (.int .i64 rd.ops)).setCell ⟨(w.heap.size + 3), 4, none⟩ (.bool rd.dead)) = WE at HRa HJa HBa HLa hHeld ⊢
  clear hWE
  refine wpAnyH_ready (rs := [15]) (by kernel_rfl) (by simp) ?_
  refine (AllReadyH.cons rfl (fun K hK => ?_) AllReadyH.nil)
  have q0 : WE.cell? ⟨(w.heap.size + 4), 0, none⟩ = some (.int .i64 0) := HJa.out.cell 0
  have q1 : WE.cell? ⟨(w.heap.size + 4), 1, none⟩ = some (.int .i64 0) := HJa.out.cell 1
  have q2 : WE.cell? ⟨(w.heap.size + 4), 2, none⟩ = some (.int .i64 0) := HJa.out.cell 2
  have q3 : WE.cell? ⟨(w.heap.size + 4), 3, none⟩ = some (.int .i64 0) := HJa.out.cell 3
  have q4 : WE.cell? ⟨(w.heap.size + 4), 4, none⟩ = some (.int .i64 0) := HJa.out.cell 4
  have q5 : WE.cell? ⟨(w.heap.size + 4), 5, none⟩ = some (.int .i64 0) := HJa.out.cell 5
  have q6 : WE.cell? ⟨(w.heap.size + 4), 6, none⟩ = some (.int .i64 0) := HJa.out.cell 6
  have p0 : WE.frozen? ⟨(w.heap.size + 4), 0, none⟩ = false := HJa.out.free 0
  have p1 : WE.frozen? ⟨(w.heap.size + 4), 1, none⟩ = false := HJa.out.free 1
  have p2 : WE.frozen? ⟨(w.heap.size + 4), 2, none⟩ = false := HJa.out.free 2
  have p3 : WE.frozen? ⟨(w.heap.size + 4), 3, none⟩ = false := HJa.out.free 3
  have p4 : WE.frozen? ⟨(w.heap.size + 4), 4, none⟩ = false := HJa.out.free 4
  have p5 : WE.frozen? ⟨(w.heap.size + 4), 5, none⟩ = false := HJa.out.free 5
  have p6 : WE.frozen? ⟨(w.heap.size + 4), 6, none⟩ = false := HJa.out.free 6
  go_simp
  refine hK.out _ _ ?_ (fun hHeld => ?_)
  · exact wcells13_sets7 (W := WE) (by assumption) (w.heap.size + 4) (by omega) (by omega) (by omega) _ _ _ _ _ _ _
  clear hK K
  (try simp only [Act.put, List.setIfInBounds_toArray, List.set_cons_zero, List.set_cons_succ])
  have KR := Lib.hid (HRa.out.sets7_ne (c := w.heap.size + 4) (by omega) (.int .i64 j.x.g) (.int .i64 j.x.e) (.int .i64 j.x.a) (.int .i64 j.x.z) (.int .i64 j.x.p) (.int .i64 (j.n + (SL.length : Int))) (.int .i64 (j.r + 1))); have KJ := Lib.hid (HJa.out.sets7 (.int .i64 j.x.g) (.int .i64 j.x.e) (.int .i64 j.x.a) (.int .i64 j.x.z) (.int .i64 j.x.p) (.int .i64 (j.n + (SL.length : Int))) (.int .i64 (j.r + 1))); have KL := Lib.hid (HLa.out.sets7i HJa.out (.int .i64 j.x.g) (.int .i64 j.x.e) (.int .i64 j.x.a) (.int .i64 j.x.z) (.int .i64 j.x.p) (.int .i64 (j.n + (SL.length : Int))) (.int .i64 (j.r + 1))).drewD; have KB := Lib.hid (below_sets7 HBa.out (w.heap.size + 4) (by omega) (.int .i64 j.x.g) (.int .i64 j.x.e) (.int .i64 j.x.a) (.int .i64 j.x.z) (.int .i64 j.x.p) (.int .i64 (j.n + (SL.length : Int))) (.int .i64 (j.r + 1))).drew
  refine takeH (i := 16) (v := ?vv15) 8 rfl rfl (by kernel_rfl) (by kernel_rfl) (by kernel_rfl) (fun _ _ _ h => h) (Or.inl ⟨by kernel_rfl, ?yy15⟩) (by assumption) ?_
  case yy15 => intro w hSw; (try dsimp only at hSw); go_simp; (try with_reducible rfl)
  simp only [List.setIfInBounds_toArray, List.set_cons_zero, List.set_cons_succ]
  refine wpAnyH_done (by kernel_rfl) ?_ _
  go_wp2
  have k0 := KR.out.cell 0
  have k1 := KR.out.cell 1
  have k2 := KR.out.cell 2
  have k3 := KR.out.cell 3
  have k4 := KR.out.cell 4
  have m0 := KJ.out.cell 0
  have m1 := KJ.out.cell 1
  have m2 := KJ.out.cell 2
  have m3 := KJ.out.cell 3
  have m4 := KJ.out.cell 4
  have m5 := KJ.out.cell 5
  have m6 := KJ.out.cell 6
  simp only [List.getElem?_toArray, List.getElem?_cons_zero, List.getElem?_cons_succ] at k0 k1 k2 k3 k4 m0 m1 m2 m3 m4 m5 m6
  refine bodyPost_ret (v := .tuple #[.agg #[.slice a3 rd.S.length c3, .slice a4 rd.P.length c4, .int .i64 rd.fuse, .int .i64 rd.ops, .bool rd.dead], .agg #[.int .i64 j.x.g, .int .i64 j.x.e, .int .i64 j.x.a, .int .i64 j.x.z, .int .i64 j.x.p, .int .i64 (j.n + (SL.length : Int)), .int .i64 (j.r + 1)], .int .i64 0]) (by simp [results, Try.results41, go_sem, k0, k1, k2, k3, k4, m0, m1, m2, m3, m4, m5, m6]) rfl ?_
  exact APost.mk (rd, ⟨j.x, j.n + (SL.length : Int), j.r + 1⟩, 0) a3 c3 a4 c4 rfl KL.out KB.out HRES.out
end Go.Proofs.Ytkpfkknldeafkaa

namespace Go.Proofs.Ytkpfkknldeafkaa
open Go.RowKit

end Go.Proofs.Ytkpfkknldeafkaa

namespace Go.Proofs.Ytkpfkknldeafkaa
open Go.RowKit

theorem wc_xxxxxyyyyyyy_5 {W : World} {x y i0 i1 i2 i3 i4 i5 i6 i7 i8 i9 i10 i11 : Nat} {u0 u1 u2 u3 u4 u5 u6 u7 u8 u9 u10 u11 : Value} (h : W.drew.cell? ⟨x, i0, none⟩ = some u0 ∧ W.drew.cell? ⟨x, i1, none⟩ = some u1 ∧ W.drew.cell? ⟨x, i2, none⟩ = some u2 ∧ W.drew.cell? ⟨x, i3, none⟩ = some u3 ∧ W.drew.cell? ⟨x, i4, none⟩ = some u4 ∧ W.drew.cell? ⟨y, i5, none⟩ = some u5 ∧ W.drew.cell? ⟨y, i6, none⟩ = some u6 ∧ W.drew.cell? ⟨y, i7, none⟩ = some u7 ∧ W.drew.cell? ⟨y, i8, none⟩ = some u8 ∧ W.drew.cell? ⟨y, i9, none⟩ = some u9 ∧ W.drew.cell? ⟨y, i10, none⟩ = some u10 ∧ W.drew.cell? ⟨y, i11, none⟩ = some u11) (b : Nat) (h_x : b ≠ x) (h_y : b ≠ y) (v0 v1 v2 v3 v4 : Value) :
    (((((W.setCell ⟨b, 0, none⟩ v0).setCell ⟨b, 1, none⟩ v1).setCell ⟨b, 2, none⟩ v2).setCell ⟨b, 3, none⟩ v3).setCell ⟨b, 4, none⟩ v4).drew.cell? ⟨x, i0, none⟩ = some u0 ∧ (((((W.setCell ⟨b, 0, none⟩ v0).setCell ⟨b, 1, none⟩ v1).setCell ⟨b, 2, none⟩ v2).setCell ⟨b, 3, none⟩ v3).setCell ⟨b, 4, none⟩ v4).drew.cell? ⟨x, i1, none⟩ = some u1 ∧ (((((W.setCell ⟨b, 0, none⟩ v0).setCell ⟨b, 1, none⟩ v1).setCell ⟨b, 2, none⟩ v2).setCell ⟨b, 3, none⟩ v3).setCell ⟨b, 4, none⟩ v4).drew.cell? ⟨x, i2, none⟩ = some u2 ∧ (((((W.setCell ⟨b, 0, none⟩ v0).setCell ⟨b, 1, none⟩ v1).setCell ⟨b, 2, none⟩ v2).setCell ⟨b, 3, none⟩ v3).setCell ⟨b, 4, none⟩ v4).drew.cell? ⟨x, i3, none⟩ = some u3 ∧ (((((W.setCell ⟨b, 0, none⟩ v0).setCell ⟨b, 1, none⟩ v1).setCell ⟨b, 2, none⟩ v2).setCell ⟨b, 3, none⟩ v3).setCell ⟨b, 4, none⟩ v4).drew.cell? ⟨x, i4, none⟩ = some u4 ∧ (((((W.setCell ⟨b, 0, none⟩ v0).setCell ⟨b, 1, none⟩ v1).setCell ⟨b, 2, none⟩ v2).setCell ⟨b, 3, none⟩ v3).setCell ⟨b, 4, none⟩ v4).drew.cell? ⟨y, i5, none⟩ = some u5 ∧ (((((W.setCell ⟨b, 0, none⟩ v0).setCell ⟨b, 1, none⟩ v1).setCell ⟨b, 2, none⟩ v2).setCell ⟨b, 3, none⟩ v3).setCell ⟨b, 4, none⟩ v4).drew.cell? ⟨y, i6, none⟩ = some u6 ∧ (((((W.setCell ⟨b, 0, none⟩ v0).setCell ⟨b, 1, none⟩ v1).setCell ⟨b, 2, none⟩ v2).setCell ⟨b, 3, none⟩ v3).setCell ⟨b, 4, none⟩ v4).drew.cell? ⟨y, i7, none⟩ = some u7 ∧ (((((W.setCell ⟨b, 0, none⟩ v0).setCell ⟨b, 1, none⟩ v1).setCell ⟨b, 2, none⟩ v2).setCell ⟨b, 3, none⟩ v3).setCell ⟨b, 4, none⟩ v4).drew.cell? ⟨y, i8, none⟩ = some u8 ∧ (((((W.setCell ⟨b, 0, none⟩ v0).setCell ⟨b, 1, none⟩ v1).setCell ⟨b, 2, none⟩ v2).setCell ⟨b, 3, none⟩ v3).setCell ⟨b, 4, none⟩ v4).drew.cell? ⟨y, i9, none⟩ = some u9 ∧ (((((W.setCell ⟨b, 0, none⟩ v0).setCell ⟨b, 1, none⟩ v1).setCell ⟨b, 2, none⟩ v2).setCell ⟨b, 3, none⟩ v3).setCell ⟨b, 4, none⟩ v4).drew.cell? ⟨y, i10, none⟩ = some u10 ∧ (((((W.setCell ⟨b, 0, none⟩ v0).setCell ⟨b, 1, none⟩ v1).setCell ⟨b, 2, none⟩ v2).setCell ⟨b, 3, none⟩ v3).setCell ⟨b, 4, none⟩ v4).drew.cell? ⟨y, i11, none⟩ = some u11 := by
  obtain ⟨h0, h1, h2, h3, h4, h5, h6, h7, h8, h9, h10, h11⟩ := h
  exact ⟨drew_cell (cell1_set _ h_x (cell1_set _ h_x (cell1_set _ h_x (cell1_set _ h_x (cell1_set _ h_x (cell_drew h0)))))), drew_cell (cell1_set _ h_x (cell1_set _ h_x (cell1_set _ h_x (cell1_set _ h_x (cell1_set _ h_x (cell_drew h1)))))), drew_cell (cell1_set _ h_x (cell1_set _ h_x (cell1_set _ h_x (cell1_set _ h_x (cell1_set _ h_x (cell_drew h2)))))), drew_cell (cell1_set _ h_x (cell1_set _ h_x (cell1_set _ h_x (cell1_set _ h_x (cell1_set _ h_x (cell_drew h3)))))), drew_cell (cell1_set _ h_x (cell1_set _ h_x (cell1_set _ h_x (cell1_set _ h_x (cell1_set _ h_x (cell_drew h4)))))), drew_cell (cell1_set _ h_y (cell1_set _ h_y (cell1_set _ h_y (cell1_set _ h_y (cell1_set _ h_y (cell_drew h5)))))), drew_cell (cell1_set _ h_y (cell1_set _ h_y (cell1_set _ h_y (cell1_set _ h_y (cell1_set _ h_y (cell_drew h6)))))), drew_cell (cell1_set _ h_y (cell1_set _ h_y (cell1_set _ h_y (cell1_set _ h_y (cell1_set _ h_y (cell_drew h7)))))), drew_cell (cell1_set _ h_y (cell1_set _ h_y (cell1_set _ h_y (cell1_set _ h_y (cell1_set _ h_y (cell_drew h8)))))), drew_cell (cell1_set _ h_y (cell1_set _ h_y (cell1_set _ h_y (cell1_set _ h_y (cell1_set _ h_y (cell_drew h9)))))), drew_cell (cell1_set _ h_y (cell1_set _ h_y (cell1_set _ h_y (cell1_set _ h_y (cell1_set _ h_y (cell_drew h10)))))), drew_cell (cell1_set _ h_y (cell1_set _ h_y (cell1_set _ h_y (cell1_set _ h_y (cell1_set _ h_y (cell_drew h11))))))⟩
theorem wc_xxxxxyyyyyyy_7 {W : World} {x y i0 i1 i2 i3 i4 i5 i6 i7 i8 i9 i10 i11 : Nat} {u0 u1 u2 u3 u4 u5 u6 u7 u8 u9 u10 u11 : Value} (h : W.drew.cell? ⟨x, i0, none⟩ = some u0 ∧ W.drew.cell? ⟨x, i1, none⟩ = some u1 ∧ W.drew.cell? ⟨x, i2, none⟩ = some u2 ∧ W.drew.cell? ⟨x, i3, none⟩ = some u3 ∧ W.drew.cell? ⟨x, i4, none⟩ = some u4 ∧ W.drew.cell? ⟨y, i5, none⟩ = some u5 ∧ W.drew.cell? ⟨y, i6, none⟩ = some u6 ∧ W.drew.cell? ⟨y, i7, none⟩ = some u7 ∧ W.drew.cell? ⟨y, i8, none⟩ = some u8 ∧ W.drew.cell? ⟨y, i9, none⟩ = some u9 ∧ W.drew.cell? ⟨y, i10, none⟩ = some u10 ∧ W.drew.cell? ⟨y, i11, none⟩ = some u11) (b : Nat) (h_x : b ≠ x) (h_y : b ≠ y) (v0 v1 v2 v3 v4 v5 v6 : Value) :
    (((((((W.setCell ⟨b, 0, none⟩ v0).setCell ⟨b, 1, none⟩ v1).setCell ⟨b, 2, none⟩ v2).setCell ⟨b, 3, none⟩ v3).setCell ⟨b, 4, none⟩ v4).setCell ⟨b, 5, none⟩ v5).setCell ⟨b, 6, none⟩ v6).drew.cell? ⟨x, i0, none⟩ = some u0 ∧ (((((((W.setCell ⟨b, 0, none⟩ v0).setCell ⟨b, 1, none⟩ v1).setCell ⟨b, 2, none⟩ v2).setCell ⟨b, 3, none⟩ v3).setCell ⟨b, 4, none⟩ v4).setCell ⟨b, 5, none⟩ v5).setCell ⟨b, 6, none⟩ v6).drew.cell? ⟨x, i1, none⟩ = some u1 ∧ (((((((W.setCell ⟨b, 0, none⟩ v0).setCell ⟨b, 1, none⟩ v1).setCell ⟨b, 2, none⟩ v2).setCell ⟨b, 3, none⟩ v3).setCell ⟨b, 4, none⟩ v4).setCell ⟨b, 5, none⟩ v5).setCell ⟨b, 6, none⟩ v6).drew.cell? ⟨x, i2, none⟩ = some u2 ∧ (((((((W.setCell ⟨b, 0, none⟩ v0).setCell ⟨b, 1, none⟩ v1).setCell ⟨b, 2, none⟩ v2).setCell ⟨b, 3, none⟩ v3).setCell ⟨b, 4, none⟩ v4).setCell ⟨b, 5, none⟩ v5).setCell ⟨b, 6, none⟩ v6).drew.cell? ⟨x, i3, none⟩ = some u3 ∧ (((((((W.setCell ⟨b, 0, none⟩ v0).setCell ⟨b, 1, none⟩ v1).setCell ⟨b, 2, none⟩ v2).setCell ⟨b, 3, none⟩ v3).setCell ⟨b, 4, none⟩ v4).setCell ⟨b, 5, none⟩ v5).setCell ⟨b, 6, none⟩ v6).drew.cell? ⟨x, i4, none⟩ = some u4 ∧ (((((((W.setCell ⟨b, 0, none⟩ v0).setCell ⟨b, 1, none⟩ v1).setCell ⟨b, 2, none⟩ v2).setCell ⟨b, 3, none⟩ v3).setCell ⟨b, 4, none⟩ v4).setCell ⟨b, 5, none⟩ v5).setCell ⟨b, 6, none⟩ v6).drew.cell? ⟨y, i5, none⟩ = some u5 ∧ (((((((W.setCell ⟨b, 0, none⟩ v0).setCell ⟨b, 1, none⟩ v1).setCell ⟨b, 2, none⟩ v2).setCell ⟨b, 3, none⟩ v3).setCell ⟨b, 4, none⟩ v4).setCell ⟨b, 5, none⟩ v5).setCell ⟨b, 6, none⟩ v6).drew.cell? ⟨y, i6, none⟩ = some u6 ∧ (((((((W.setCell ⟨b, 0, none⟩ v0).setCell ⟨b, 1, none⟩ v1).setCell ⟨b, 2, none⟩ v2).setCell ⟨b, 3, none⟩ v3).setCell ⟨b, 4, none⟩ v4).setCell ⟨b, 5, none⟩ v5).setCell ⟨b, 6, none⟩ v6).drew.cell? ⟨y, i7, none⟩ = some u7 ∧ (((((((W.setCell ⟨b, 0, none⟩ v0).setCell ⟨b, 1, none⟩ v1).setCell ⟨b, 2, none⟩ v2).setCell ⟨b, 3, none⟩ v3).setCell ⟨b, 4, none⟩ v4).setCell ⟨b, 5, none⟩ v5).setCell ⟨b, 6, none⟩ v6).drew.cell? ⟨y, i8, none⟩ = some u8 ∧ (((((((W.setCell ⟨b, 0, none⟩ v0).setCell ⟨b, 1, none⟩ v1).setCell ⟨b, 2, none⟩ v2).setCell ⟨b, 3, none⟩ v3).setCell ⟨b, 4, none⟩ v4).setCell ⟨b, 5, none⟩ v5).setCell ⟨b, 6, none⟩ v6).drew.cell? ⟨y, i9, none⟩ = some u9 ∧ (((((((W.setCell ⟨b, 0, none⟩ v0).setCell ⟨b, 1, none⟩ v1).setCell ⟨b, 2, none⟩ v2).setCell ⟨b, 3, none⟩ v3).setCell ⟨b, 4, none⟩ v4).setCell ⟨b, 5, none⟩ v5).setCell ⟨b, 6, none⟩ v6).drew.cell? ⟨y, i10, none⟩ = some u10 ∧ (((((((W.setCell ⟨b, 0, none⟩ v0).setCell ⟨b, 1, none⟩ v1).setCell ⟨b, 2, none⟩ v2).setCell ⟨b, 3, none⟩ v3).setCell ⟨b, 4, none⟩ v4).setCell ⟨b, 5, none⟩ v5).setCell ⟨b, 6, none⟩ v6).drew.cell? ⟨y, i11, none⟩ = some u11 := by
  obtain ⟨h0, h1, h2, h3, h4, h5, h6, h7, h8, h9, h10, h11⟩ := h
  exact ⟨drew_cell (cell1_set _ h_x (cell1_set _ h_x (cell1_set _ h_x (cell1_set _ h_x (cell1_set _ h_x (cell1_set _ h_x (cell1_set _ h_x (cell_drew h0)))))))), drew_cell (cell1_set _ h_x (cell1_set _ h_x (cell1_set _ h_x (cell1_set _ h_x (cell1_set _ h_x (cell1_set _ h_x (cell1_set _ h_x (cell_drew h1)))))))), drew_cell (cell1_set _ h_x (cell1_set _ h_x (cell1_set _ h_x (cell1_set _ h_x (cell1_set _ h_x (cell1_set _ h_x (cell1_set _ h_x (cell_drew h2)))))))), drew_cell (cell1_set _ h_x (cell1_set _ h_x (cell1_set _ h_x (cell1_set _ h_x (cell1_set _ h_x (cell1_set _ h_x (cell1_set _ h_x (cell_drew h3)))))))), drew_cell (cell1_set _ h_x (cell1_set _ h_x (cell1_set _ h_x (cell1_set _ h_x (cell1_set _ h_x (cell1_set _ h_x (cell1_set _ h_x (cell_drew h4)))))))), drew_cell (cell1_set _ h_y (cell1_set _ h_y (cell1_set _ h_y (cell1_set _ h_y (cell1_set _ h_y (cell1_set _ h_y (cell1_set _ h_y (cell_drew h5)))))))), drew_cell (cell1_set _ h_y (cell1_set _ h_y (cell1_set _ h_y (cell1_set _ h_y (cell1_set _ h_y (cell1_set _ h_y (cell1_set _ h_y (cell_drew h6)))))))), drew_cell (cell1_set _ h_y (cell1_set _ h_y (cell1_set _ h_y (cell1_set _ h_y (cell1_set _ h_y (cell1_set _ h_y (cell1_set _ h_y (cell_drew h7)))))))), drew_cell (cell1_set _ h_y (cell1_set _ h_y (cell1_set _ h_y (cell1_set _ h_y (cell1_set _ h_y (cell1_set _ h_y (cell1_set _ h_y (cell_drew h8)))))))), drew_cell (cell1_set _ h_y (cell1_set _ h_y (cell1_set _ h_y (cell1_set _ h_y (cell1_set _ h_y (cell1_set _ h_y (cell1_set _ h_y (cell_drew h9)))))))), drew_cell (cell1_set _ h_y (cell1_set _ h_y (cell1_set _ h_y (cell1_set _ h_y (cell1_set _ h_y (cell1_set _ h_y (cell1_set _ h_y (cell_drew h10)))))))), drew_cell (cell1_set _ h_y (cell1_set _ h_y (cell1_set _ h_y (cell1_set _ h_y (cell1_set _ h_y (cell1_set _ h_y (cell1_set _ h_y (cell_drew h11))))))))⟩
end Go.Proofs.Ytkpfkknldeafkaa

namespace Go.Proofs.Ytkpfkknldeafkaa
open Go.RowKit

def w18 : Dk := ⟨List.replicate 18 B64, [], 0, 0, false⟩
def abc : List UInt8 := [97, 98, 99]
def w18a : Dk := (openW w18).d
def w18b : Dk := (appW w18a ⟨sp1, 0, 0⟩ abc).1
theorem opened_eta (o : Opened) (j : Jn) (im : List UInt8) (l : List (List UInt8)) (e : Int) (h1 : o.j = j) (h2 : o.image = im) (h3 : o.recs = l) (h4 : o.e = e) : o = ⟨o.d, j, im, l, e⟩ := by
  subst h1 h2 h3 h4; rfl
theorem wx1 : newS 18 = (w18, 0) := by decide +kernel
theorem wx2 : areasS w18 = (4, 10, 8) := by decide +kernel
theorem wx3 : openW w18 = ⟨w18a, ⟨sp1, 0, 0⟩, [], [], 0⟩ := opened_eta _ _ _ _ _ (by decide +kernel) (by decide +kernel) (by decide +kernel) (by decide +kernel)
theorem wx4 : appW w18a ⟨sp1, 0, 0⟩ abc = (w18b, ⟨sp1, 1, 1⟩, 0) := Prod.ext rfl (by decide +kernel)
theorem wx5 : openW w18b = ⟨(openW w18b).d, ⟨⟨2, 0, 0, 0, 0⟩, 1, 1⟩, [], [abc], 0⟩ := opened_eta _ _ _ _ _ (by decide +kernel) (by decide +kernel) (by decide +kernel) (by decide +kernel)
theorem wx6 : w18.S.length = 18 ∧ w18.P.length = 0 ∧ w18a.S.length = 18 ∧ w18a.P.length = 0 ∧ w18b.S.length = 18 ∧ w18b.P.length = 0 := by decide +kernel
end Go.Proofs.Ytkpfkknldeafkaa

namespace Go.Proofs.Ytkpfkknldeafkaa
open Go.RowKit

theorem openW_use (sa pa : Option Addr) (sc pc : Nat) (d nd : Dk) (j : Jn) (im : List UInt8) (M : List (List UInt8)) (e0 : Int) (w : World) (hD : Lists w sa sc pa pc d) (hp : d.P.length ≤ 8999999999999) (hq : openW d = ⟨nd, j, im, M, e0⟩) (hp2 : nd.P.length ≤ 9000000000000) (hs2 : nd.S.length ≤ 9000000000000) :
    Calls Try.prog 35 #[.agg #[.slice sa d.S.length sc, .slice pa d.P.length pc, .int .i64 d.fuse, .int .i64 d.ops, .bool d.dead]] w fun E w' => ∃ a1 c1 a2 c2 a3 c3, E = .returned (.tuple #[.agg #[.slice a1 nd.S.length c1, .slice a2 nd.P.length c2, .int .i64 nd.fuse, .int .i64 nd.ops, .bool nd.dead], .agg (jnV j), .string (bs im), .slice a3 M.length c3, .int .i64 e0]) ∧ Lists w' a1 c1 a2 c2 nd ∧ StrS w' (.slice a3 M.length c3) M ∧ Below w.heap.size w w' := by
  refine (openW_any sa pa sc pc d w hD hp).mono ?_
  rw [hq]
  rintro E w' ⟨a1, c1, a2, c2, v, rfl, hO, hV, hB⟩
  obtain ⟨a3, c3, rfl⟩ := own_slice hV
  exact ⟨a1, c1, a2, c2, a3, c3, rfl, hO.lists (d := nd) hp2 hs2, StrS.of_own hV, hB⟩
theorem appW_use (sa pa : Option Addr) (sc pc : Nat) (d nd : Dk) (j j2 : Jn) (l : List UInt8) (e0 : Int) (w : World) (hD : Lists w sa sc pa pc d) (hl : l.length ≤ 1000000000000000) (hp : d.P.length ≤ 8000000000000) (hq : appW d j l = (nd, j2, e0)) :
    Calls Try.prog 41 #[.agg #[.slice sa d.S.length sc, .slice pa d.P.length pc, .int .i64 d.fuse, .int .i64 d.ops, .bool d.dead], .agg (jnV j), .string (bs l)] w fun E w' => ∃ a1 c1 a2 c2, E = .returned (.tuple #[.agg #[.slice a1 nd.S.length c1, .slice a2 nd.P.length c2, .int .i64 nd.fuse, .int .i64 nd.ops, .bool nd.dead], .agg (jnV j2), .int .i64 e0]) ∧ Lists w' a1 c1 a2 c2 nd ∧ Below w.heap.size w w' := by
  refine (appW_any sa pa sc pc d j l w hD hl hp).mono ?_
  rw [hq]
  rintro E w' ⟨a1, c1, a2, c2, rfl, hL, hB⟩
  exact ⟨a1, c1, a2, c2, rfl, hL, hB⟩
theorem frozen_past {W : World} {b : Nat} (o : Obj) (i : Nat) (_u : Nat) (h : b < W.heap.size) : (W.alloc o).frozen? ⟨b, i, none⟩ = W.frozen? ⟨b, i, none⟩ := World.frozen?_of_block (w := W) (a := ⟨b, i, none⟩) (Below.heap_alloc W o b h)
theorem str_one (W : World) (y : List UInt8) : StrS (W.alloc (.cells #[.string (bs y)] 9)) (.slice (some ⟨W.heap.size, 0, none⟩) 1 1) [y] := by
  refine ⟨_, 1, rfl, Nat.le_refl _, fun _ => ⟨W.heap.size, 0, rfl, fun i hi => ?_⟩⟩
  obtain rfl : i = 0 := by simp at hi; omega
  exact (Bx.new W #[.string (bs y)] 9).cell 0
set_option maxRecDepth 100000 in
set_option maxHeartbeats 8000000 in
theorem same_any (va vb : Value) (L M : List (List UInt8)) (w : World) (hS : StrS w va L) (hT : StrS w vb M) (hL : L.length ≤ 9000000000000) (_hM : M.length ≤ 9000000000000) :
    Calls Try.prog 39 #[va, vb] w fun e w' => e = .returned (.bool (decide (L = M))) ∧ Below w.heap.size w w' := by
  obtain ⟨a, ca, rfl, hca, hca2⟩ := hS
  obtain ⟨b, cb, rfl, hcb, hcb2⟩ := hT
  by_cases hl : L.length = M.length
  rotate_left
  · have tl : ((L.length : Int) != (M.length : Int)) = true := by rw [bne_iff_ne]; omega
    have hfin : decide (L = M) = false := by rw [decide_eq_false_iff_not]; intro h; exact hl (by rw [h])
    rw [hfin]
    clear hl hfin hca2 hcb2
    go_enter Try.func39, Try.ntmps39
    go_wp2
    go_ret
    exact ⟨rfl, Below.refl _ _⟩
  obtain ⟨n, hn⟩ : ∃ n, n = L.length := ⟨_, rfl⟩
  have hn2 : M.length = n := by omega
  rw [hn2, ← hn]
  rw [hn2] at hcb
  rw [← hn] at hca
  have HN := Lib.hid hn; have HN2 := Lib.hid hn2; have HA := Lib.hid hca2; have HBb := Lib.hid hcb2; clear hn hn2 hca2 hcb2 hl
  go_enter Try.func39, Try.ntmps39
  go_wp2
  go_loopw [5] (fun i wr => ∃ k : Nat, k ≤ n ∧ i = .int .i64 k ∧ L.take k = M.take k ∧ Below w.heap.size w wr) (fun i _ => n - (intOf i).toNat)
  case atStart => exact ⟨0, Nat.zero_le _, rfl, rfl, Below.refl _ _⟩
  case round =>
    obtain ⟨k, hk, rfl, htk, hbw⟩ := hrel
    have HTK := Lib.hid htk; have HB := Lib.hid hbw; clear htk hbw
    by_cases hlt : k < n
    · have hlt' : (k : Int) < (n : Int) := by omega
      have kL : k < L.length := by rw [← HN.out]; exact hlt
      have kM : k < M.length := by rw [HN2.out]; exact hlt
      obtain ⟨ga, oa, rfl, hc1⟩ := HA.out (by intro h0; rw [h0] at kL; simp at kL)
      obtain ⟨gb, ob, rfl, hc2⟩ := HBb.out (by intro h0; rw [h0] at kM; simp at kM)
      have c1 := hc1 k kL; have c2 := hc2 k kM
      clear hc1 hc2
      have d1 : wr.drew.cell? ⟨ga, oa + k, none⟩ = some (.string (bs L[k])) := (HB.out.cell (p := ⟨ga, oa + k, none⟩) (World.block_lt_of_cell? w _ c1)).trans c1
      have d2 : wr.drew.cell? ⟨gb, ob + k, none⟩ = some (.string (bs M[k])) := (HB.out.cell (p := ⟨gb, ob + k, none⟩) (World.block_lt_of_cell? w _ c2)).trans c2
      have tk1 := List.take_succ_eq_append_getElem kL; have tk2 := List.take_succ_eq_append_getElem kM
      have HK1 := Lib.hid tk1; have HK2 := Lib.hid tk2; clear tk1 tk2 c1 c2
      obtain ⟨x, hx⟩ : ∃ x, L[k] = x := ⟨_, rfl⟩
      obtain ⟨y, hy⟩ : ∃ y, M[k] = y := ⟨_, rfl⟩
      rw [hx] at d1
      rw [hy] at d2
      have HXX := Lib.hid hx; have HYY := Lib.hid hy; clear hx hy
      have HS2 := Lib.hid (And.intro d1 d2); clear d1 d2
      skip
      by_cases hxy : x = y
      · subst hxy
        go_wp2_with fail
        refine wp_region_held_drew (S := (fun w' => w'.cell? ⟨ga, oa + k, none⟩ = some (.string (bs x)) ∧ w'.cell? ⟨gb, ob + k, none⟩ = some (.string (bs x)))) (by kernel_rfl) ?_ (fun hHeld => ?_)
        · exact HS2.out
        refine takeH (i := 0) (v := ?vv1) 17 rfl rfl (by kernel_rfl) (by kernel_rfl) (by kernel_rfl) (fun _ _ _ h => h) (Or.inl ⟨by kernel_rfl, ?yy1⟩) (by assumption) ?_
        case yy1 => intro w hSw; (try dsimp only at hSw); go_simp; (try with_reducible rfl)
        simp only [List.setIfInBounds_toArray, List.set_cons_zero, List.set_cons_succ]
        refine takeH (i := 1) (v := ?vv2) 18 rfl rfl (by kernel_rfl) (by kernel_rfl) (by kernel_rfl) (fun _ _ _ h => h) (Or.inl ⟨by kernel_rfl, ?yy2⟩) (by assumption) ?_
        case yy2 => intro w hSw; (try dsimp only at hSw); go_simp; (try with_reducible rfl)
        simp only [List.setIfInBounds_toArray, List.set_cons_zero, List.set_cons_succ]
        refine takeH (i := 2) (v := ?vv3) 19 rfl rfl (by kernel_rfl) (by kernel_rfl) (by kernel_rfl) (fun _ _ _ h => h) (Or.inl ⟨by kernel_rfl, ?yy3⟩) (by assumption) ?_
        case yy3 => intro w hSw; (try dsimp only at hSw); go_simp; (try with_reducible rfl)
        simp only [List.setIfInBounds_toArray, List.set_cons_zero, List.set_cons_succ]
        refine takeH (i := 3) (v := ?vv4) 20 rfl rfl (by kernel_rfl) (by kernel_rfl) (by kernel_rfl) (fun _ _ _ h => h) (Or.inl ⟨by kernel_rfl, ?yy4⟩) (by assumption) ?_
        case yy4 => intro w hSw; (try dsimp only at hSw); go_simp; (try with_reducible rfl)
        simp only [List.setIfInBounds_toArray, List.set_cons_zero, List.set_cons_succ]
        refine takeH (i := 4) (v := ?vv5) 21 rfl rfl (by kernel_rfl) (by kernel_rfl) (by kernel_rfl) (fun _ _ _ h => h) (Or.inl ⟨by kernel_rfl, ?yy5⟩) (by assumption) ?_
        case yy5 => intro w hSw; (try dsimp only at hSw); go_simp; (try with_reducible rfl)
        simp only [List.setIfInBounds_toArray, List.set_cons_zero, List.set_cons_succ]
        refine takeH (i := 5) (v := ?vv6) 22 rfl rfl (by kernel_rfl) (by kernel_rfl) (by kernel_rfl) (fun _ _ _ h => h) (Or.inl ⟨by kernel_rfl, ?yy6⟩) (by assumption) ?_
        case yy6 => intro w hSw; (try dsimp only at hSw); go_simp; (try with_reducible rfl)
        simp only [List.setIfInBounds_toArray, List.set_cons_zero, List.set_cons_succ]
        refine takeH (i := 6) (v := ?vv7) 23 rfl rfl (by kernel_rfl) (by kernel_rfl) (by kernel_rfl) (fun _ _ _ h => h) (Or.inl ⟨by kernel_rfl, ?yy7⟩) (by assumption) ?_
        case yy7 => intro w hSw; (try dsimp only at hSw); go_simp; (try with_reducible rfl)
        simp only [List.setIfInBounds_toArray, List.set_cons_zero, List.set_cons_succ]
        refine takeH (i := 7) (v := ?vv8) 24 rfl rfl (by kernel_rfl) (by kernel_rfl) (by kernel_rfl) (fun _ _ _ h => h) (Or.inl ⟨by kernel_rfl, ?yy8⟩) (by assumption) ?_
        case yy8 => intro w hSw; (try dsimp only at hSw); go_simp; (try with_reducible rfl)
        simp only [List.setIfInBounds_toArray, List.set_cons_zero, List.set_cons_succ]
        refine takeH (i := 8) (v := ?vv9) 25 rfl rfl (by kernel_rfl) (by kernel_rfl) (by kernel_rfl) (fun _ _ _ h => h) (Or.inl ⟨by kernel_rfl, ?yy9⟩) (by assumption) ?_
        case yy9 => intro w hSw; (try dsimp only at hSw); go_simp; (try with_reducible rfl)
        simp only [List.setIfInBounds_toArray, List.set_cons_zero, List.set_cons_succ]
        refine wpAnyH_done (by kernel_rfl) ?_ _
        go_wp2
        go_roundw
        case rel => exact ⟨k + 1, by omega, by go_num, by rw [HK1.out, HK2.out, HTK.out, HXX.out, HYY.out], HB.out.drew⟩
        case measure => simp [intOf]; omega
      · have txy : (x == y) = false := by rw [beq_eq_false_iff_ne]; exact hxy
        have hfin : decide (L = M) = false := by rw [decide_eq_false_iff_not]; intro h; apply hxy; rw [← HXX.out, ← HYY.out]; simp only [h]
        have HFIN := Lib.hid hfin; clear hfin hxy
        go_wp2_with fail
        refine wp_region_held_drew (S := (fun w' => w'.cell? ⟨ga, oa + k, none⟩ = some (.string (bs x)) ∧ w'.cell? ⟨gb, ob + k, none⟩ = some (.string (bs y)))) (by kernel_rfl) ?_ (fun hHeld => ?_)
        · exact HS2.out
        refine takeH (i := 0) (v := ?vv10) 17 rfl rfl (by kernel_rfl) (by kernel_rfl) (by kernel_rfl) (fun _ _ _ h => h) (Or.inl ⟨by kernel_rfl, ?yy10⟩) (by assumption) ?_
        case yy10 => intro w hSw; (try dsimp only at hSw); go_simp; (try with_reducible rfl)
        simp only [List.setIfInBounds_toArray, List.set_cons_zero, List.set_cons_succ]
        refine takeH (i := 1) (v := ?vv11) 18 rfl rfl (by kernel_rfl) (by kernel_rfl) (by kernel_rfl) (fun _ _ _ h => h) (Or.inl ⟨by kernel_rfl, ?yy11⟩) (by assumption) ?_
        case yy11 => intro w hSw; (try dsimp only at hSw); go_simp; (try with_reducible rfl)
        simp only [List.setIfInBounds_toArray, List.set_cons_zero, List.set_cons_succ]
        refine takeH (i := 2) (v := ?vv12) 19 rfl rfl (by kernel_rfl) (by kernel_rfl) (by kernel_rfl) (fun _ _ _ h => h) (Or.inl ⟨by kernel_rfl, ?yy12⟩) (by assumption) ?_
        case yy12 => intro w hSw; (try dsimp only at hSw); go_simp; (try with_reducible rfl)
        simp only [List.setIfInBounds_toArray, List.set_cons_zero, List.set_cons_succ]
        refine takeH (i := 3) (v := ?vv13) 20 rfl rfl (by kernel_rfl) (by kernel_rfl) (by kernel_rfl) (fun _ _ _ h => h) (Or.inl ⟨by kernel_rfl, ?yy13⟩) (by assumption) ?_
        case yy13 => intro w hSw; (try dsimp only at hSw); go_simp; (try with_reducible rfl)
        simp only [List.setIfInBounds_toArray, List.set_cons_zero, List.set_cons_succ]
        refine takeH (i := 4) (v := ?vv14) 21 rfl rfl (by kernel_rfl) (by kernel_rfl) (by kernel_rfl) (fun _ _ _ h => h) (Or.inl ⟨by kernel_rfl, ?yy14⟩) (by assumption) ?_
        case yy14 => intro w hSw; (try dsimp only at hSw); go_simp; (try with_reducible rfl)
        simp only [List.setIfInBounds_toArray, List.set_cons_zero, List.set_cons_succ]
        refine takeH (i := 5) (v := ?vv15) 22 rfl rfl (by kernel_rfl) (by kernel_rfl) (by kernel_rfl) (fun _ _ _ h => h) (Or.inl ⟨by kernel_rfl, ?yy15⟩) (by assumption) ?_
        case yy15 => intro w hSw; (try dsimp only at hSw); go_simp; (try with_reducible rfl)
        simp only [List.setIfInBounds_toArray, List.set_cons_zero, List.set_cons_succ]
        refine takeH (i := 6) (v := ?vv16) 23 rfl rfl (by kernel_rfl) (by kernel_rfl) (by kernel_rfl) (fun _ _ _ h => h) (Or.inl ⟨by kernel_rfl, ?yy16⟩) (by assumption) ?_
        case yy16 => intro w hSw; (try dsimp only at hSw); go_simp; (try with_reducible rfl)
        simp only [List.setIfInBounds_toArray, List.set_cons_zero, List.set_cons_succ]
        refine takeH (i := 7) (v := ?vv17) 24 rfl rfl (by kernel_rfl) (by kernel_rfl) (by kernel_rfl) (fun _ _ _ h => h) (Or.inl ⟨by kernel_rfl, ?yy17⟩) (by assumption) ?_
        case yy17 => intro w hSw; (try dsimp only at hSw); go_simp; (try with_reducible rfl)
        simp only [List.setIfInBounds_toArray, List.set_cons_zero, List.set_cons_succ]
        refine takeH (i := 8) (v := ?vv18) 25 rfl rfl (by kernel_rfl) (by kernel_rfl) (by kernel_rfl) (fun _ _ _ h => h) (Or.inl ⟨by kernel_rfl, ?yy18⟩) (by assumption) ?_
        case yy18 => intro w hSw; (try dsimp only at hSw); go_simp; (try with_reducible rfl)
        simp only [List.setIfInBounds_toArray, List.set_cons_zero, List.set_cons_succ]
        refine wpAnyH_done (by kernel_rfl) ?_ _
        go_wp2
        go_ret
        rw [HFIN.out]
        exact ⟨rfl, HB.out.drew⟩
    · have hlt' : ¬ (k : Int) < (n : Int) := by omega
      have hkn : k = n := by omega
      have hfin : decide (L = M) = true := by rw [decide_eq_true_eq]; have h := HTK.out; rw [List.take_of_length_le (by rw [← HN.out]; omega), List.take_of_length_le (by rw [HN2.out]; omega)] at h; exact h
      have HFIN := Lib.hid hfin; clear hfin hkn
      go_wp2
      go_ret
      rw [HFIN.out]
      exact ⟨rfl, HB.out⟩
set_option maxRecDepth 100000 in
set_option maxHeartbeats 64000000 in
theorem wexamples_any (w : World) :
    Calls Try.prog 40 #[] w fun e w' => e = .returned (.bool true) ∧ Below w.heap.size w w' := by
  obtain ⟨d, hd⟩ : ∃ q, q = w18 := ⟨_, rfl⟩
  obtain ⟨da, hda⟩ : ∃ q, q = w18a := ⟨_, rfl⟩
  obtain ⟨db, hdb⟩ : ∃ q, q = w18b := ⟨_, rfl⟩
  obtain ⟨dc, hdc⟩ : ∃ q, q = (openW w18b).d := ⟨_, rfl⟩
  obtain ⟨A, hA⟩ : ∃ q, q = abc := ⟨_, rfl⟩
  have E1 := Lib.hid (show newS 18 = (d, 0) by rw [hd]; exact wx1)
  have E2 := Lib.hid (show areasS d = (4, 10, 8) by rw [hd]; exact wx2)
  have E3 := Lib.hid (show openW d = ⟨da, ⟨sp1, 0, 0⟩, [], [], 0⟩ by rw [hd, hda]; exact wx3)
  have E4 := Lib.hid (show appW da ⟨sp1, 0, 0⟩ A = (db, ⟨sp1, 1, 1⟩, 0) by rw [hda, hdb, hA]; exact wx4)
  have E5 := Lib.hid (show openW db = ⟨dc, ⟨⟨2, 0, 0, 0, 0⟩, 1, 1⟩, [], [A], 0⟩ by rw [hdb, hdc, hA]; exact wx5)
  obtain ⟨s1, s2, s3, s4, s5, s6⟩ := wx6
  have sd : d.S.length ≤ 64 := by rw [hd]; omega
  have pd : d.P.length ≤ 64 := by rw [hd]; omega
  have sda : da.S.length ≤ 64 := by rw [hda]; omega
  have pda : da.P.length ≤ 64 := by rw [hda]; omega
  have sdb : db.S.length ≤ 64 := by rw [hdb]; omega
  have pdb : db.P.length ≤ 64 := by rw [hdb]; omega
  have sdc : dc.S.length ≤ 64 := by rw [hdc]; decide +kernel
  have pdc : dc.P.length ≤ 64 := by rw [hdc]; decide +kernel
  have hal3 : A.length ≤ 100 := by rw [hA]; decide
  have EA := Lib.hid (show ([97, 98, 99] : List UInt8) = A from hA.symm)
  clear hd hda hdb hdc hA s1 s2 s3 s4 s5 s6
  go_enter Try.func40, Try.ntmps40
  go_wp2_with fail
  refine (New_any 18 _).mono ?_
  rw [E1.out]
  rintro er w1 ⟨a1, c1, a2, c2, rfl, hO1, hb1⟩
  have hal := (Below.refl w1.heap.size w1).alloc (Nat.le_refl _) (.cells #[.slice a1 d.S.length c1, .slice a2 d.P.length c2, .int .i64 d.fuse, .int .i64 d.ops, .bool d.dead] 38)
  have HD := Lib.hid (Bx.new w1 #[.slice a1 d.S.length c1, .slice a2 d.P.length c2, .int .i64 d.fuse, .int .i64 d.ops, .bool d.dead] 38); have HT := Lib.hid ((hO1.lists (d := d) (by omega) (by omega)).below hal); have HB := Lib.hid (btrans hb1 hb1.size hal); have zw := hb1.size; clear hO1 hb1 hal
  go_upto_region 2 with (fail)
  generalize hW : w1.alloc (.cells #[.slice a1 d.S.length c1, .slice a2 d.P.length c2, .int .i64 d.fuse, .int .i64 d.ops, .bool d.dead] 38) = v1 at HD HT HB ⊢
  clear hW
  have zd := HD.out.lt
  have x0 : v1.cell? ⟨w1.heap.size, 0, none⟩ = some (.slice a1 d.S.length c1) := HD.out.cell 0
  have x1 : v1.cell? ⟨w1.heap.size, 1, none⟩ = some (.slice a2 d.P.length c2) := HD.out.cell 1
  have x2 : v1.cell? ⟨w1.heap.size, 2, none⟩ = some (.int .i64 d.fuse) := HD.out.cell 2
  have x3 : v1.cell? ⟨w1.heap.size, 3, none⟩ = some (.int .i64 d.ops) := HD.out.cell 3
  have x4 : v1.cell? ⟨w1.heap.size, 4, none⟩ = some (.bool d.dead) := HD.out.cell 4
  go_wp2_with fail
  refine (Areas_any _ _ _ _ d _ HT.out).mono ?_
  rw [E2.out]
  rintro er w2 ⟨rfl, hb1⟩
  clear x0 x1 x2 x3 x4
  have HD := Lib.hid (HD.out.call hb1); have HT := Lib.hid (HT.out.below hb1); have HB := Lib.hid (btrans HB.out HB.out.size hb1); clear hb1
  have x0 : w2.cell? ⟨w1.heap.size, 0, none⟩ = some (.slice a1 d.S.length c1) := HD.out.cell 0
  have x1 : w2.cell? ⟨w1.heap.size, 1, none⟩ = some (.slice a2 d.P.length c2) := HD.out.cell 1
  have x2 : w2.cell? ⟨w1.heap.size, 2, none⟩ = some (.int .i64 d.fuse) := HD.out.cell 2
  have x3 : w2.cell? ⟨w1.heap.size, 3, none⟩ = some (.int .i64 d.ops) := HD.out.cell 3
  have x4 : w2.cell? ⟨w1.heap.size, 4, none⟩ = some (.bool d.dead) := HD.out.cell 4
  go_wp2_with fail
  refine (openW_use _ _ _ _ d da _ _ _ _ _ HT.out (by omega) E3.out (by omega) (by omega)).mono ?_
  simp only [jnV, sp1]
  rintro er w3 ⟨a3, c3, a4, c4, la, lc, rfl, hL3, hS3, hb1⟩
  clear x0 x1 x2 x3 x4
  have HD := Lib.hid (HD.out.call hb1); have HB := Lib.hid (btrans HB.out HB.out.size hb1); have HT := Lib.hid hL3; clear hb1 hL3 hS3
  have zD3 := HD.out.lt
  have zd2 := HD.out.lt
  have hac : ∀ (W : World) (o : Obj) (i : Nat), w1.heap.size < W.heap.size → (W.alloc o).cell? ⟨w1.heap.size, i, none⟩ = W.cell? ⟨w1.heap.size, i, none⟩ := fun W o i h => World.cell?_of_block (w := W) (a := ⟨w1.heap.size, i, none⟩) (Below.heap_alloc W o _ h)
  have haf : ∀ (W : World) (o : Obj) (i : Nat), w1.heap.size < W.heap.size → (W.alloc o).frozen? ⟨w1.heap.size, i, none⟩ = W.frozen? ⟨w1.heap.size, i, none⟩ := fun W o i h => frozen_past o i 0 h
  have r0 : w3.cell? ⟨w1.heap.size, 0, none⟩ = some (.slice a1 d.S.length c1) := HD.out.cell 0
  have r1 : w3.cell? ⟨w1.heap.size, 1, none⟩ = some (.slice a2 d.P.length c2) := HD.out.cell 1
  have r2 : w3.cell? ⟨w1.heap.size, 2, none⟩ = some (.int .i64 d.fuse) := HD.out.cell 2
  have r3 : w3.cell? ⟨w1.heap.size, 3, none⟩ = some (.int .i64 d.ops) := HD.out.cell 3
  have r4 : w3.cell? ⟨w1.heap.size, 4, none⟩ = some (.bool d.dead) := HD.out.cell 4
  have f0 : w3.frozen? ⟨w1.heap.size, 0, none⟩ = false := HD.out.free 0
  have f1 : w3.frozen? ⟨w1.heap.size, 1, none⟩ = false := HD.out.free 1
  have f2 : w3.frozen? ⟨w1.heap.size, 2, none⟩ = false := HD.out.free 2
  have f3 : w3.frozen? ⟨w1.heap.size, 3, none⟩ = false := HD.out.free 3
  have f4 : w3.frozen? ⟨w1.heap.size, 4, none⟩ = false := HD.out.free 4
  go_upto_region 4 with (fail)
  clear hac haf
  clear r0 r1 r2 r3 r4
  clear f0 f1 f2 f3 f4
  have hsz : (((((w3.setCell ⟨w1.heap.size, 0, none⟩ (.slice a3 da.S.length c3)).setCell ⟨w1.heap.size, 1, none⟩ (.slice a4 da.P.length c4)).setCell ⟨w1.heap.size, 2, none⟩ (.int .i64 da.fuse)).setCell ⟨w1.heap.size, 3, none⟩ (.int .i64 da.ops)).setCell ⟨w1.heap.size, 4, none⟩ (.bool da.dead)).heap.size = w3.heap.size := by simp
  have hJ := Bx.new (((((w3.setCell ⟨w1.heap.size, 0, none⟩ (.slice a3 da.S.length c3)).setCell ⟨w1.heap.size, 1, none⟩ (.slice a4 da.P.length c4)).setCell ⟨w1.heap.size, 2, none⟩ (.int .i64 da.fuse)).setCell ⟨w1.heap.size, 3, none⟩ (.int .i64 da.ops)).setCell ⟨w1.heap.size, 4, none⟩ (.bool da.dead)) #[.int .i64 1, .int .i64 0, .int .i64 0, .int .i64 0, .int .i64 0, .int .i64 0, .int .i64 0] 57
  rw [hsz] at hJ
  have hal := (Below.refl (((((w3.setCell ⟨w1.heap.size, 0, none⟩ (.slice a3 da.S.length c3)).setCell ⟨w1.heap.size, 1, none⟩ (.slice a4 da.P.length c4)).setCell ⟨w1.heap.size, 2, none⟩ (.int .i64 da.fuse)).setCell ⟨w1.heap.size, 3, none⟩ (.int .i64 da.ops)).setCell ⟨w1.heap.size, 4, none⟩ (.bool da.dead)).heap.size (((((w3.setCell ⟨w1.heap.size, 0, none⟩ (.slice a3 da.S.length c3)).setCell ⟨w1.heap.size, 1, none⟩ (.slice a4 da.P.length c4)).setCell ⟨w1.heap.size, 2, none⟩ (.int .i64 da.fuse)).setCell ⟨w1.heap.size, 3, none⟩ (.int .i64 da.ops)).setCell ⟨w1.heap.size, 4, none⟩ (.bool da.dead))).alloc (Nat.le_refl _) (.cells #[.int .i64 1, .int .i64 0, .int .i64 0, .int .i64 0, .int .i64 0, .int .i64 0, .int .i64 0] 57)
  have HT := Lib.hid ((HT.out.sets_box HD.out (.slice a3 da.S.length c3) (.slice a4 da.P.length c4) (.int .i64 da.fuse) (.int .i64 da.ops) (.bool da.dead)).below hal); have HB := Lib.hid ((below_sets HB.out w1.heap.size (by omega) (.slice a3 da.S.length c3) (.slice a4 da.P.length c4) (.int .i64 da.fuse) (.int .i64 da.ops) (.bool da.dead)).alloc (by rw [hsz]; omega) (.cells #[.int .i64 1, .int .i64 0, .int .i64 0, .int .i64 0, .int .i64 0, .int .i64 0, .int .i64 0] 57))
  have HD := Lib.hid ((HD.out.sets (.slice a3 da.S.length c3) (.slice a4 da.P.length c4) (.int .i64 da.fuse) (.int .i64 da.ops) (.bool da.dead)).call hal); have HJ := Lib.hid hJ; clear hJ hal hsz
  generalize hW : (((((w3.setCell ⟨w1.heap.size, 0, none⟩ (.slice a3 da.S.length c3)).setCell ⟨w1.heap.size, 1, none⟩ (.slice a4 da.P.length c4)).setCell ⟨w1.heap.size, 2, none⟩ (.int .i64 da.fuse)).setCell ⟨w1.heap.size, 3, none⟩ (.int .i64 da.ops)).setCell ⟨w1.heap.size, 4, none⟩ (.bool da.dead)).alloc (.cells #[.int .i64 1, .int .i64 0, .int .i64 0, .int .i64 0, .int .i64 0, .int .i64 0, .int .i64 0] 57) = v4 at HD HT HB HJ ⊢
  clear hW
  have zHJ := HJ.out.lt
  have x0 : v4.cell? ⟨w1.heap.size, 0, none⟩ = some (.slice a3 da.S.length c3) := HD.out.cell 0
  have x1 : v4.cell? ⟨w1.heap.size, 1, none⟩ = some (.slice a4 da.P.length c4) := HD.out.cell 1
  have x2 : v4.cell? ⟨w1.heap.size, 2, none⟩ = some (.int .i64 da.fuse) := HD.out.cell 2
  have x3 : v4.cell? ⟨w1.heap.size, 3, none⟩ = some (.int .i64 da.ops) := HD.out.cell 3
  have x4 : v4.cell? ⟨w1.heap.size, 4, none⟩ = some (.bool da.dead) := HD.out.cell 4
  have y0 : v4.cell? ⟨w3.heap.size, 0, none⟩ = some (.int .i64 1) := HJ.out.cell 0
  have y1 : v4.cell? ⟨w3.heap.size, 1, none⟩ = some (.int .i64 0) := HJ.out.cell 1
  have y2 : v4.cell? ⟨w3.heap.size, 2, none⟩ = some (.int .i64 0) := HJ.out.cell 2
  have y3 : v4.cell? ⟨w3.heap.size, 3, none⟩ = some (.int .i64 0) := HJ.out.cell 3
  have y4 : v4.cell? ⟨w3.heap.size, 4, none⟩ = some (.int .i64 0) := HJ.out.cell 4
  have y5 : v4.cell? ⟨w3.heap.size, 5, none⟩ = some (.int .i64 0) := HJ.out.cell 5
  have y6 : v4.cell? ⟨w3.heap.size, 6, none⟩ = some (.int .i64 0) := HJ.out.cell 6
  go_wp2_with fail
  rw [EA.out]
  refine (appW_use _ _ _ _ da db ⟨sp1, 0, 0⟩ ⟨sp1, 1, 1⟩ A _ _ HT.out (by omega) (by omega) E4.out).mono ?_
  simp only [jnV, sp1]
  rintro er w5 ⟨a5, c5, a6, c6, rfl, hL5, hb1⟩
  clear x0 x1 x2 x3 x4
  clear y0 y1 y2 y3 y4 y5 y6
  have HD := Lib.hid (HD.out.call hb1); have HJ := Lib.hid (HJ.out.call hb1); have HB := Lib.hid (btrans HB.out HB.out.size hb1); have HT := Lib.hid hL5; have zJ5 := HJ.out.lt; clear hb1 hL5
  have zd2 := HD.out.lt
  have hac : ∀ (W : World) (o : Obj) (i : Nat), w1.heap.size < W.heap.size → (W.alloc o).cell? ⟨w1.heap.size, i, none⟩ = W.cell? ⟨w1.heap.size, i, none⟩ := fun W o i h => World.cell?_of_block (w := W) (a := ⟨w1.heap.size, i, none⟩) (Below.heap_alloc W o _ h)
  have haf : ∀ (W : World) (o : Obj) (i : Nat), w1.heap.size < W.heap.size → (W.alloc o).frozen? ⟨w1.heap.size, i, none⟩ = W.frozen? ⟨w1.heap.size, i, none⟩ := fun W o i h => frozen_past o i 0 h
  have r0 : w5.cell? ⟨w1.heap.size, 0, none⟩ = some (.slice a3 da.S.length c3) := HD.out.cell 0
  have r1 : w5.cell? ⟨w1.heap.size, 1, none⟩ = some (.slice a4 da.P.length c4) := HD.out.cell 1
  have r2 : w5.cell? ⟨w1.heap.size, 2, none⟩ = some (.int .i64 da.fuse) := HD.out.cell 2
  have r3 : w5.cell? ⟨w1.heap.size, 3, none⟩ = some (.int .i64 da.ops) := HD.out.cell 3
  have r4 : w5.cell? ⟨w1.heap.size, 4, none⟩ = some (.bool da.dead) := HD.out.cell 4
  have f0 : w5.frozen? ⟨w1.heap.size, 0, none⟩ = false := HD.out.free 0
  have f1 : w5.frozen? ⟨w1.heap.size, 1, none⟩ = false := HD.out.free 1
  have f2 : w5.frozen? ⟨w1.heap.size, 2, none⟩ = false := HD.out.free 2
  have f3 : w5.frozen? ⟨w1.heap.size, 3, none⟩ = false := HD.out.free 3
  have f4 : w5.frozen? ⟨w1.heap.size, 4, none⟩ = false := HD.out.free 4
  go_upto_region 5 with (fail)
  clear hac haf
  clear r0 r1 r2 r3 r4
  clear f0 f1 f2 f3 f4
  have hsz : (((((w5.setCell ⟨w1.heap.size, 0, none⟩ (.slice a5 db.S.length c5)).setCell ⟨w1.heap.size, 1, none⟩ (.slice a6 db.P.length c6)).setCell ⟨w1.heap.size, 2, none⟩ (.int .i64 db.fuse)).setCell ⟨w1.heap.size, 3, none⟩ (.int .i64 db.ops)).setCell ⟨w1.heap.size, 4, none⟩ (.bool db.dead)).heap.size = w5.heap.size := by simp
  have hJ := Bx.new (((((w5.setCell ⟨w1.heap.size, 0, none⟩ (.slice a5 db.S.length c5)).setCell ⟨w1.heap.size, 1, none⟩ (.slice a6 db.P.length c6)).setCell ⟨w1.heap.size, 2, none⟩ (.int .i64 db.fuse)).setCell ⟨w1.heap.size, 3, none⟩ (.int .i64 db.ops)).setCell ⟨w1.heap.size, 4, none⟩ (.bool db.dead)) #[.int .i64 1, .int .i64 0, .int .i64 0, .int .i64 0, .int .i64 0, .int .i64 1, .int .i64 1] 57
  rw [hsz] at hJ
  have hal := (Below.refl (((((w5.setCell ⟨w1.heap.size, 0, none⟩ (.slice a5 db.S.length c5)).setCell ⟨w1.heap.size, 1, none⟩ (.slice a6 db.P.length c6)).setCell ⟨w1.heap.size, 2, none⟩ (.int .i64 db.fuse)).setCell ⟨w1.heap.size, 3, none⟩ (.int .i64 db.ops)).setCell ⟨w1.heap.size, 4, none⟩ (.bool db.dead)).heap.size (((((w5.setCell ⟨w1.heap.size, 0, none⟩ (.slice a5 db.S.length c5)).setCell ⟨w1.heap.size, 1, none⟩ (.slice a6 db.P.length c6)).setCell ⟨w1.heap.size, 2, none⟩ (.int .i64 db.fuse)).setCell ⟨w1.heap.size, 3, none⟩ (.int .i64 db.ops)).setCell ⟨w1.heap.size, 4, none⟩ (.bool db.dead))).alloc (Nat.le_refl _) (.cells #[.int .i64 1, .int .i64 0, .int .i64 0, .int .i64 0, .int .i64 0, .int .i64 1, .int .i64 1] 57)
  have HT := Lib.hid ((HT.out.sets_box HD.out (.slice a5 db.S.length c5) (.slice a6 db.P.length c6) (.int .i64 db.fuse) (.int .i64 db.ops) (.bool db.dead)).below hal); have HB := Lib.hid ((below_sets HB.out w1.heap.size (by omega) (.slice a5 db.S.length c5) (.slice a6 db.P.length c6) (.int .i64 db.fuse) (.int .i64 db.ops) (.bool db.dead)).alloc (by rw [hsz]; omega) (.cells #[.int .i64 1, .int .i64 0, .int .i64 0, .int .i64 0, .int .i64 0, .int .i64 1, .int .i64 1] 57))
  have HJ := Lib.hid ((HJ.out.sets_ne (c := w1.heap.size) (by omega) (.slice a5 db.S.length c5) (.slice a6 db.P.length c6) (.int .i64 db.fuse) (.int .i64 db.ops) (.bool db.dead)).call hal)
  have HD := Lib.hid ((HD.out.sets (.slice a5 db.S.length c5) (.slice a6 db.P.length c6) (.int .i64 db.fuse) (.int .i64 db.ops) (.bool db.dead)).call hal); have HJ2 := Lib.hid hJ; clear hJ hal hsz
  generalize hW : (((((w5.setCell ⟨w1.heap.size, 0, none⟩ (.slice a5 db.S.length c5)).setCell ⟨w1.heap.size, 1, none⟩ (.slice a6 db.P.length c6)).setCell ⟨w1.heap.size, 2, none⟩ (.int .i64 db.fuse)).setCell ⟨w1.heap.size, 3, none⟩ (.int .i64 db.ops)).setCell ⟨w1.heap.size, 4, none⟩ (.bool db.dead)).alloc (.cells #[.int .i64 1, .int .i64 0, .int .i64 0, .int .i64 0, .int .i64 0, .int .i64 1, .int .i64 1] 57) = v6 at HD HT HB HJ2 HJ ⊢
  clear hW
  have zHJ2 := HJ2.out.lt
  have x0 : v6.cell? ⟨w1.heap.size, 0, none⟩ = some (.slice a5 db.S.length c5) := HD.out.cell 0
  have x1 : v6.cell? ⟨w1.heap.size, 1, none⟩ = some (.slice a6 db.P.length c6) := HD.out.cell 1
  have x2 : v6.cell? ⟨w1.heap.size, 2, none⟩ = some (.int .i64 db.fuse) := HD.out.cell 2
  have x3 : v6.cell? ⟨w1.heap.size, 3, none⟩ = some (.int .i64 db.ops) := HD.out.cell 3
  have x4 : v6.cell? ⟨w1.heap.size, 4, none⟩ = some (.bool db.dead) := HD.out.cell 4
  go_wp2_with fail
  refine (openW_use _ _ _ _ db dc _ _ _ _ _ HT.out (by omega) E5.out (by omega) (by omega)).mono ?_
  simp only [jnV]
  rintro er w7 ⟨a7, c7, a8, c8, lb, ld, rfl, hL7, hS7, hb1⟩
  clear x0 x1 x2 x3 x4
  have HJ := Lib.hid (HJ.out.call hb1); have HB := Lib.hid (btrans HB.out HB.out.size hb1); have HS := Lib.hid hS7; have zJ7 := HJ.out.lt; clear hb1 hL7 hS7
  have hal := ((Below.refl w7.heap.size w7).alloc (Nat.le_refl _) (.cells #[.slice a7 dc.S.length c7, .slice a8 dc.P.length c8, .int .i64 dc.fuse, .int .i64 dc.ops, .bool dc.dead] 38)).alloc (by simp) (.cells #[.int .i64 2, .int .i64 0, .int .i64 0, .int .i64 0, .int .i64 0, .int .i64 1, .int .i64 1] 57)
  have HJ := Lib.hid (HJ.out.call hal); have HJ3 := Lib.hid (Bx.new1 w7 (.cells #[.slice a7 dc.S.length c7, .slice a8 dc.P.length c8, .int .i64 dc.fuse, .int .i64 dc.ops, .bool dc.dead] 38) #[.int .i64 2, .int .i64 0, .int .i64 0, .int .i64 0, .int .i64 0, .int .i64 1, .int .i64 1] 57); have HS := Lib.hid (HS.out.below hal); have HB := Lib.hid (btrans HB.out HB.out.size hal); clear hal
  go_upto_region 6 with (fail)
  generalize hW : (w7.alloc (.cells #[.slice a7 dc.S.length c7, .slice a8 dc.P.length c8, .int .i64 dc.fuse, .int .i64 dc.ops, .bool dc.dead] 38)).alloc (.cells #[.int .i64 2, .int .i64 0, .int .i64 0, .int .i64 0, .int .i64 0, .int .i64 1, .int .i64 1] 57) = v8 at HJ HJ3 HS HB ⊢
  clear hW
  have y0 : v8.cell? ⟨w3.heap.size, 0, none⟩ = some (.int .i64 1) := HJ.out.cell 0
  have y1 : v8.cell? ⟨w3.heap.size, 1, none⟩ = some (.int .i64 0) := HJ.out.cell 1
  have y2 : v8.cell? ⟨w3.heap.size, 2, none⟩ = some (.int .i64 0) := HJ.out.cell 2
  have y3 : v8.cell? ⟨w3.heap.size, 3, none⟩ = some (.int .i64 0) := HJ.out.cell 3
  have y4 : v8.cell? ⟨w3.heap.size, 4, none⟩ = some (.int .i64 0) := HJ.out.cell 4
  have y5 : v8.cell? ⟨w3.heap.size, 5, none⟩ = some (.int .i64 0) := HJ.out.cell 5
  have y6 : v8.cell? ⟨w3.heap.size, 6, none⟩ = some (.int .i64 0) := HJ.out.cell 6
  have z0 : v8.cell? ⟨(w7.heap.size + 1), 0, none⟩ = some (.int .i64 2) := HJ3.out.cell 0
  have z1 : v8.cell? ⟨(w7.heap.size + 1), 1, none⟩ = some (.int .i64 0) := HJ3.out.cell 1
  have z2 : v8.cell? ⟨(w7.heap.size + 1), 2, none⟩ = some (.int .i64 0) := HJ3.out.cell 2
  have z3 : v8.cell? ⟨(w7.heap.size + 1), 3, none⟩ = some (.int .i64 0) := HJ3.out.cell 3
  have z4 : v8.cell? ⟨(w7.heap.size + 1), 4, none⟩ = some (.int .i64 0) := HJ3.out.cell 4
  have z5 : v8.cell? ⟨(w7.heap.size + 1), 5, none⟩ = some (.int .i64 1) := HJ3.out.cell 5
  have z6 : v8.cell? ⟨(w7.heap.size + 1), 6, none⟩ = some (.int .i64 1) := HJ3.out.cell 6
  have hal := (Below.refl v8.heap.size v8).alloc (Nat.le_refl _) (.cells #[.string (bs A)] 9)
  have HS := Lib.hid (HS.out.below hal); have HST := Lib.hid (str_one v8 A); have HJ3 := Lib.hid (HJ3.out.call hal); have HB := Lib.hid (btrans HB.out HB.out.size hal); clear hal
  go_wp2_with fail
  rw [EA.out]
  refine (same_any _ _ [A] [A] _ HS.out HST.out (by simp) (by simp)).mono ?_
  rw [show decide ([A] = [A]) = true by simp]
  rintro er w9 ⟨rfl, hb1⟩
  clear y0 y1 y2 y3 y4 y5 y6
  clear z0 z1 z2 z3 z4 z5 z6
  have HJ3 := Lib.hid (HJ3.out.call hb1); have HB := Lib.hid (btrans HB.out HB.out.size hb1); clear hb1 HS HST
  have z0 : w9.cell? ⟨(w7.heap.size + 1), 0, none⟩ = some (.int .i64 2) := HJ3.out.cell 0
  have z1 : w9.cell? ⟨(w7.heap.size + 1), 1, none⟩ = some (.int .i64 0) := HJ3.out.cell 1
  have z2 : w9.cell? ⟨(w7.heap.size + 1), 2, none⟩ = some (.int .i64 0) := HJ3.out.cell 2
  have z3 : w9.cell? ⟨(w7.heap.size + 1), 3, none⟩ = some (.int .i64 0) := HJ3.out.cell 3
  have z4 : w9.cell? ⟨(w7.heap.size + 1), 4, none⟩ = some (.int .i64 0) := HJ3.out.cell 4
  have z5 : w9.cell? ⟨(w7.heap.size + 1), 5, none⟩ = some (.int .i64 1) := HJ3.out.cell 5
  have z6 : w9.cell? ⟨(w7.heap.size + 1), 6, none⟩ = some (.int .i64 1) := HJ3.out.cell 6
  go_wp2_with fail
  go_ret
  exact ⟨rfl, HB.out⟩
end Go.Proofs.Ytkpfkknldeafkaa

namespace Go.Proofs.Ytkpfkknldeafkaa
open Go.ChangeShapes Go.WideShapes Go.ChangeAt Go.RowKit

section
variable {H : Type} {enc : TypeId × Value → H} {W : World} {base : Nat} {spare : Nat → Bool} {held : Bool}
end
end Go.Proofs.Ytkpfkknldeafkaa
namespace Go.Proofs.Ytkpfkknldeafkaa
open Go.RowKit

/-- the image's sectors are written, then the superblock -/
def resQ (SL : List (List UInt8)) (d : Dk) (st : Int) (x : Sp) : Dk × Int := if (wrF SL d st).2 = 0 then storeS (wrF SL d st).1 x else wrF SL d st
theorem store_len3 (d : Dk) (x : Sp) : (storeS d x).1.S.length = d.S.length ∧ (storeS d x).1.P.length ≤ d.P.length + 1 := by
  have h1 := write_len d (x.g % 2) (encS x).1
  have h2 := sync_len (writeS d (x.g % 2) (encS x).1).1
  unfold storeS
  split
  · exact ⟨rfl, Nat.le_succ _⟩
  · split
    · exact h1
    · omega

set_option maxRecDepth 100000 in
set_option maxHeartbeats 16000000 in
theorem res1_any (vb gb ab nb lb xb wb : Nat) (sa pa : Option Addr) (sc pc : Nat) (d : Dk) (x : Sp) (g ar a : Int) (l : List UInt8) (SL : List (List UInt8)) (w : World) (hV : Bx vb #[.pointer (some ⟨wb, 0, none⟩)] 114 w) (hG : Bx gb #[.int .i64 g] 2 w) (hA : Bx ab #[.int .i64 ar] 3 w) (hN : Bx nb #[.int .i64 a] 3 w) (hL : Bx lb #[.string (bs l)] 9 w) (hX : Bx xb #[.int .i64 x.g, .int .i64 x.e, .int .i64 x.a, .int .i64 x.z, .int .i64 x.p] 23 w) (hW : Bx wb #[.slice sa d.S.length sc, .slice pa d.P.length pc, .int .i64 d.fuse, .int .i64 d.ops, .bool d.dead] 116 w) (hD : Lists w sa sc pa pc d) (hl : l.length ≤ 1000000000000000) (hsp : splitS g l = (SL, 0)) (a0 : 1 ≤ ar) (a1 : ar ≤ 2) (n0 : 0 ≤ a) (n1 : a ≤ 10000) (hp : d.P.length ≤ 8000000000000) (hvw : vb ≠ wb) (hxw : xb ≠ wb) :
    Calls Try.prog 86 #[.pointer (some ⟨vb, 0, none⟩), .pointer (some ⟨gb, 0, none⟩), .pointer (some ⟨ab, 0, none⟩), .pointer (some ⟨nb, 0, none⟩), .pointer (some ⟨lb, 0, none⟩), .pointer (some ⟨xb, 0, none⟩)] w (RecPost wb (resQ SL d (2 + (ar - 1) * a) x) w) := by
  have v0 : w.cell? ⟨vb, 0, none⟩ = some (.pointer (some ⟨wb, 0, none⟩)) := hV.cell 0
  have g0 : w.cell? ⟨gb, 0, none⟩ = some (.int .i64 g) := hG.cell 0
  have r0 : w.cell? ⟨ab, 0, none⟩ = some (.int .i64 ar) := hA.cell 0
  have n00 : w.cell? ⟨nb, 0, none⟩ = some (.int .i64 a) := hN.cell 0
  have l0 : w.cell? ⟨lb, 0, none⟩ = some (.string (bs l)) := hL.cell 0
  have hmul : (ar - 1) * a = 0 ∨ (ar - 1) * a = a := by
    rcases (show ar = 1 ∨ ar = 2 by omega) with h | h <;> rw [h]
    · left; omega
    · right; omega
  have hw1 : IntKind.i64.wrap (ar - 1) = ar - 1 := by rw [IntKind.wrap_i64]; omega
  have hw2 : IntKind.i64.wrap ((ar - 1) * a) = (ar - 1) * a := by rw [IntKind.wrap_i64]; omega
  have hw3 : IntKind.i64.wrap (2 + (ar - 1) * a) = 2 + (ar - 1) * a := by rw [IntKind.wrap_i64]; omega
  have hst : 0 ≤ 2 + (ar - 1) * a ∧ 2 + (ar - 1) * a ≤ 1000000 := by omega
  have HST := Lib.hid hst; clear hst hmul
  obtain ⟨⟨d1, e1⟩, hr⟩ : ∃ r, wrF SL d (2 + (ar - 1) * a) = r := ⟨_, rfl⟩
  have hlen := wrF_len SL d (2 + (ar - 1) * a)
  have hsl := split_len g l
  rw [hsp] at hsl
  rw [hr] at hlen
  simp only at hsl hlen
  have hp1 : d1.P.length ≤ 8999999999999 := by omega
  obtain ⟨_, _, _, hszS⟩ := id hD
  have HRR := Lib.hid hr; have HW := Lib.hid hW; have HD := Lib.hid hD; have HSP := Lib.hid hsp; have HX := Lib.hid hX; have HV := Lib.hid hV; clear hr hW hD hsp hX hV hG hA hN hL hlen hsl
  go_enter Try.func86, Try.ntmps86
  go_wp2_with fail
  refine (record_any wb sa pa sc pc d g (2 + (ar - 1) * a) l SL (d1, e1) w HW.out HD.out hl HSP.out HRR.out HST.out.1 HST.out.2 hp).mono ?_
  rintro E w1 ⟨b1, c1, b2, c2, hE, h1, h2, h3⟩
  by_cases he : e1 = 0
  rotate_left
  · have hE2 : E = .panicked [failE e1] := by rw [hE]; exact recE_no he
    subst hE2
    have hq : resQ SL d (2 + (ar - 1) * a) x = (d1, e1) := by unfold resQ; rw [HRR.out]; simp only; rw [if_neg he]
    rw [hq]
    exact ⟨rfl, b1, c1, b2, c2, (recE_no he).symm, h1, h2, h3⟩
  subst he
  have hE2 : E = .returned (.tuple #[]) := by rw [hE]; exact recE_ok
  subst hE2
  clear hE
  obtain ⟨⟨d2, e2⟩, hs2⟩ : ∃ r, storeS d1 x = r := ⟨_, rfl⟩
  have hq : resQ SL d (2 + (ar - 1) * a) x = (d2, e2) := by unfold resQ; rw [HRR.out]; simp only; rw [if_pos trivial]; exact hs2
  have HQ := Lib.hid hq; have hsl2 := store_len3 d1 x
  rw [hs2] at hsl2
  simp only at hsl2
  have HS2 := Lib.hid hs2; have HLN := Lib.hid hsl2; clear hs2 hsl2 hq
  have HV1 := Lib.hid (h3.bx HV.out hvw); have HX1 := Lib.hid (h3.bx HX.out hxw); have HW1 := Lib.hid h1; have HD1 := Lib.hid h2; have HK1 := Lib.hid h3; clear h1 h2 h3 HV HX HW HD v0 g0 r0 n00 l0
  have hs0 : Bx vb #[.pointer (some ⟨wb, 0, none⟩)] 114 w1.drew ∧ Bx xb #[.int .i64 x.g, .int .i64 x.e, .int .i64 x.a, .int .i64 x.z, .int .i64 x.p] 23 w1.drew := ⟨HV1.out, HX1.out⟩
  have HS0 := Lib.hid hs0; clear hs0
  go_wp2_with fail
  refine wp_region_held_drew (S := (fun w' => Bx vb #[.pointer (some ⟨wb, 0, none⟩)] 114 w' ∧ Bx xb #[.int .i64 x.g, .int .i64 x.e, .int .i64 x.a, .int .i64 x.z, .int .i64 x.p] 23 w')) (by kernel_rfl) ?_ (fun hHeld => ?_)
  · exact HS0.out
  refine takeH (i := 0) (v := ?vv25) 15 rfl rfl (by kernel_rfl) (by kernel_rfl) (by kernel_rfl) (fun _ _ _ h => h) (Or.inl ⟨by kernel_rfl, ?yy25⟩) (by assumption) ?_
  case yy25 =>
    intro wq hSw
    have c0_0 : wq.cell? ⟨vb, 0, none⟩ = some (.pointer (some ⟨wb, 0, none⟩)) := (hSw.1).cell 0
    clear hSw
    go_simp
    (try with_reducible rfl)
  simp only [List.setIfInBounds_toArray, List.set_cons_zero, List.set_cons_succ]
  refine takeH (i := 1) (v := ?vv26) 16 rfl rfl (by kernel_rfl) (by kernel_rfl) (by kernel_rfl) (fun _ _ _ h => h) (Or.inl ⟨by kernel_rfl, ?yy26⟩) (by assumption) ?_
  case yy26 =>
    intro wq hSw
    have c0_0 : wq.cell? ⟨vb, 0, none⟩ = some (.pointer (some ⟨wb, 0, none⟩)) := (hSw.1).cell 0
    clear hSw
    go_simp
    (try with_reducible rfl)
  simp only [List.setIfInBounds_toArray, List.set_cons_zero, List.set_cons_succ]
  refine takeH (i := 2) (v := ?vv27) 17 rfl rfl (by kernel_rfl) (by kernel_rfl) (by kernel_rfl) (fun _ _ _ h => h) (Or.inl ⟨by kernel_rfl, ?yy27⟩) (by assumption) ?_
  case yy27 => intro w hSw; (try dsimp only at hSw); go_simp; (try with_reducible rfl)
  simp only [List.setIfInBounds_toArray, List.set_cons_zero, List.set_cons_succ]
  refine takeH (i := 3) (v := ?vv28) 18 rfl rfl (by kernel_rfl) (by kernel_rfl) (by kernel_rfl) (fun _ _ _ h => h) (Or.inl ⟨by kernel_rfl, ?yy28⟩) (by assumption) ?_
  case yy28 => intro w hSw; (try dsimp only at hSw); go_simp; (try with_reducible rfl)
  simp only [List.setIfInBounds_toArray, List.set_cons_zero, List.set_cons_succ]
  refine takeH (i := 5) (v := ?vv29) 20 rfl rfl (by kernel_rfl) (by kernel_rfl) (by kernel_rfl) (fun _ _ _ h => h) (Or.inl ⟨by kernel_rfl, ?yy29⟩) (by assumption) ?_
  case yy29 =>
    intro wq hSw
    have c1_0 : wq.cell? ⟨xb, 0, none⟩ = some (.int .i64 x.g) := (hSw.2).cell 0
    have c1_1 : wq.cell? ⟨xb, 1, none⟩ = some (.int .i64 x.e) := (hSw.2).cell 1
    have c1_2 : wq.cell? ⟨xb, 2, none⟩ = some (.int .i64 x.a) := (hSw.2).cell 2
    have c1_3 : wq.cell? ⟨xb, 3, none⟩ = some (.int .i64 x.z) := (hSw.2).cell 3
    have c1_4 : wq.cell? ⟨xb, 4, none⟩ = some (.int .i64 x.p) := (hSw.2).cell 4
    clear hSw
    go_simp
    (try with_reducible rfl)
  simp only [List.setIfInBounds_toArray, List.set_cons_zero, List.set_cons_succ]
  refine wpAnyH_ready (rs := [4]) (by kernel_rfl) (by simp) ?_
  refine (AllReadyH.cons rfl (fun K hK => ?_) AllReadyH.nil)
  have x0 : w1.cell? ⟨wb, 0, none⟩ = some (.slice b1 d1.S.length c1) := HW1.out.cell 0
  have x1 : w1.cell? ⟨wb, 1, none⟩ = some (.slice b2 d1.P.length c2) := HW1.out.cell 1
  have x2 : w1.cell? ⟨wb, 2, none⟩ = some (.int .i64 d1.fuse) := HW1.out.cell 2
  have x3 : w1.cell? ⟨wb, 3, none⟩ = some (.int .i64 d1.ops) := HW1.out.cell 3
  have x4 : w1.cell? ⟨wb, 4, none⟩ = some (.bool d1.dead) := HW1.out.cell 4
  go_simp
  refine hK.out _ _ ?_ (fun hHeld => ?_)
  · exact (by assumption)
  clear hK K
  (try simp only [Act.put, List.setIfInBounds_toArray, List.set_cons_zero, List.set_cons_succ])
  clear x0 x1 x2 x3 x4
  refine wpAnyH_ready (rs := [6]) (by kernel_rfl) (by simp) ?_
  refine (AllReadyH.cons rfl (fun K hK => ?_) AllReadyH.nil)
  go_simp
  (refine (SStore_any _ _ _ _ d1 x _ (HD1.out.below (Below.refl w1.heap.size w1).drew) hp1).mono ?_; rw [HS2.out]; rintro er w2 ⟨a3, c3, a4, c4, rfl, hO2, hb2⟩)
  (try go_wp2_with fail)
  refine hK.out _ _ ?_ (fun hHeld => ?_)
  · exact ⟨hHeld.1.call hb2, hHeld.2.call hb2⟩
  clear hK K
  (try simp only [Act.put, List.setIfInBounds_toArray, List.set_cons_zero, List.set_cons_succ])
  have zb1 := HW1.out.lt
  have hW2 : Bx wb #[.slice b1 d1.S.length c1, .slice b2 d1.P.length c2, .int .i64 d1.fuse, .int .i64 d1.ops, .bool d1.dead] 116 w2 := (show Bx wb #[.slice b1 d1.S.length c1, .slice b2 d1.P.length c2, .int .i64 d1.fuse, .int .i64 d1.ops, .bool d1.dead] 116 w1.drew from HW1.out).call hb2
  have hK2 : KpB wb w1 w2 := KpB.of_call (b := wb) (btrans (Below.refl w1.heap.size w1).drew (Nat.le_refl _) hb2) (Nat.le_of_lt zb1)
  have hL2 : Lists w2 a3 c3 a4 c4 d2 := hO2.lists (d := d2) (by have := HLN.out; omega) (by have := HLN.out; have := wrF_len SL d (2 + (ar - 1) * a); rw [HRR.out] at this; simp only at this; omega)
  have HW2 := Lib.hid hW2; have HK2 := Lib.hid hK2; have HL2 := Lib.hid hL2; clear hW2 hK2 hL2 hO2
  refine takeH (i := 7) (v := ?vv30) 22 rfl rfl (by kernel_rfl) (by kernel_rfl) (by kernel_rfl) (fun _ _ _ h => h) (Or.inl ⟨by kernel_rfl, ?yy30⟩) (by assumption) ?_
  case yy30 => intro w hSw; (try dsimp only at hSw); go_simp; (try with_reducible rfl)
  simp only [List.setIfInBounds_toArray, List.set_cons_zero, List.set_cons_succ]
  refine takeH (i := 8) (v := ?vv31) 23 rfl rfl (by kernel_rfl) (by kernel_rfl) (by kernel_rfl) (fun _ _ _ h => h) (Or.inl ⟨by kernel_rfl, ?yy31⟩) (by assumption) ?_
  case yy31 => intro w hSw; (try dsimp only at hSw); go_simp; (try with_reducible rfl)
  simp only [List.setIfInBounds_toArray, List.set_cons_zero, List.set_cons_succ]
  refine wpAnyH_ready (rs := [9]) (by kernel_rfl) (by simp) ?_
  refine (AllReadyH.cons rfl (fun K hK => ?_) AllReadyH.nil)
  by_cases he2 : e2 = 0
  rotate_left
  · go_simp
    refine (done_no wb _ _ _ _ _ a3 a4 c3 c4 d2 e2 he2 _ HW2.out).mono ?_
    rintro er w3 ⟨rfl, hW3, hK3⟩
    rw [HQ.out]
    exact ⟨rfl, a3, c3, a4, c4, (recE_no he2).symm, hW3, hK3.lists HL2.out HW2.out, (HK1.out.trans HK2.out).trans hK3⟩
  subst he2
  go_simp
  refine (done_ok wb _ _ _ _ _ a3 a4 c3 c4 d2 _ HW2.out).mono ?_
  rintro er w3 ⟨rfl, hW3, hK3⟩
  have HW3 := Lib.hid hW3; have HK3 := Lib.hid hK3; have HL3 := Lib.hid (hK3.lists HL2.out HW2.out)
  (try go_wp2_with fail)
  refine hK.out _ _ ?_ (fun hHeld2 => ?_)
  · exact ⟨hK3.bx hHeld.1 hvw, hK3.bx hHeld.2 hxw⟩
  clear hK K hW3 hK3
  (try simp only [Act.put, List.setIfInBounds_toArray, List.set_cons_zero, List.set_cons_succ])
  refine wpAnyH_done (by kernel_rfl) ?_ _
  go_wp2
  rw [HQ.out]
  go_end0
  exact ⟨a3, c3, a4, c4, recE_ok.symm, HW3.out, HL3.out, (HK1.out.trans HK2.out).trans HK3.out⟩
end Go.Proofs.Ytkpfkknldeafkaa
namespace Go.Proofs.Ytkpfkknldeafkaa
open Go.RowKit

theorem resE_arg {d : Dk} {j : Jn} {l : List UInt8} {p : Int} (h : resArg d j l p = false) : resW d j l p = (d, j0, 1) := by
  have h1 : resE d j l p = 1 := by unfold resE; rw [if_neg (by rw [h]; simp)]
  unfold resW; rw [h1, if_neg (by decide)]
theorem resE_lim {d : Dk} {j : Jn} {l : List UInt8} {p : Int} (h : resArg d j l p = true) (h2 : 16384 < l.length ∨ j.x.g = 1099511627776) : resW d j l p = (d, j0, 2) := by
  have h1 : resE d j l p = 2 := by unfold resE; rw [if_pos h, if_pos h2]
  unfold resW; rw [h1, if_neg (by decide)]
theorem resE_split {d : Dk} {j : Jn} {l : List UInt8} {p e : Int} {SL : List (List UInt8)} (h : resArg d j l p = true) (h2 : ¬ (16384 < l.length ∨ j.x.g = 1099511627776)) (hs : splitS (j.x.g + 1) l = (SL, e)) (he : e ≠ 0) : resW d j l p = (d, j0, e) := by
  have h1 : resE d j l p = e := by unfold resE; rw [if_pos h, if_neg h2, hs]; simp only; rw [if_neg he]
  unfold resW; rw [h1, if_neg he]
theorem resE_full {d : Dk} {j : Jn} {l : List UInt8} {p : Int} {SL : List (List UInt8)} (h : resArg d j l p = true) (h2 : ¬ (16384 < l.length ∨ j.x.g = 1099511627776)) (hs : splitS (j.x.g + 1) l = (SL, 0)) (hf : arN d < SL.length) : resW d j l p = (d, j0, 17) := by
  have h1 : resE d j l p = 17 := by unfold resE; rw [if_pos h, if_neg h2, hs]; simp only; rw [if_pos trivial, if_pos hf]
  unfold resW; rw [h1, if_neg (by decide)]
theorem resE_go {d : Dk} {j : Jn} {l : List UInt8} {p : Int} {SL : List (List UInt8)} (h : resArg d j l p = true) (h2 : ¬ (16384 < l.length ∨ j.x.g = 1099511627776)) (hs : splitS (j.x.g + 1) l = (SL, 0)) (hf : ¬ arN d < SL.length) {nd : Dk} {e : Int} (hq : resQ SL d (2 + (otherA j.x - 1) * (arN d : Int)) (resX j l p) = (nd, e)) :
    resW d j l p = if e = 0 then (nd, ⟨resX j l p, 0, 0⟩, 0) else (nd, j0, e) := by
  have h1 : resE d j l p = 0 := by unfold resE; rw [if_pos h, if_neg h2, hs]; simp only; rw [if_pos trivial, if_neg hf]
  have h3 : resD d j l p SL = (nd, e) := hq
  unfold resW; rw [h1, if_pos rfl, hs]; simp only; rw [h3]
theorem resArg_iff (d : Dk) (j : Jn) (l : List UInt8) (p : Int) : resArg d j l p = true ↔ validB d = true ∧ jB d j = true ∧ l ≠ [] ∧ 0 ≤ p ∧ p ≤ 1099511627776 := by
  unfold resArg; simp only [Bool.and_eq_true, decide_eq_true_eq]
theorem resArg_no {d : Dk} {j : Jn} {l : List UInt8} {p : Int} (h : ¬ (validB d = true ∧ jB d j = true ∧ l ≠ [] ∧ 0 ≤ p ∧ p ≤ 1099511627776)) : resArg d j l p = false := by
  rw [Bool.eq_false_iff]; intro h2; exact h ((resArg_iff d j l p).1 h2)

theorem wc_xxxxxyyyyyz_5 {W : World} {x y z i0 i1 i2 i3 i4 i5 i6 i7 i8 i9 i10 : Nat} {u0 u1 u2 u3 u4 u5 u6 u7 u8 u9 u10 : Value} (h : W.drew.cell? ⟨x, i0, none⟩ = some u0 ∧ W.drew.cell? ⟨x, i1, none⟩ = some u1 ∧ W.drew.cell? ⟨x, i2, none⟩ = some u2 ∧ W.drew.cell? ⟨x, i3, none⟩ = some u3 ∧ W.drew.cell? ⟨x, i4, none⟩ = some u4 ∧ W.drew.cell? ⟨y, i5, none⟩ = some u5 ∧ W.drew.cell? ⟨y, i6, none⟩ = some u6 ∧ W.drew.cell? ⟨y, i7, none⟩ = some u7 ∧ W.drew.cell? ⟨y, i8, none⟩ = some u8 ∧ W.drew.cell? ⟨y, i9, none⟩ = some u9 ∧ W.drew.cell? ⟨z, i10, none⟩ = some u10) (b : Nat) (h_x : b ≠ x) (h_y : b ≠ y) (h_z : b ≠ z) (v0 v1 v2 v3 v4 : Value) :
    (((((W.setCell ⟨b, 0, none⟩ v0).setCell ⟨b, 1, none⟩ v1).setCell ⟨b, 2, none⟩ v2).setCell ⟨b, 3, none⟩ v3).setCell ⟨b, 4, none⟩ v4).drew.cell? ⟨x, i0, none⟩ = some u0 ∧ (((((W.setCell ⟨b, 0, none⟩ v0).setCell ⟨b, 1, none⟩ v1).setCell ⟨b, 2, none⟩ v2).setCell ⟨b, 3, none⟩ v3).setCell ⟨b, 4, none⟩ v4).drew.cell? ⟨x, i1, none⟩ = some u1 ∧ (((((W.setCell ⟨b, 0, none⟩ v0).setCell ⟨b, 1, none⟩ v1).setCell ⟨b, 2, none⟩ v2).setCell ⟨b, 3, none⟩ v3).setCell ⟨b, 4, none⟩ v4).drew.cell? ⟨x, i2, none⟩ = some u2 ∧ (((((W.setCell ⟨b, 0, none⟩ v0).setCell ⟨b, 1, none⟩ v1).setCell ⟨b, 2, none⟩ v2).setCell ⟨b, 3, none⟩ v3).setCell ⟨b, 4, none⟩ v4).drew.cell? ⟨x, i3, none⟩ = some u3 ∧ (((((W.setCell ⟨b, 0, none⟩ v0).setCell ⟨b, 1, none⟩ v1).setCell ⟨b, 2, none⟩ v2).setCell ⟨b, 3, none⟩ v3).setCell ⟨b, 4, none⟩ v4).drew.cell? ⟨x, i4, none⟩ = some u4 ∧ (((((W.setCell ⟨b, 0, none⟩ v0).setCell ⟨b, 1, none⟩ v1).setCell ⟨b, 2, none⟩ v2).setCell ⟨b, 3, none⟩ v3).setCell ⟨b, 4, none⟩ v4).drew.cell? ⟨y, i5, none⟩ = some u5 ∧ (((((W.setCell ⟨b, 0, none⟩ v0).setCell ⟨b, 1, none⟩ v1).setCell ⟨b, 2, none⟩ v2).setCell ⟨b, 3, none⟩ v3).setCell ⟨b, 4, none⟩ v4).drew.cell? ⟨y, i6, none⟩ = some u6 ∧ (((((W.setCell ⟨b, 0, none⟩ v0).setCell ⟨b, 1, none⟩ v1).setCell ⟨b, 2, none⟩ v2).setCell ⟨b, 3, none⟩ v3).setCell ⟨b, 4, none⟩ v4).drew.cell? ⟨y, i7, none⟩ = some u7 ∧ (((((W.setCell ⟨b, 0, none⟩ v0).setCell ⟨b, 1, none⟩ v1).setCell ⟨b, 2, none⟩ v2).setCell ⟨b, 3, none⟩ v3).setCell ⟨b, 4, none⟩ v4).drew.cell? ⟨y, i8, none⟩ = some u8 ∧ (((((W.setCell ⟨b, 0, none⟩ v0).setCell ⟨b, 1, none⟩ v1).setCell ⟨b, 2, none⟩ v2).setCell ⟨b, 3, none⟩ v3).setCell ⟨b, 4, none⟩ v4).drew.cell? ⟨y, i9, none⟩ = some u9 ∧ (((((W.setCell ⟨b, 0, none⟩ v0).setCell ⟨b, 1, none⟩ v1).setCell ⟨b, 2, none⟩ v2).setCell ⟨b, 3, none⟩ v3).setCell ⟨b, 4, none⟩ v4).drew.cell? ⟨z, i10, none⟩ = some u10 := by
  obtain ⟨h0, h1, h2, h3, h4, h5, h6, h7, h8, h9, h10⟩ := h
  exact ⟨drew_cell (cell1_set _ h_x (cell1_set _ h_x (cell1_set _ h_x (cell1_set _ h_x (cell1_set _ h_x (cell_drew h0)))))), drew_cell (cell1_set _ h_x (cell1_set _ h_x (cell1_set _ h_x (cell1_set _ h_x (cell1_set _ h_x (cell_drew h1)))))), drew_cell (cell1_set _ h_x (cell1_set _ h_x (cell1_set _ h_x (cell1_set _ h_x (cell1_set _ h_x (cell_drew h2)))))), drew_cell (cell1_set _ h_x (cell1_set _ h_x (cell1_set _ h_x (cell1_set _ h_x (cell1_set _ h_x (cell_drew h3)))))), drew_cell (cell1_set _ h_x (cell1_set _ h_x (cell1_set _ h_x (cell1_set _ h_x (cell1_set _ h_x (cell_drew h4)))))), drew_cell (cell1_set _ h_y (cell1_set _ h_y (cell1_set _ h_y (cell1_set _ h_y (cell1_set _ h_y (cell_drew h5)))))), drew_cell (cell1_set _ h_y (cell1_set _ h_y (cell1_set _ h_y (cell1_set _ h_y (cell1_set _ h_y (cell_drew h6)))))), drew_cell (cell1_set _ h_y (cell1_set _ h_y (cell1_set _ h_y (cell1_set _ h_y (cell1_set _ h_y (cell_drew h7)))))), drew_cell (cell1_set _ h_y (cell1_set _ h_y (cell1_set _ h_y (cell1_set _ h_y (cell1_set _ h_y (cell_drew h8)))))), drew_cell (cell1_set _ h_y (cell1_set _ h_y (cell1_set _ h_y (cell1_set _ h_y (cell1_set _ h_y (cell_drew h9)))))), drew_cell (cell1_set _ h_z (cell1_set _ h_z (cell1_set _ h_z (cell1_set _ h_z (cell1_set _ h_z (cell_drew h10))))))⟩
theorem wc_xxxxxyyyyyz_7 {W : World} {x y z i0 i1 i2 i3 i4 i5 i6 i7 i8 i9 i10 : Nat} {u0 u1 u2 u3 u4 u5 u6 u7 u8 u9 u10 : Value} (h : W.drew.cell? ⟨x, i0, none⟩ = some u0 ∧ W.drew.cell? ⟨x, i1, none⟩ = some u1 ∧ W.drew.cell? ⟨x, i2, none⟩ = some u2 ∧ W.drew.cell? ⟨x, i3, none⟩ = some u3 ∧ W.drew.cell? ⟨x, i4, none⟩ = some u4 ∧ W.drew.cell? ⟨y, i5, none⟩ = some u5 ∧ W.drew.cell? ⟨y, i6, none⟩ = some u6 ∧ W.drew.cell? ⟨y, i7, none⟩ = some u7 ∧ W.drew.cell? ⟨y, i8, none⟩ = some u8 ∧ W.drew.cell? ⟨y, i9, none⟩ = some u9 ∧ W.drew.cell? ⟨z, i10, none⟩ = some u10) (b : Nat) (h_x : b ≠ x) (h_y : b ≠ y) (h_z : b ≠ z) (v0 v1 v2 v3 v4 v5 v6 : Value) :
    (((((((W.setCell ⟨b, 0, none⟩ v0).setCell ⟨b, 1, none⟩ v1).setCell ⟨b, 2, none⟩ v2).setCell ⟨b, 3, none⟩ v3).setCell ⟨b, 4, none⟩ v4).setCell ⟨b, 5, none⟩ v5).setCell ⟨b, 6, none⟩ v6).drew.cell? ⟨x, i0, none⟩ = some u0 ∧ (((((((W.setCell ⟨b, 0, none⟩ v0).setCell ⟨b, 1, none⟩ v1).setCell ⟨b, 2, none⟩ v2).setCell ⟨b, 3, none⟩ v3).setCell ⟨b, 4, none⟩ v4).setCell ⟨b, 5, none⟩ v5).setCell ⟨b, 6, none⟩ v6).drew.cell? ⟨x, i1, none⟩ = some u1 ∧ (((((((W.setCell ⟨b, 0, none⟩ v0).setCell ⟨b, 1, none⟩ v1).setCell ⟨b, 2, none⟩ v2).setCell ⟨b, 3, none⟩ v3).setCell ⟨b, 4, none⟩ v4).setCell ⟨b, 5, none⟩ v5).setCell ⟨b, 6, none⟩ v6).drew.cell? ⟨x, i2, none⟩ = some u2 ∧ (((((((W.setCell ⟨b, 0, none⟩ v0).setCell ⟨b, 1, none⟩ v1).setCell ⟨b, 2, none⟩ v2).setCell ⟨b, 3, none⟩ v3).setCell ⟨b, 4, none⟩ v4).setCell ⟨b, 5, none⟩ v5).setCell ⟨b, 6, none⟩ v6).drew.cell? ⟨x, i3, none⟩ = some u3 ∧ (((((((W.setCell ⟨b, 0, none⟩ v0).setCell ⟨b, 1, none⟩ v1).setCell ⟨b, 2, none⟩ v2).setCell ⟨b, 3, none⟩ v3).setCell ⟨b, 4, none⟩ v4).setCell ⟨b, 5, none⟩ v5).setCell ⟨b, 6, none⟩ v6).drew.cell? ⟨x, i4, none⟩ = some u4 ∧ (((((((W.setCell ⟨b, 0, none⟩ v0).setCell ⟨b, 1, none⟩ v1).setCell ⟨b, 2, none⟩ v2).setCell ⟨b, 3, none⟩ v3).setCell ⟨b, 4, none⟩ v4).setCell ⟨b, 5, none⟩ v5).setCell ⟨b, 6, none⟩ v6).drew.cell? ⟨y, i5, none⟩ = some u5 ∧ (((((((W.setCell ⟨b, 0, none⟩ v0).setCell ⟨b, 1, none⟩ v1).setCell ⟨b, 2, none⟩ v2).setCell ⟨b, 3, none⟩ v3).setCell ⟨b, 4, none⟩ v4).setCell ⟨b, 5, none⟩ v5).setCell ⟨b, 6, none⟩ v6).drew.cell? ⟨y, i6, none⟩ = some u6 ∧ (((((((W.setCell ⟨b, 0, none⟩ v0).setCell ⟨b, 1, none⟩ v1).setCell ⟨b, 2, none⟩ v2).setCell ⟨b, 3, none⟩ v3).setCell ⟨b, 4, none⟩ v4).setCell ⟨b, 5, none⟩ v5).setCell ⟨b, 6, none⟩ v6).drew.cell? ⟨y, i7, none⟩ = some u7 ∧ (((((((W.setCell ⟨b, 0, none⟩ v0).setCell ⟨b, 1, none⟩ v1).setCell ⟨b, 2, none⟩ v2).setCell ⟨b, 3, none⟩ v3).setCell ⟨b, 4, none⟩ v4).setCell ⟨b, 5, none⟩ v5).setCell ⟨b, 6, none⟩ v6).drew.cell? ⟨y, i8, none⟩ = some u8 ∧ (((((((W.setCell ⟨b, 0, none⟩ v0).setCell ⟨b, 1, none⟩ v1).setCell ⟨b, 2, none⟩ v2).setCell ⟨b, 3, none⟩ v3).setCell ⟨b, 4, none⟩ v4).setCell ⟨b, 5, none⟩ v5).setCell ⟨b, 6, none⟩ v6).drew.cell? ⟨y, i9, none⟩ = some u9 ∧ (((((((W.setCell ⟨b, 0, none⟩ v0).setCell ⟨b, 1, none⟩ v1).setCell ⟨b, 2, none⟩ v2).setCell ⟨b, 3, none⟩ v3).setCell ⟨b, 4, none⟩ v4).setCell ⟨b, 5, none⟩ v5).setCell ⟨b, 6, none⟩ v6).drew.cell? ⟨z, i10, none⟩ = some u10 := by
  obtain ⟨h0, h1, h2, h3, h4, h5, h6, h7, h8, h9, h10⟩ := h
  exact ⟨drew_cell (cell1_set _ h_x (cell1_set _ h_x (cell1_set _ h_x (cell1_set _ h_x (cell1_set _ h_x (cell1_set _ h_x (cell1_set _ h_x (cell_drew h0)))))))), drew_cell (cell1_set _ h_x (cell1_set _ h_x (cell1_set _ h_x (cell1_set _ h_x (cell1_set _ h_x (cell1_set _ h_x (cell1_set _ h_x (cell_drew h1)))))))), drew_cell (cell1_set _ h_x (cell1_set _ h_x (cell1_set _ h_x (cell1_set _ h_x (cell1_set _ h_x (cell1_set _ h_x (cell1_set _ h_x (cell_drew h2)))))))), drew_cell (cell1_set _ h_x (cell1_set _ h_x (cell1_set _ h_x (cell1_set _ h_x (cell1_set _ h_x (cell1_set _ h_x (cell1_set _ h_x (cell_drew h3)))))))), drew_cell (cell1_set _ h_x (cell1_set _ h_x (cell1_set _ h_x (cell1_set _ h_x (cell1_set _ h_x (cell1_set _ h_x (cell1_set _ h_x (cell_drew h4)))))))), drew_cell (cell1_set _ h_y (cell1_set _ h_y (cell1_set _ h_y (cell1_set _ h_y (cell1_set _ h_y (cell1_set _ h_y (cell1_set _ h_y (cell_drew h5)))))))), drew_cell (cell1_set _ h_y (cell1_set _ h_y (cell1_set _ h_y (cell1_set _ h_y (cell1_set _ h_y (cell1_set _ h_y (cell1_set _ h_y (cell_drew h6)))))))), drew_cell (cell1_set _ h_y (cell1_set _ h_y (cell1_set _ h_y (cell1_set _ h_y (cell1_set _ h_y (cell1_set _ h_y (cell1_set _ h_y (cell_drew h7)))))))), drew_cell (cell1_set _ h_y (cell1_set _ h_y (cell1_set _ h_y (cell1_set _ h_y (cell1_set _ h_y (cell1_set _ h_y (cell1_set _ h_y (cell_drew h8)))))))), drew_cell (cell1_set _ h_y (cell1_set _ h_y (cell1_set _ h_y (cell1_set _ h_y (cell1_set _ h_y (cell1_set _ h_y (cell1_set _ h_y (cell_drew h9)))))))), drew_cell (cell1_set _ h_z (cell1_set _ h_z (cell1_set _ h_z (cell1_set _ h_z (cell1_set _ h_z (cell1_set _ h_z (cell1_set _ h_z (cell_drew h10))))))))⟩
set_option maxRecDepth 100000 in
set_option maxHeartbeats 64000000 in
theorem resW_any (sa pa : Option Addr) (sc pc : Nat) (d : Dk) (j : Jn) (l : List UInt8) (p : Int) (w : World) (hD : Lists w sa sc pa pc d) (hl : l.length ≤ 1000000000000000) (hp : d.P.length ≤ 8000000000000) :
    Calls Try.prog 45 #[.agg #[.slice sa d.S.length sc, .slice pa d.P.length pc, .int .i64 d.fuse, .int .i64 d.ops, .bool d.dead], .agg (jnV j), .string (bs l), .int .i64 p] w (APost (resW d j l p) w) := by
  obtain ⟨_, _, _, hszS⟩ := id hD
  simp only [jnV]
  have hb0 := ((((((Below.refl w.heap.size w).alloc (Nat.le_refl _) (.cells #[.slice sa d.S.length sc, .slice pa d.P.length pc, .int .i64 d.fuse, .int .i64 d.ops, .bool d.dead] 38)).alloc (by simp) (.cells #[.int .i64 j.x.g, .int .i64 j.x.e, .int .i64 j.x.a, .int .i64 j.x.z, .int .i64 j.x.p, .int .i64 j.n, .int .i64 j.r] 57)).alloc (by simp; try omega) (.cells #[.string (bs l)] 9)).alloc (by simp; try omega) (.cells #[.slice none 0 0, .slice none 0 0, .int .i64 0, .int .i64 0, .bool false] 38)).alloc (by simp; try omega) (.cells #[.int .i64 0, .int .i64 0, .int .i64 0, .int .i64 0, .int .i64 0, .int .i64 0, .int .i64 0] 57))
  have h_HX := (((((Bx.new w #[.slice sa d.S.length sc, .slice pa d.P.length pc, .int .i64 d.fuse, .int .i64 d.ops, .bool d.dead] 38).alloc (.cells #[.int .i64 j.x.g, .int .i64 j.x.e, .int .i64 j.x.a, .int .i64 j.x.z, .int .i64 j.x.p, .int .i64 j.n, .int .i64 j.r] 57)).alloc (.cells #[.string (bs l)] 9)).alloc (.cells #[.slice none 0 0, .slice none 0 0, .int .i64 0, .int .i64 0, .bool false] 38)).alloc (.cells #[.int .i64 0, .int .i64 0, .int .i64 0, .int .i64 0, .int .i64 0, .int .i64 0, .int .i64 0] 57))
  have h_HJ := ((((Bx.new (w.alloc (.cells #[.slice sa d.S.length sc, .slice pa d.P.length pc, .int .i64 d.fuse, .int .i64 d.ops, .bool d.dead] 38)) #[.int .i64 j.x.g, .int .i64 j.x.e, .int .i64 j.x.a, .int .i64 j.x.z, .int .i64 j.x.p, .int .i64 j.n, .int .i64 j.r] 57).alloc (.cells #[.string (bs l)] 9)).alloc (.cells #[.slice none 0 0, .slice none 0 0, .int .i64 0, .int .i64 0, .bool false] 38)).alloc (.cells #[.int .i64 0, .int .i64 0, .int .i64 0, .int .i64 0, .int .i64 0, .int .i64 0, .int .i64 0] 57))
  rw [show (w.alloc (.cells #[.slice sa d.S.length sc, .slice pa d.P.length pc, .int .i64 d.fuse, .int .i64 d.ops, .bool d.dead] 38)).heap.size = w.heap.size + 1 by simp] at h_HJ
  have h_HL := (((Bx.new ((w.alloc (.cells #[.slice sa d.S.length sc, .slice pa d.P.length pc, .int .i64 d.fuse, .int .i64 d.ops, .bool d.dead] 38)).alloc (.cells #[.int .i64 j.x.g, .int .i64 j.x.e, .int .i64 j.x.a, .int .i64 j.x.z, .int .i64 j.x.p, .int .i64 j.n, .int .i64 j.r] 57)) #[.string (bs l)] 9).alloc (.cells #[.slice none 0 0, .slice none 0 0, .int .i64 0, .int .i64 0, .bool false] 38)).alloc (.cells #[.int .i64 0, .int .i64 0, .int .i64 0, .int .i64 0, .int .i64 0, .int .i64 0, .int .i64 0] 57))
  rw [show ((w.alloc (.cells #[.slice sa d.S.length sc, .slice pa d.P.length pc, .int .i64 d.fuse, .int .i64 d.ops, .bool d.dead] 38)).alloc (.cells #[.int .i64 j.x.g, .int .i64 j.x.e, .int .i64 j.x.a, .int .i64 j.x.z, .int .i64 j.x.p, .int .i64 j.n, .int .i64 j.r] 57)).heap.size = w.heap.size + 2 by simp] at h_HL
  have h_HR := ((Bx.new (((w.alloc (.cells #[.slice sa d.S.length sc, .slice pa d.P.length pc, .int .i64 d.fuse, .int .i64 d.ops, .bool d.dead] 38)).alloc (.cells #[.int .i64 j.x.g, .int .i64 j.x.e, .int .i64 j.x.a, .int .i64 j.x.z, .int .i64 j.x.p, .int .i64 j.n, .int .i64 j.r] 57)).alloc (.cells #[.string (bs l)] 9)) #[.slice none 0 0, .slice none 0 0, .int .i64 0, .int .i64 0, .bool false] 38).alloc (.cells #[.int .i64 0, .int .i64 0, .int .i64 0, .int .i64 0, .int .i64 0, .int .i64 0, .int .i64 0] 57))
  rw [show (((w.alloc (.cells #[.slice sa d.S.length sc, .slice pa d.P.length pc, .int .i64 d.fuse, .int .i64 d.ops, .bool d.dead] 38)).alloc (.cells #[.int .i64 j.x.g, .int .i64 j.x.e, .int .i64 j.x.a, .int .i64 j.x.z, .int .i64 j.x.p, .int .i64 j.n, .int .i64 j.r] 57)).alloc (.cells #[.string (bs l)] 9)).heap.size = w.heap.size + 3 by simp] at h_HR
  have h_HJ2 := (Bx.new ((((w.alloc (.cells #[.slice sa d.S.length sc, .slice pa d.P.length pc, .int .i64 d.fuse, .int .i64 d.ops, .bool d.dead] 38)).alloc (.cells #[.int .i64 j.x.g, .int .i64 j.x.e, .int .i64 j.x.a, .int .i64 j.x.z, .int .i64 j.x.p, .int .i64 j.n, .int .i64 j.r] 57)).alloc (.cells #[.string (bs l)] 9)).alloc (.cells #[.slice none 0 0, .slice none 0 0, .int .i64 0, .int .i64 0, .bool false] 38)) #[.int .i64 0, .int .i64 0, .int .i64 0, .int .i64 0, .int .i64 0, .int .i64 0, .int .i64 0] 57)
  rw [show ((((w.alloc (.cells #[.slice sa d.S.length sc, .slice pa d.P.length pc, .int .i64 d.fuse, .int .i64 d.ops, .bool d.dead] 38)).alloc (.cells #[.int .i64 j.x.g, .int .i64 j.x.e, .int .i64 j.x.a, .int .i64 j.x.z, .int .i64 j.x.p, .int .i64 j.n, .int .i64 j.r] 57)).alloc (.cells #[.string (bs l)] 9)).alloc (.cells #[.slice none 0 0, .slice none 0 0, .int .i64 0, .int .i64 0, .bool false] 38)).heap.size = w.heap.size + 4 by simp] at h_HJ2
  have HB := Lib.hid hb0; have HX := Lib.hid h_HX; have HJ := Lib.hid h_HJ; have HL := Lib.hid h_HL; have HR := Lib.hid h_HR; have HJ2 := Lib.hid h_HJ2
  clear hb0 h_HX h_HJ h_HL h_HR h_HJ2
  have HD := Lib.hid (hD.below HB.out)
  go_enter Try.func45, Try.ntmps45
  go_upto_region 1 with (fail)
  generalize hW0 : ((((w.alloc (.cells #[.slice sa d.S.length sc, .slice pa d.P.length pc, .int .i64 d.fuse, .int .i64 d.ops, .bool d.dead] 38)).alloc (.cells #[.int .i64 j.x.g, .int .i64 j.x.e, .int .i64 j.x.a, .int .i64 j.x.z, .int .i64 j.x.p, .int .i64 j.n, .int .i64 j.r] 57)).alloc (.cells #[.string (bs l)] 9)).alloc (.cells #[.slice none 0 0, .slice none 0 0, .int .i64 0, .int .i64 0, .bool false] 38)).alloc (.cells #[.int .i64 0, .int .i64 0, .int .i64 0, .int .i64 0, .int .i64 0, .int .i64 0, .int .i64 0] 57) = v0 at HB HD HX HJ HL HR HJ2 ⊢
  clear hW0
  have x0 : v0.cell? ⟨w.heap.size, 0, none⟩ = some (.slice sa d.S.length sc) := HX.out.cell 0
  have x1 : v0.cell? ⟨w.heap.size, 1, none⟩ = some (.slice pa d.P.length pc) := HX.out.cell 1
  have x2 : v0.cell? ⟨w.heap.size, 2, none⟩ = some (.int .i64 d.fuse) := HX.out.cell 2
  have x3 : v0.cell? ⟨w.heap.size, 3, none⟩ = some (.int .i64 d.ops) := HX.out.cell 3
  have x4 : v0.cell? ⟨w.heap.size, 4, none⟩ = some (.bool d.dead) := HX.out.cell 4
  cases hv : validB d with
  | false =>
    have HV := Lib.hid hv; clear hv
    go_wp2_with fail
    refine (Valid_any _ _ _ _ d _ HD.out).mono ?_
    rw [HV.out]
    rintro er w1 ⟨rfl, hb1⟩
    clear x0 x1 x2 x3 x4
    have HX := Lib.hid (HX.out.call hb1)
    have HJ := Lib.hid (HJ.out.call hb1)
    have HL := Lib.hid (HL.out.call hb1)
    have HR := Lib.hid (HR.out.call hb1)
    have HJ2 := Lib.hid (HJ2.out.call hb1)
    have HD := Lib.hid (HD.out.below hb1)
    have HB := Lib.hid (btrans HB.out HB.out.size hb1); clear hb1
    have hres : resW d j l p = (d, j0, 1) := resE_arg (resArg_no (by rw [HV.out]; simp))
    have HRES := Lib.hid hres; clear hres
    have x0 : w1.cell? ⟨w.heap.size, 0, none⟩ = some (.slice sa d.S.length sc) := HX.out.cell 0
    have x1 : w1.cell? ⟨w.heap.size, 1, none⟩ = some (.slice pa d.P.length pc) := HX.out.cell 1
    have x2 : w1.cell? ⟨w.heap.size, 2, none⟩ = some (.int .i64 d.fuse) := HX.out.cell 2
    have x3 : w1.cell? ⟨w.heap.size, 3, none⟩ = some (.int .i64 d.ops) := HX.out.cell 3
    have x4 : w1.cell? ⟨w.heap.size, 4, none⟩ = some (.bool d.dead) := HX.out.cell 4
    have zcl : d.P.length ≤ 9000000000000 := by omega
    go_wp2_with fail
    refine (clone_w _ _ _ _ d _ HD.out).mono ?_
    rintro er wc ⟨a1, c1, a2, c2, rfl, hO1, hb1⟩
    clear x0 x1 x2 x3 x4
    have HLC := Lib.hid (hO1.lists (d := d) zcl hszS); clear hO1
    have HR := Lib.hid (HR.out.call hb1)
    have HJ2 := Lib.hid (HJ2.out.call hb1)
    have HB := Lib.hid (btrans HB.out HB.out.size hb1); clear hb1
    have zj := HJ2.out.lt
    have r0 : wc.cell? ⟨(w.heap.size + 3), 0, none⟩ = some (.slice none 0 0) := HR.out.cell 0
    have r1 : wc.cell? ⟨(w.heap.size + 3), 1, none⟩ = some (.slice none 0 0) := HR.out.cell 1
    have r2 : wc.cell? ⟨(w.heap.size + 3), 2, none⟩ = some (.int .i64 0) := HR.out.cell 2
    have r3 : wc.cell? ⟨(w.heap.size + 3), 3, none⟩ = some (.int .i64 0) := HR.out.cell 3
    have r4 : wc.cell? ⟨(w.heap.size + 3), 4, none⟩ = some (.bool false) := HR.out.cell 4
    have q0 : wc.cell? ⟨(w.heap.size + 4), 0, none⟩ = some (.int .i64 0) := HJ2.out.cell 0
    have q1 : wc.cell? ⟨(w.heap.size + 4), 1, none⟩ = some (.int .i64 0) := HJ2.out.cell 1
    have q2 : wc.cell? ⟨(w.heap.size + 4), 2, none⟩ = some (.int .i64 0) := HJ2.out.cell 2
    have q3 : wc.cell? ⟨(w.heap.size + 4), 3, none⟩ = some (.int .i64 0) := HJ2.out.cell 3
    have q4 : wc.cell? ⟨(w.heap.size + 4), 4, none⟩ = some (.int .i64 0) := HJ2.out.cell 4
    have q5 : wc.cell? ⟨(w.heap.size + 4), 5, none⟩ = some (.int .i64 0) := HJ2.out.cell 5
    have q6 : wc.cell? ⟨(w.heap.size + 4), 6, none⟩ = some (.int .i64 0) := HJ2.out.cell 6
    have f0 := HR.out.free 0
    have f1 := HR.out.free 1
    have f2 := HR.out.free 2
    have f3 := HR.out.free 3
    have f4 := HR.out.free 4
    have p0 := HJ2.out.free 0
    have p1 := HJ2.out.free 1
    have p2 := HJ2.out.free 2
    have p3 := HJ2.out.free 3
    have p4 := HJ2.out.free 4
    have p5 := HJ2.out.free 5
    have p6 := HJ2.out.free 6
    have HJ3 := Lib.hid (HJ2.out.sets_ne (c := w.heap.size + 3) (by omega) (.slice a1 d.S.length c1) (.slice a2 d.P.length c2) (.int .i64 d.fuse) (.int .i64 d.ops) (.bool d.dead))
    have KR := Lib.hid ((HR.out.sets (.slice a1 d.S.length c1) (.slice a2 d.P.length c2) (.int .i64 d.fuse) (.int .i64 d.ops) (.bool d.dead)).sets7_ne (c := w.heap.size + 4) (by omega) (.int .i64 0) (.int .i64 0) (.int .i64 0) (.int .i64 0) (.int .i64 0) (.int .i64 0) (.int .i64 0))
    have KJ := Lib.hid (HJ3.out.sets7 (.int .i64 0) (.int .i64 0) (.int .i64 0) (.int .i64 0) (.int .i64 0) (.int .i64 0) (.int .i64 0))
    have KL := Lib.hid ((HLC.out.sets_box HR.out (.slice a1 d.S.length c1) (.slice a2 d.P.length c2) (.int .i64 d.fuse) (.int .i64 d.ops) (.bool d.dead)).sets7i HJ3.out (.int .i64 0) (.int .i64 0) (.int .i64 0) (.int .i64 0) (.int .i64 0) (.int .i64 0) (.int .i64 0))
    have KB := Lib.hid (below_sets7 (below_sets HB.out (w.heap.size + 3) (by omega) (.slice a1 d.S.length c1) (.slice a2 d.P.length c2) (.int .i64 d.fuse) (.int .i64 d.ops) (.bool d.dead)) (w.heap.size + 4) (by omega) (.int .i64 0) (.int .i64 0) (.int .i64 0) (.int .i64 0) (.int .i64 0) (.int .i64 0) (.int .i64 0))
    go_wp2
    have k0 := KR.out.cell 0
    have k1 := KR.out.cell 1
    have k2 := KR.out.cell 2
    have k3 := KR.out.cell 3
    have k4 := KR.out.cell 4
    have m0 := KJ.out.cell 0
    have m1 := KJ.out.cell 1
    have m2 := KJ.out.cell 2
    have m3 := KJ.out.cell 3
    have m4 := KJ.out.cell 4
    have m5 := KJ.out.cell 5
    have m6 := KJ.out.cell 6
    simp only [List.getElem?_toArray, List.getElem?_cons_zero, List.getElem?_cons_succ] at k0 k1 k2 k3 k4 m0 m1 m2 m3 m4 m5 m6
    refine bodyPost_ret (v := .tuple #[.agg #[.slice a1 d.S.length c1, .slice a2 d.P.length c2, .int .i64 d.fuse, .int .i64 d.ops, .bool d.dead], .agg #[.int .i64 0, .int .i64 0, .int .i64 0, .int .i64 0, .int .i64 0, .int .i64 0, .int .i64 0], .int .i64 1]) (by simp [results, Try.results45, go_sem, k0, k1, k2, k3, k4, m0, m1, m2, m3, m4, m5, m6]) rfl ?_
    exact APost.mk (d, j0, 1) a1 c1 a2 c2 rfl KL.out KB.out HRES.out
  | true =>
    have HV := Lib.hid hv; clear hv
    go_wp2_with fail
    refine (Valid_any _ _ _ _ d _ HD.out).mono ?_
    rw [HV.out]
    rintro er w1 ⟨rfl, hb1⟩
    clear x0 x1 x2 x3 x4
    have HX := Lib.hid (HX.out.call hb1)
    have HJ := Lib.hid (HJ.out.call hb1)
    have HL := Lib.hid (HL.out.call hb1)
    have HR := Lib.hid (HR.out.call hb1)
    have HJ2 := Lib.hid (HJ2.out.call hb1)
    have HD := Lib.hid (HD.out.below hb1)
    have HB := Lib.hid (btrans HB.out HB.out.size hb1); clear hb1
    have x0 : w1.cell? ⟨w.heap.size, 0, none⟩ = some (.slice sa d.S.length sc) := HX.out.cell 0
    have x1 : w1.cell? ⟨w.heap.size, 1, none⟩ = some (.slice pa d.P.length pc) := HX.out.cell 1
    have x2 : w1.cell? ⟨w.heap.size, 2, none⟩ = some (.int .i64 d.fuse) := HX.out.cell 2
    have x3 : w1.cell? ⟨w.heap.size, 3, none⟩ = some (.int .i64 d.ops) := HX.out.cell 3
    have x4 : w1.cell? ⟨w.heap.size, 4, none⟩ = some (.bool d.dead) := HX.out.cell 4
    have y0 : w1.cell? ⟨(w.heap.size + 1), 0, none⟩ = some (.int .i64 j.x.g) := HJ.out.cell 0
    have y1 : w1.cell? ⟨(w.heap.size + 1), 1, none⟩ = some (.int .i64 j.x.e) := HJ.out.cell 1
    have y2 : w1.cell? ⟨(w.heap.size + 1), 2, none⟩ = some (.int .i64 j.x.a) := HJ.out.cell 2
    have y3 : w1.cell? ⟨(w.heap.size + 1), 3, none⟩ = some (.int .i64 j.x.z) := HJ.out.cell 3
    have y4 : w1.cell? ⟨(w.heap.size + 1), 4, none⟩ = some (.int .i64 j.x.p) := HJ.out.cell 4
    have y5 : w1.cell? ⟨(w.heap.size + 1), 5, none⟩ = some (.int .i64 j.n) := HJ.out.cell 5
    have y6 : w1.cell? ⟨(w.heap.size + 1), 6, none⟩ = some (.int .i64 j.r) := HJ.out.cell 6
    have l0 : w1.cell? ⟨w.heap.size + 2, 0, none⟩ = some (.string (bs l)) := HL.out.cell 0
    cases hj : jB d j with
    | false =>
      have HJB := Lib.hid hj; clear hj
      go_wp2_with fail
      refine (validW_any _ _ _ _ d j _ HD.out).mono ?_
      rw [HJB.out]
      rintro er w2 ⟨rfl, hb1⟩
      clear x0 x1 x2 x3 x4
      clear y0 y1 y2 y3 y4 y5 y6
      clear l0
      have HX := Lib.hid (HX.out.call hb1)
      have HJ := Lib.hid (HJ.out.call hb1)
      have HL := Lib.hid (HL.out.call hb1)
      have HR := Lib.hid (HR.out.call hb1)
      have HJ2 := Lib.hid (HJ2.out.call hb1)
      have HD := Lib.hid (HD.out.below hb1)
      have HB := Lib.hid (btrans HB.out HB.out.size hb1); clear hb1
      have l0 : w2.cell? ⟨w.heap.size + 2, 0, none⟩ = some (.string (bs l)) := HL.out.cell 0
      have hres : resW d j l p = (d, j0, 1) := resE_arg (resArg_no (by rw [HJB.out]; simp))
      have HRES := Lib.hid hres; clear hres
      have x0 : w2.cell? ⟨w.heap.size, 0, none⟩ = some (.slice sa d.S.length sc) := HX.out.cell 0
      have x1 : w2.cell? ⟨w.heap.size, 1, none⟩ = some (.slice pa d.P.length pc) := HX.out.cell 1
      have x2 : w2.cell? ⟨w.heap.size, 2, none⟩ = some (.int .i64 d.fuse) := HX.out.cell 2
      have x3 : w2.cell? ⟨w.heap.size, 3, none⟩ = some (.int .i64 d.ops) := HX.out.cell 3
      have x4 : w2.cell? ⟨w.heap.size, 4, none⟩ = some (.bool d.dead) := HX.out.cell 4
      have zcl : d.P.length ≤ 9000000000000 := by omega
      go_wp2_with fail
      refine (clone_w _ _ _ _ d _ HD.out).mono ?_
      rintro er wc ⟨a1, c1, a2, c2, rfl, hO1, hb1⟩
      clear x0 x1 x2 x3 x4
      have HLC := Lib.hid (hO1.lists (d := d) zcl hszS); clear hO1
      have HR := Lib.hid (HR.out.call hb1)
      have HJ2 := Lib.hid (HJ2.out.call hb1)
      have HB := Lib.hid (btrans HB.out HB.out.size hb1); clear hb1
      have zj := HJ2.out.lt
      have r0 : wc.cell? ⟨(w.heap.size + 3), 0, none⟩ = some (.slice none 0 0) := HR.out.cell 0
      have r1 : wc.cell? ⟨(w.heap.size + 3), 1, none⟩ = some (.slice none 0 0) := HR.out.cell 1
      have r2 : wc.cell? ⟨(w.heap.size + 3), 2, none⟩ = some (.int .i64 0) := HR.out.cell 2
      have r3 : wc.cell? ⟨(w.heap.size + 3), 3, none⟩ = some (.int .i64 0) := HR.out.cell 3
      have r4 : wc.cell? ⟨(w.heap.size + 3), 4, none⟩ = some (.bool false) := HR.out.cell 4
      have q0 : wc.cell? ⟨(w.heap.size + 4), 0, none⟩ = some (.int .i64 0) := HJ2.out.cell 0
      have q1 : wc.cell? ⟨(w.heap.size + 4), 1, none⟩ = some (.int .i64 0) := HJ2.out.cell 1
      have q2 : wc.cell? ⟨(w.heap.size + 4), 2, none⟩ = some (.int .i64 0) := HJ2.out.cell 2
      have q3 : wc.cell? ⟨(w.heap.size + 4), 3, none⟩ = some (.int .i64 0) := HJ2.out.cell 3
      have q4 : wc.cell? ⟨(w.heap.size + 4), 4, none⟩ = some (.int .i64 0) := HJ2.out.cell 4
      have q5 : wc.cell? ⟨(w.heap.size + 4), 5, none⟩ = some (.int .i64 0) := HJ2.out.cell 5
      have q6 : wc.cell? ⟨(w.heap.size + 4), 6, none⟩ = some (.int .i64 0) := HJ2.out.cell 6
      have f0 := HR.out.free 0
      have f1 := HR.out.free 1
      have f2 := HR.out.free 2
      have f3 := HR.out.free 3
      have f4 := HR.out.free 4
      have p0 := HJ2.out.free 0
      have p1 := HJ2.out.free 1
      have p2 := HJ2.out.free 2
      have p3 := HJ2.out.free 3
      have p4 := HJ2.out.free 4
      have p5 := HJ2.out.free 5
      have p6 := HJ2.out.free 6
      have HJ3 := Lib.hid (HJ2.out.sets_ne (c := w.heap.size + 3) (by omega) (.slice a1 d.S.length c1) (.slice a2 d.P.length c2) (.int .i64 d.fuse) (.int .i64 d.ops) (.bool d.dead))
      have KR := Lib.hid ((HR.out.sets (.slice a1 d.S.length c1) (.slice a2 d.P.length c2) (.int .i64 d.fuse) (.int .i64 d.ops) (.bool d.dead)).sets7_ne (c := w.heap.size + 4) (by omega) (.int .i64 0) (.int .i64 0) (.int .i64 0) (.int .i64 0) (.int .i64 0) (.int .i64 0) (.int .i64 0))
      have KJ := Lib.hid (HJ3.out.sets7 (.int .i64 0) (.int .i64 0) (.int .i64 0) (.int .i64 0) (.int .i64 0) (.int .i64 0) (.int .i64 0))
      have KL := Lib.hid ((HLC.out.sets_box HR.out (.slice a1 d.S.length c1) (.slice a2 d.P.length c2) (.int .i64 d.fuse) (.int .i64 d.ops) (.bool d.dead)).sets7i HJ3.out (.int .i64 0) (.int .i64 0) (.int .i64 0) (.int .i64 0) (.int .i64 0) (.int .i64 0) (.int .i64 0))
      have KB := Lib.hid (below_sets7 (below_sets HB.out (w.heap.size + 3) (by omega) (.slice a1 d.S.length c1) (.slice a2 d.P.length c2) (.int .i64 d.fuse) (.int .i64 d.ops) (.bool d.dead)) (w.heap.size + 4) (by omega) (.int .i64 0) (.int .i64 0) (.int .i64 0) (.int .i64 0) (.int .i64 0) (.int .i64 0) (.int .i64 0))
      go_wp2
      have k0 := KR.out.cell 0
      have k1 := KR.out.cell 1
      have k2 := KR.out.cell 2
      have k3 := KR.out.cell 3
      have k4 := KR.out.cell 4
      have m0 := KJ.out.cell 0
      have m1 := KJ.out.cell 1
      have m2 := KJ.out.cell 2
      have m3 := KJ.out.cell 3
      have m4 := KJ.out.cell 4
      have m5 := KJ.out.cell 5
      have m6 := KJ.out.cell 6
      simp only [List.getElem?_toArray, List.getElem?_cons_zero, List.getElem?_cons_succ] at k0 k1 k2 k3 k4 m0 m1 m2 m3 m4 m5 m6
      refine bodyPost_ret (v := .tuple #[.agg #[.slice a1 d.S.length c1, .slice a2 d.P.length c2, .int .i64 d.fuse, .int .i64 d.ops, .bool d.dead], .agg #[.int .i64 0, .int .i64 0, .int .i64 0, .int .i64 0, .int .i64 0, .int .i64 0, .int .i64 0], .int .i64 1]) (by simp [results, Try.results45, go_sem, k0, k1, k2, k3, k4, m0, m1, m2, m3, m4, m5, m6]) rfl ?_
      exact APost.mk (d, j0, 1) a1 c1 a2 c2 rfl KL.out KB.out HRES.out
    | true =>
      have HJB := Lib.hid hj; clear hj
      go_wp2_with fail
      refine (validW_any _ _ _ _ d j _ HD.out).mono ?_
      rw [HJB.out]
      rintro er w2 ⟨rfl, hb1⟩
      clear x0 x1 x2 x3 x4
      clear y0 y1 y2 y3 y4 y5 y6
      clear l0
      have HX := Lib.hid (HX.out.call hb1)
      have HJ := Lib.hid (HJ.out.call hb1)
      have HL := Lib.hid (HL.out.call hb1)
      have HR := Lib.hid (HR.out.call hb1)
      have HJ2 := Lib.hid (HJ2.out.call hb1)
      have HD := Lib.hid (HD.out.below hb1)
      have HB := Lib.hid (btrans HB.out HB.out.size hb1); clear hb1
      have l0 : w2.cell? ⟨w.heap.size + 2, 0, none⟩ = some (.string (bs l)) := HL.out.cell 0
      by_cases hi : l = []
      · have ti : (l == []) = true := by rw [hi]; rfl
        have HI := Lib.hid hi; clear hi
        have hres : resW d j l p = (d, j0, 1) := resE_arg (resArg_no (by rw [HI.out]; simp))
        have HRES := Lib.hid hres; clear hres
        have x0 : w2.cell? ⟨w.heap.size, 0, none⟩ = some (.slice sa d.S.length sc) := HX.out.cell 0
        have x1 : w2.cell? ⟨w.heap.size, 1, none⟩ = some (.slice pa d.P.length pc) := HX.out.cell 1
        have x2 : w2.cell? ⟨w.heap.size, 2, none⟩ = some (.int .i64 d.fuse) := HX.out.cell 2
        have x3 : w2.cell? ⟨w.heap.size, 3, none⟩ = some (.int .i64 d.ops) := HX.out.cell 3
        have x4 : w2.cell? ⟨w.heap.size, 4, none⟩ = some (.bool d.dead) := HX.out.cell 4
        have zcl : d.P.length ≤ 9000000000000 := by omega
        go_wp2_with fail
        refine (clone_w _ _ _ _ d _ HD.out).mono ?_
        rintro er wc ⟨a1, c1, a2, c2, rfl, hO1, hb1⟩
        clear x0 x1 x2 x3 x4
        have HLC := Lib.hid (hO1.lists (d := d) zcl hszS); clear hO1
        have HR := Lib.hid (HR.out.call hb1)
        have HJ2 := Lib.hid (HJ2.out.call hb1)
        have HB := Lib.hid (btrans HB.out HB.out.size hb1); clear hb1
        have zj := HJ2.out.lt
        have r0 : wc.cell? ⟨(w.heap.size + 3), 0, none⟩ = some (.slice none 0 0) := HR.out.cell 0
        have r1 : wc.cell? ⟨(w.heap.size + 3), 1, none⟩ = some (.slice none 0 0) := HR.out.cell 1
        have r2 : wc.cell? ⟨(w.heap.size + 3), 2, none⟩ = some (.int .i64 0) := HR.out.cell 2
        have r3 : wc.cell? ⟨(w.heap.size + 3), 3, none⟩ = some (.int .i64 0) := HR.out.cell 3
        have r4 : wc.cell? ⟨(w.heap.size + 3), 4, none⟩ = some (.bool false) := HR.out.cell 4
        have q0 : wc.cell? ⟨(w.heap.size + 4), 0, none⟩ = some (.int .i64 0) := HJ2.out.cell 0
        have q1 : wc.cell? ⟨(w.heap.size + 4), 1, none⟩ = some (.int .i64 0) := HJ2.out.cell 1
        have q2 : wc.cell? ⟨(w.heap.size + 4), 2, none⟩ = some (.int .i64 0) := HJ2.out.cell 2
        have q3 : wc.cell? ⟨(w.heap.size + 4), 3, none⟩ = some (.int .i64 0) := HJ2.out.cell 3
        have q4 : wc.cell? ⟨(w.heap.size + 4), 4, none⟩ = some (.int .i64 0) := HJ2.out.cell 4
        have q5 : wc.cell? ⟨(w.heap.size + 4), 5, none⟩ = some (.int .i64 0) := HJ2.out.cell 5
        have q6 : wc.cell? ⟨(w.heap.size + 4), 6, none⟩ = some (.int .i64 0) := HJ2.out.cell 6
        have f0 := HR.out.free 0
        have f1 := HR.out.free 1
        have f2 := HR.out.free 2
        have f3 := HR.out.free 3
        have f4 := HR.out.free 4
        have p0 := HJ2.out.free 0
        have p1 := HJ2.out.free 1
        have p2 := HJ2.out.free 2
        have p3 := HJ2.out.free 3
        have p4 := HJ2.out.free 4
        have p5 := HJ2.out.free 5
        have p6 := HJ2.out.free 6
        have HJ3 := Lib.hid (HJ2.out.sets_ne (c := w.heap.size + 3) (by omega) (.slice a1 d.S.length c1) (.slice a2 d.P.length c2) (.int .i64 d.fuse) (.int .i64 d.ops) (.bool d.dead))
        have KR := Lib.hid ((HR.out.sets (.slice a1 d.S.length c1) (.slice a2 d.P.length c2) (.int .i64 d.fuse) (.int .i64 d.ops) (.bool d.dead)).sets7_ne (c := w.heap.size + 4) (by omega) (.int .i64 0) (.int .i64 0) (.int .i64 0) (.int .i64 0) (.int .i64 0) (.int .i64 0) (.int .i64 0))
        have KJ := Lib.hid (HJ3.out.sets7 (.int .i64 0) (.int .i64 0) (.int .i64 0) (.int .i64 0) (.int .i64 0) (.int .i64 0) (.int .i64 0))
        have KL := Lib.hid ((HLC.out.sets_box HR.out (.slice a1 d.S.length c1) (.slice a2 d.P.length c2) (.int .i64 d.fuse) (.int .i64 d.ops) (.bool d.dead)).sets7i HJ3.out (.int .i64 0) (.int .i64 0) (.int .i64 0) (.int .i64 0) (.int .i64 0) (.int .i64 0) (.int .i64 0))
        have KB := Lib.hid (below_sets7 (below_sets HB.out (w.heap.size + 3) (by omega) (.slice a1 d.S.length c1) (.slice a2 d.P.length c2) (.int .i64 d.fuse) (.int .i64 d.ops) (.bool d.dead)) (w.heap.size + 4) (by omega) (.int .i64 0) (.int .i64 0) (.int .i64 0) (.int .i64 0) (.int .i64 0) (.int .i64 0) (.int .i64 0))
        go_wp2
        have k0 := KR.out.cell 0
        have k1 := KR.out.cell 1
        have k2 := KR.out.cell 2
        have k3 := KR.out.cell 3
        have k4 := KR.out.cell 4
        have m0 := KJ.out.cell 0
        have m1 := KJ.out.cell 1
        have m2 := KJ.out.cell 2
        have m3 := KJ.out.cell 3
        have m4 := KJ.out.cell 4
        have m5 := KJ.out.cell 5
        have m6 := KJ.out.cell 6
        simp only [List.getElem?_toArray, List.getElem?_cons_zero, List.getElem?_cons_succ] at k0 k1 k2 k3 k4 m0 m1 m2 m3 m4 m5 m6
        refine bodyPost_ret (v := .tuple #[.agg #[.slice a1 d.S.length c1, .slice a2 d.P.length c2, .int .i64 d.fuse, .int .i64 d.ops, .bool d.dead], .agg #[.int .i64 0, .int .i64 0, .int .i64 0, .int .i64 0, .int .i64 0, .int .i64 0, .int .i64 0], .int .i64 1]) (by simp [results, Try.results45, go_sem, k0, k1, k2, k3, k4, m0, m1, m2, m3, m4, m5, m6]) rfl ?_
        exact APost.mk (d, j0, 1) a1 c1 a2 c2 rfl KL.out KB.out HRES.out
      have ti : (l == []) = false := by rw [beq_eq_false_iff_ne]; exact hi
      have HI := Lib.hid hi; clear hi
      by_cases hp0 : p < 0
      · skip
        have hres : resW d j l p = (d, j0, 1) := resE_arg (resArg_no (by omega))
        have HRES := Lib.hid hres; clear hres
        have x0 : w2.cell? ⟨w.heap.size, 0, none⟩ = some (.slice sa d.S.length sc) := HX.out.cell 0
        have x1 : w2.cell? ⟨w.heap.size, 1, none⟩ = some (.slice pa d.P.length pc) := HX.out.cell 1
        have x2 : w2.cell? ⟨w.heap.size, 2, none⟩ = some (.int .i64 d.fuse) := HX.out.cell 2
        have x3 : w2.cell? ⟨w.heap.size, 3, none⟩ = some (.int .i64 d.ops) := HX.out.cell 3
        have x4 : w2.cell? ⟨w.heap.size, 4, none⟩ = some (.bool d.dead) := HX.out.cell 4
        have zcl : d.P.length ≤ 9000000000000 := by omega
        go_wp2_with fail
        refine (clone_w _ _ _ _ d _ HD.out).mono ?_
        rintro er wc ⟨a1, c1, a2, c2, rfl, hO1, hb1⟩
        clear x0 x1 x2 x3 x4
        have HLC := Lib.hid (hO1.lists (d := d) zcl hszS); clear hO1
        have HR := Lib.hid (HR.out.call hb1)
        have HJ2 := Lib.hid (HJ2.out.call hb1)
        have HB := Lib.hid (btrans HB.out HB.out.size hb1); clear hb1
        have zj := HJ2.out.lt
        have r0 : wc.cell? ⟨(w.heap.size + 3), 0, none⟩ = some (.slice none 0 0) := HR.out.cell 0
        have r1 : wc.cell? ⟨(w.heap.size + 3), 1, none⟩ = some (.slice none 0 0) := HR.out.cell 1
        have r2 : wc.cell? ⟨(w.heap.size + 3), 2, none⟩ = some (.int .i64 0) := HR.out.cell 2
        have r3 : wc.cell? ⟨(w.heap.size + 3), 3, none⟩ = some (.int .i64 0) := HR.out.cell 3
        have r4 : wc.cell? ⟨(w.heap.size + 3), 4, none⟩ = some (.bool false) := HR.out.cell 4
        have q0 : wc.cell? ⟨(w.heap.size + 4), 0, none⟩ = some (.int .i64 0) := HJ2.out.cell 0
        have q1 : wc.cell? ⟨(w.heap.size + 4), 1, none⟩ = some (.int .i64 0) := HJ2.out.cell 1
        have q2 : wc.cell? ⟨(w.heap.size + 4), 2, none⟩ = some (.int .i64 0) := HJ2.out.cell 2
        have q3 : wc.cell? ⟨(w.heap.size + 4), 3, none⟩ = some (.int .i64 0) := HJ2.out.cell 3
        have q4 : wc.cell? ⟨(w.heap.size + 4), 4, none⟩ = some (.int .i64 0) := HJ2.out.cell 4
        have q5 : wc.cell? ⟨(w.heap.size + 4), 5, none⟩ = some (.int .i64 0) := HJ2.out.cell 5
        have q6 : wc.cell? ⟨(w.heap.size + 4), 6, none⟩ = some (.int .i64 0) := HJ2.out.cell 6
        have f0 := HR.out.free 0
        have f1 := HR.out.free 1
        have f2 := HR.out.free 2
        have f3 := HR.out.free 3
        have f4 := HR.out.free 4
        have p0 := HJ2.out.free 0
        have p1 := HJ2.out.free 1
        have p2 := HJ2.out.free 2
        have p3 := HJ2.out.free 3
        have p4 := HJ2.out.free 4
        have p5 := HJ2.out.free 5
        have p6 := HJ2.out.free 6
        have HJ3 := Lib.hid (HJ2.out.sets_ne (c := w.heap.size + 3) (by omega) (.slice a1 d.S.length c1) (.slice a2 d.P.length c2) (.int .i64 d.fuse) (.int .i64 d.ops) (.bool d.dead))
        have KR := Lib.hid ((HR.out.sets (.slice a1 d.S.length c1) (.slice a2 d.P.length c2) (.int .i64 d.fuse) (.int .i64 d.ops) (.bool d.dead)).sets7_ne (c := w.heap.size + 4) (by omega) (.int .i64 0) (.int .i64 0) (.int .i64 0) (.int .i64 0) (.int .i64 0) (.int .i64 0) (.int .i64 0))
        have KJ := Lib.hid (HJ3.out.sets7 (.int .i64 0) (.int .i64 0) (.int .i64 0) (.int .i64 0) (.int .i64 0) (.int .i64 0) (.int .i64 0))
        have KL := Lib.hid ((HLC.out.sets_box HR.out (.slice a1 d.S.length c1) (.slice a2 d.P.length c2) (.int .i64 d.fuse) (.int .i64 d.ops) (.bool d.dead)).sets7i HJ3.out (.int .i64 0) (.int .i64 0) (.int .i64 0) (.int .i64 0) (.int .i64 0) (.int .i64 0) (.int .i64 0))
        have KB := Lib.hid (below_sets7 (below_sets HB.out (w.heap.size + 3) (by omega) (.slice a1 d.S.length c1) (.slice a2 d.P.length c2) (.int .i64 d.fuse) (.int .i64 d.ops) (.bool d.dead)) (w.heap.size + 4) (by omega) (.int .i64 0) (.int .i64 0) (.int .i64 0) (.int .i64 0) (.int .i64 0) (.int .i64 0) (.int .i64 0))
        go_wp2
        have k0 := KR.out.cell 0
        have k1 := KR.out.cell 1
        have k2 := KR.out.cell 2
        have k3 := KR.out.cell 3
        have k4 := KR.out.cell 4
        have m0 := KJ.out.cell 0
        have m1 := KJ.out.cell 1
        have m2 := KJ.out.cell 2
        have m3 := KJ.out.cell 3
        have m4 := KJ.out.cell 4
        have m5 := KJ.out.cell 5
        have m6 := KJ.out.cell 6
        simp only [List.getElem?_toArray, List.getElem?_cons_zero, List.getElem?_cons_succ] at k0 k1 k2 k3 k4 m0 m1 m2 m3 m4 m5 m6
        refine bodyPost_ret (v := .tuple #[.agg #[.slice a1 d.S.length c1, .slice a2 d.P.length c2, .int .i64 d.fuse, .int .i64 d.ops, .bool d.dead], .agg #[.int .i64 0, .int .i64 0, .int .i64 0, .int .i64 0, .int .i64 0, .int .i64 0, .int .i64 0], .int .i64 1]) (by simp [results, Try.results45, go_sem, k0, k1, k2, k3, k4, m0, m1, m2, m3, m4, m5, m6]) rfl ?_
        exact APost.mk (d, j0, 1) a1 c1 a2 c2 rfl KL.out KB.out HRES.out
      by_cases hp1 : 1099511627776 < p
      · skip
        have hres : resW d j l p = (d, j0, 1) := resE_arg (resArg_no (by omega))
        have HRES := Lib.hid hres; clear hres
        have x0 : w2.cell? ⟨w.heap.size, 0, none⟩ = some (.slice sa d.S.length sc) := HX.out.cell 0
        have x1 : w2.cell? ⟨w.heap.size, 1, none⟩ = some (.slice pa d.P.length pc) := HX.out.cell 1
        have x2 : w2.cell? ⟨w.heap.size, 2, none⟩ = some (.int .i64 d.fuse) := HX.out.cell 2
        have x3 : w2.cell? ⟨w.heap.size, 3, none⟩ = some (.int .i64 d.ops) := HX.out.cell 3
        have x4 : w2.cell? ⟨w.heap.size, 4, none⟩ = some (.bool d.dead) := HX.out.cell 4
        have zcl : d.P.length ≤ 9000000000000 := by omega
        go_wp2_with fail
        refine (clone_w _ _ _ _ d _ HD.out).mono ?_
        rintro er wc ⟨a1, c1, a2, c2, rfl, hO1, hb1⟩
        clear x0 x1 x2 x3 x4
        have HLC := Lib.hid (hO1.lists (d := d) zcl hszS); clear hO1
        have HR := Lib.hid (HR.out.call hb1)
        have HJ2 := Lib.hid (HJ2.out.call hb1)
        have HB := Lib.hid (btrans HB.out HB.out.size hb1); clear hb1
        have zj := HJ2.out.lt
        have r0 : wc.cell? ⟨(w.heap.size + 3), 0, none⟩ = some (.slice none 0 0) := HR.out.cell 0
        have r1 : wc.cell? ⟨(w.heap.size + 3), 1, none⟩ = some (.slice none 0 0) := HR.out.cell 1
        have r2 : wc.cell? ⟨(w.heap.size + 3), 2, none⟩ = some (.int .i64 0) := HR.out.cell 2
        have r3 : wc.cell? ⟨(w.heap.size + 3), 3, none⟩ = some (.int .i64 0) := HR.out.cell 3
        have r4 : wc.cell? ⟨(w.heap.size + 3), 4, none⟩ = some (.bool false) := HR.out.cell 4
        have q0 : wc.cell? ⟨(w.heap.size + 4), 0, none⟩ = some (.int .i64 0) := HJ2.out.cell 0
        have q1 : wc.cell? ⟨(w.heap.size + 4), 1, none⟩ = some (.int .i64 0) := HJ2.out.cell 1
        have q2 : wc.cell? ⟨(w.heap.size + 4), 2, none⟩ = some (.int .i64 0) := HJ2.out.cell 2
        have q3 : wc.cell? ⟨(w.heap.size + 4), 3, none⟩ = some (.int .i64 0) := HJ2.out.cell 3
        have q4 : wc.cell? ⟨(w.heap.size + 4), 4, none⟩ = some (.int .i64 0) := HJ2.out.cell 4
        have q5 : wc.cell? ⟨(w.heap.size + 4), 5, none⟩ = some (.int .i64 0) := HJ2.out.cell 5
        have q6 : wc.cell? ⟨(w.heap.size + 4), 6, none⟩ = some (.int .i64 0) := HJ2.out.cell 6
        have f0 := HR.out.free 0
        have f1 := HR.out.free 1
        have f2 := HR.out.free 2
        have f3 := HR.out.free 3
        have f4 := HR.out.free 4
        have p0 := HJ2.out.free 0
        have p1 := HJ2.out.free 1
        have p2 := HJ2.out.free 2
        have p3 := HJ2.out.free 3
        have p4 := HJ2.out.free 4
        have p5 := HJ2.out.free 5
        have p6 := HJ2.out.free 6
        have HJ3 := Lib.hid (HJ2.out.sets_ne (c := w.heap.size + 3) (by omega) (.slice a1 d.S.length c1) (.slice a2 d.P.length c2) (.int .i64 d.fuse) (.int .i64 d.ops) (.bool d.dead))
        have KR := Lib.hid ((HR.out.sets (.slice a1 d.S.length c1) (.slice a2 d.P.length c2) (.int .i64 d.fuse) (.int .i64 d.ops) (.bool d.dead)).sets7_ne (c := w.heap.size + 4) (by omega) (.int .i64 0) (.int .i64 0) (.int .i64 0) (.int .i64 0) (.int .i64 0) (.int .i64 0) (.int .i64 0))
        have KJ := Lib.hid (HJ3.out.sets7 (.int .i64 0) (.int .i64 0) (.int .i64 0) (.int .i64 0) (.int .i64 0) (.int .i64 0) (.int .i64 0))
        have KL := Lib.hid ((HLC.out.sets_box HR.out (.slice a1 d.S.length c1) (.slice a2 d.P.length c2) (.int .i64 d.fuse) (.int .i64 d.ops) (.bool d.dead)).sets7i HJ3.out (.int .i64 0) (.int .i64 0) (.int .i64 0) (.int .i64 0) (.int .i64 0) (.int .i64 0) (.int .i64 0))
        have KB := Lib.hid (below_sets7 (below_sets HB.out (w.heap.size + 3) (by omega) (.slice a1 d.S.length c1) (.slice a2 d.P.length c2) (.int .i64 d.fuse) (.int .i64 d.ops) (.bool d.dead)) (w.heap.size + 4) (by omega) (.int .i64 0) (.int .i64 0) (.int .i64 0) (.int .i64 0) (.int .i64 0) (.int .i64 0) (.int .i64 0))
        go_wp2
        have k0 := KR.out.cell 0
        have k1 := KR.out.cell 1
        have k2 := KR.out.cell 2
        have k3 := KR.out.cell 3
        have k4 := KR.out.cell 4
        have m0 := KJ.out.cell 0
        have m1 := KJ.out.cell 1
        have m2 := KJ.out.cell 2
        have m3 := KJ.out.cell 3
        have m4 := KJ.out.cell 4
        have m5 := KJ.out.cell 5
        have m6 := KJ.out.cell 6
        simp only [List.getElem?_toArray, List.getElem?_cons_zero, List.getElem?_cons_succ] at k0 k1 k2 k3 k4 m0 m1 m2 m3 m4 m5 m6
        refine bodyPost_ret (v := .tuple #[.agg #[.slice a1 d.S.length c1, .slice a2 d.P.length c2, .int .i64 d.fuse, .int .i64 d.ops, .bool d.dead], .agg #[.int .i64 0, .int .i64 0, .int .i64 0, .int .i64 0, .int .i64 0, .int .i64 0, .int .i64 0], .int .i64 1]) (by simp [results, Try.results45, go_sem, k0, k1, k2, k3, k4, m0, m1, m2, m3, m4, m5, m6]) rfl ?_
        exact APost.mk (d, j0, 1) a1 c1 a2 c2 rfl KL.out KB.out HRES.out
      have hra := (resArg_iff d j l p).2 ⟨HV.out, HJB.out, HI.out, by omega, by omega⟩
      have HRA := Lib.hid hra; clear hra
      have y0 : w2.cell? ⟨w.heap.size + 1, 0, none⟩ = some (.int .i64 j.x.g) := HJ.out.cell 0
      by_cases hlen : (16384 : Int) < (l.length : Int)
      · skip
        have hres : resW d j l p = (d, j0, 2) := resE_lim HRA.out (.inl (by omega))
        have HRES := Lib.hid hres; clear hres
        have x0 : w2.cell? ⟨w.heap.size, 0, none⟩ = some (.slice sa d.S.length sc) := HX.out.cell 0
        have x1 : w2.cell? ⟨w.heap.size, 1, none⟩ = some (.slice pa d.P.length pc) := HX.out.cell 1
        have x2 : w2.cell? ⟨w.heap.size, 2, none⟩ = some (.int .i64 d.fuse) := HX.out.cell 2
        have x3 : w2.cell? ⟨w.heap.size, 3, none⟩ = some (.int .i64 d.ops) := HX.out.cell 3
        have x4 : w2.cell? ⟨w.heap.size, 4, none⟩ = some (.bool d.dead) := HX.out.cell 4
        have zcl : d.P.length ≤ 9000000000000 := by omega
        go_wp2_with fail
        refine (clone_w _ _ _ _ d _ HD.out).mono ?_
        rintro er wc ⟨a1, c1, a2, c2, rfl, hO1, hb1⟩
        clear x0 x1 x2 x3 x4
        have HLC := Lib.hid (hO1.lists (d := d) zcl hszS); clear hO1
        have HR := Lib.hid (HR.out.call hb1)
        have HJ2 := Lib.hid (HJ2.out.call hb1)
        have HB := Lib.hid (btrans HB.out HB.out.size hb1); clear hb1
        have zj := HJ2.out.lt
        have r0 : wc.cell? ⟨(w.heap.size + 3), 0, none⟩ = some (.slice none 0 0) := HR.out.cell 0
        have r1 : wc.cell? ⟨(w.heap.size + 3), 1, none⟩ = some (.slice none 0 0) := HR.out.cell 1
        have r2 : wc.cell? ⟨(w.heap.size + 3), 2, none⟩ = some (.int .i64 0) := HR.out.cell 2
        have r3 : wc.cell? ⟨(w.heap.size + 3), 3, none⟩ = some (.int .i64 0) := HR.out.cell 3
        have r4 : wc.cell? ⟨(w.heap.size + 3), 4, none⟩ = some (.bool false) := HR.out.cell 4
        have q0 : wc.cell? ⟨(w.heap.size + 4), 0, none⟩ = some (.int .i64 0) := HJ2.out.cell 0
        have q1 : wc.cell? ⟨(w.heap.size + 4), 1, none⟩ = some (.int .i64 0) := HJ2.out.cell 1
        have q2 : wc.cell? ⟨(w.heap.size + 4), 2, none⟩ = some (.int .i64 0) := HJ2.out.cell 2
        have q3 : wc.cell? ⟨(w.heap.size + 4), 3, none⟩ = some (.int .i64 0) := HJ2.out.cell 3
        have q4 : wc.cell? ⟨(w.heap.size + 4), 4, none⟩ = some (.int .i64 0) := HJ2.out.cell 4
        have q5 : wc.cell? ⟨(w.heap.size + 4), 5, none⟩ = some (.int .i64 0) := HJ2.out.cell 5
        have q6 : wc.cell? ⟨(w.heap.size + 4), 6, none⟩ = some (.int .i64 0) := HJ2.out.cell 6
        have f0 := HR.out.free 0
        have f1 := HR.out.free 1
        have f2 := HR.out.free 2
        have f3 := HR.out.free 3
        have f4 := HR.out.free 4
        have p0 := HJ2.out.free 0
        have p1 := HJ2.out.free 1
        have p2 := HJ2.out.free 2
        have p3 := HJ2.out.free 3
        have p4 := HJ2.out.free 4
        have p5 := HJ2.out.free 5
        have p6 := HJ2.out.free 6
        have HJ3 := Lib.hid (HJ2.out.sets_ne (c := w.heap.size + 3) (by omega) (.slice a1 d.S.length c1) (.slice a2 d.P.length c2) (.int .i64 d.fuse) (.int .i64 d.ops) (.bool d.dead))
        have KR := Lib.hid ((HR.out.sets (.slice a1 d.S.length c1) (.slice a2 d.P.length c2) (.int .i64 d.fuse) (.int .i64 d.ops) (.bool d.dead)).sets7_ne (c := w.heap.size + 4) (by omega) (.int .i64 0) (.int .i64 0) (.int .i64 0) (.int .i64 0) (.int .i64 0) (.int .i64 0) (.int .i64 0))
        have KJ := Lib.hid (HJ3.out.sets7 (.int .i64 0) (.int .i64 0) (.int .i64 0) (.int .i64 0) (.int .i64 0) (.int .i64 0) (.int .i64 0))
        have KL := Lib.hid ((HLC.out.sets_box HR.out (.slice a1 d.S.length c1) (.slice a2 d.P.length c2) (.int .i64 d.fuse) (.int .i64 d.ops) (.bool d.dead)).sets7i HJ3.out (.int .i64 0) (.int .i64 0) (.int .i64 0) (.int .i64 0) (.int .i64 0) (.int .i64 0) (.int .i64 0))
        have KB := Lib.hid (below_sets7 (below_sets HB.out (w.heap.size + 3) (by omega) (.slice a1 d.S.length c1) (.slice a2 d.P.length c2) (.int .i64 d.fuse) (.int .i64 d.ops) (.bool d.dead)) (w.heap.size + 4) (by omega) (.int .i64 0) (.int .i64 0) (.int .i64 0) (.int .i64 0) (.int .i64 0) (.int .i64 0) (.int .i64 0))
        go_wp2
        have k0 := KR.out.cell 0
        have k1 := KR.out.cell 1
        have k2 := KR.out.cell 2
        have k3 := KR.out.cell 3
        have k4 := KR.out.cell 4
        have m0 := KJ.out.cell 0
        have m1 := KJ.out.cell 1
        have m2 := KJ.out.cell 2
        have m3 := KJ.out.cell 3
        have m4 := KJ.out.cell 4
        have m5 := KJ.out.cell 5
        have m6 := KJ.out.cell 6
        simp only [List.getElem?_toArray, List.getElem?_cons_zero, List.getElem?_cons_succ] at k0 k1 k2 k3 k4 m0 m1 m2 m3 m4 m5 m6
        refine bodyPost_ret (v := .tuple #[.agg #[.slice a1 d.S.length c1, .slice a2 d.P.length c2, .int .i64 d.fuse, .int .i64 d.ops, .bool d.dead], .agg #[.int .i64 0, .int .i64 0, .int .i64 0, .int .i64 0, .int .i64 0, .int .i64 0, .int .i64 0], .int .i64 2]) (by simp [results, Try.results45, go_sem, k0, k1, k2, k3, k4, m0, m1, m2, m3, m4, m5, m6]) rfl ?_
        exact APost.mk (d, j0, 2) a1 c1 a2 c2 rfl KL.out KB.out HRES.out
      by_cases hg : j.x.g = 1099511627776
      · have tm : (j.x.g == 1099511627776) = true := by rw [hg]; rfl
        have HGM := Lib.hid hg; clear hg
        have hres : resW d j l p = (d, j0, 2) := resE_lim HRA.out (.inr HGM.out)
        have HRES := Lib.hid hres; clear hres
        have x0 : w2.cell? ⟨w.heap.size, 0, none⟩ = some (.slice sa d.S.length sc) := HX.out.cell 0
        have x1 : w2.cell? ⟨w.heap.size, 1, none⟩ = some (.slice pa d.P.length pc) := HX.out.cell 1
        have x2 : w2.cell? ⟨w.heap.size, 2, none⟩ = some (.int .i64 d.fuse) := HX.out.cell 2
        have x3 : w2.cell? ⟨w.heap.size, 3, none⟩ = some (.int .i64 d.ops) := HX.out.cell 3
        have x4 : w2.cell? ⟨w.heap.size, 4, none⟩ = some (.bool d.dead) := HX.out.cell 4
        have zcl : d.P.length ≤ 9000000000000 := by omega
        go_wp2_with fail
        refine (clone_w _ _ _ _ d _ HD.out).mono ?_
        rintro er wc ⟨a1, c1, a2, c2, rfl, hO1, hb1⟩
        clear x0 x1 x2 x3 x4
        have HLC := Lib.hid (hO1.lists (d := d) zcl hszS); clear hO1
        have HR := Lib.hid (HR.out.call hb1)
        have HJ2 := Lib.hid (HJ2.out.call hb1)
        have HB := Lib.hid (btrans HB.out HB.out.size hb1); clear hb1
        have zj := HJ2.out.lt
        have r0 : wc.cell? ⟨(w.heap.size + 3), 0, none⟩ = some (.slice none 0 0) := HR.out.cell 0
        have r1 : wc.cell? ⟨(w.heap.size + 3), 1, none⟩ = some (.slice none 0 0) := HR.out.cell 1
        have r2 : wc.cell? ⟨(w.heap.size + 3), 2, none⟩ = some (.int .i64 0) := HR.out.cell 2
        have r3 : wc.cell? ⟨(w.heap.size + 3), 3, none⟩ = some (.int .i64 0) := HR.out.cell 3
        have r4 : wc.cell? ⟨(w.heap.size + 3), 4, none⟩ = some (.bool false) := HR.out.cell 4
        have q0 : wc.cell? ⟨(w.heap.size + 4), 0, none⟩ = some (.int .i64 0) := HJ2.out.cell 0
        have q1 : wc.cell? ⟨(w.heap.size + 4), 1, none⟩ = some (.int .i64 0) := HJ2.out.cell 1
        have q2 : wc.cell? ⟨(w.heap.size + 4), 2, none⟩ = some (.int .i64 0) := HJ2.out.cell 2
        have q3 : wc.cell? ⟨(w.heap.size + 4), 3, none⟩ = some (.int .i64 0) := HJ2.out.cell 3
        have q4 : wc.cell? ⟨(w.heap.size + 4), 4, none⟩ = some (.int .i64 0) := HJ2.out.cell 4
        have q5 : wc.cell? ⟨(w.heap.size + 4), 5, none⟩ = some (.int .i64 0) := HJ2.out.cell 5
        have q6 : wc.cell? ⟨(w.heap.size + 4), 6, none⟩ = some (.int .i64 0) := HJ2.out.cell 6
        have f0 := HR.out.free 0
        have f1 := HR.out.free 1
        have f2 := HR.out.free 2
        have f3 := HR.out.free 3
        have f4 := HR.out.free 4
        have p0 := HJ2.out.free 0
        have p1 := HJ2.out.free 1
        have p2 := HJ2.out.free 2
        have p3 := HJ2.out.free 3
        have p4 := HJ2.out.free 4
        have p5 := HJ2.out.free 5
        have p6 := HJ2.out.free 6
        have HJ3 := Lib.hid (HJ2.out.sets_ne (c := w.heap.size + 3) (by omega) (.slice a1 d.S.length c1) (.slice a2 d.P.length c2) (.int .i64 d.fuse) (.int .i64 d.ops) (.bool d.dead))
        have KR := Lib.hid ((HR.out.sets (.slice a1 d.S.length c1) (.slice a2 d.P.length c2) (.int .i64 d.fuse) (.int .i64 d.ops) (.bool d.dead)).sets7_ne (c := w.heap.size + 4) (by omega) (.int .i64 0) (.int .i64 0) (.int .i64 0) (.int .i64 0) (.int .i64 0) (.int .i64 0) (.int .i64 0))
        have KJ := Lib.hid (HJ3.out.sets7 (.int .i64 0) (.int .i64 0) (.int .i64 0) (.int .i64 0) (.int .i64 0) (.int .i64 0) (.int .i64 0))
        have KL := Lib.hid ((HLC.out.sets_box HR.out (.slice a1 d.S.length c1) (.slice a2 d.P.length c2) (.int .i64 d.fuse) (.int .i64 d.ops) (.bool d.dead)).sets7i HJ3.out (.int .i64 0) (.int .i64 0) (.int .i64 0) (.int .i64 0) (.int .i64 0) (.int .i64 0) (.int .i64 0))
        have KB := Lib.hid (below_sets7 (below_sets HB.out (w.heap.size + 3) (by omega) (.slice a1 d.S.length c1) (.slice a2 d.P.length c2) (.int .i64 d.fuse) (.int .i64 d.ops) (.bool d.dead)) (w.heap.size + 4) (by omega) (.int .i64 0) (.int .i64 0) (.int .i64 0) (.int .i64 0) (.int .i64 0) (.int .i64 0) (.int .i64 0))
        go_wp2
        have k0 := KR.out.cell 0
        have k1 := KR.out.cell 1
        have k2 := KR.out.cell 2
        have k3 := KR.out.cell 3
        have k4 := KR.out.cell 4
        have m0 := KJ.out.cell 0
        have m1 := KJ.out.cell 1
        have m2 := KJ.out.cell 2
        have m3 := KJ.out.cell 3
        have m4 := KJ.out.cell 4
        have m5 := KJ.out.cell 5
        have m6 := KJ.out.cell 6
        simp only [List.getElem?_toArray, List.getElem?_cons_zero, List.getElem?_cons_succ] at k0 k1 k2 k3 k4 m0 m1 m2 m3 m4 m5 m6
        refine bodyPost_ret (v := .tuple #[.agg #[.slice a1 d.S.length c1, .slice a2 d.P.length c2, .int .i64 d.fuse, .int .i64 d.ops, .bool d.dead], .agg #[.int .i64 0, .int .i64 0, .int .i64 0, .int .i64 0, .int .i64 0, .int .i64 0, .int .i64 0], .int .i64 2]) (by simp [results, Try.results45, go_sem, k0, k1, k2, k3, k4, m0, m1, m2, m3, m4, m5, m6]) rfl ?_
        exact APost.mk (d, j0, 2) a1 c1 a2 c2 rfl KL.out KB.out HRES.out
      have tm : (j.x.g == 1099511627776) = false := by rw [beq_eq_false_iff_ne]; exact hg
      have hlim : ¬ (16384 < l.length ∨ j.x.g = 1099511627776) := by omega
      have HLIM := Lib.hid hlim; clear hlim
      obtain ⟨hsx, jn0, jn1, jr0, jr1⟩ := jB_bounds HV.out HJB.out
      obtain ⟨xg1, xg2, _⟩ := spB_bounds hsx
      have xg3 : j.x.g + 1 ≤ 1099511627776 := by omega
      clear hsx hg
      obtain ⟨_, za2, _, za4, _⟩ := arN_bounds HV.out
      have zj2 := HJ2.out.lt
      have hal := (Below.refl w2.heap.size w2).alloc (Nat.le_refl _) (.cells #[.int .i64 (j.x.g + 1)] 2)
      have HG := Lib.hid (Bx.new w2 #[.int .i64 (j.x.g + 1)] 2)
      have HX := Lib.hid (HX.out.call hal)
      have HJ := Lib.hid (HJ.out.call hal)
      have HL := Lib.hid (HL.out.call hal)
      have HR := Lib.hid (HR.out.call hal)
      have HJ2 := Lib.hid (HJ2.out.call hal)
      have HD := Lib.hid (HD.out.below hal)
      have HB := Lib.hid (btrans HB.out HB.out.size hal); clear hal
      go_upto_region 6 with (fail)
      clear y0 l0
      generalize hW : w2.alloc (.cells #[.int .i64 (j.x.g + 1)] 2) = v2 at HX HJ HL HR HJ2 HD HB HG ⊢
      clear hW
      have zg := HG.out.lt
      have x0 : v2.cell? ⟨w.heap.size, 0, none⟩ = some (.slice sa d.S.length sc) := HX.out.cell 0
      have x1 : v2.cell? ⟨w.heap.size, 1, none⟩ = some (.slice pa d.P.length pc) := HX.out.cell 1
      have x2 : v2.cell? ⟨w.heap.size, 2, none⟩ = some (.int .i64 d.fuse) := HX.out.cell 2
      have x3 : v2.cell? ⟨w.heap.size, 3, none⟩ = some (.int .i64 d.ops) := HX.out.cell 3
      have x4 : v2.cell? ⟨w.heap.size, 4, none⟩ = some (.bool d.dead) := HX.out.cell 4
      go_wp2_with fail
      refine (Areas_any _ _ _ _ d _ HD.out).mono ?_
      rw [areas_ok HV.out]
      rintro er w3 ⟨rfl, hb1⟩
      clear x0 x1 x2 x3 x4
      have HX := Lib.hid (HX.out.call hb1)
      have HJ := Lib.hid (HJ.out.call hb1)
      have HL := Lib.hid (HL.out.call hb1)
      have HR := Lib.hid (HR.out.call hb1)
      have HJ2 := Lib.hid (HJ2.out.call hb1)
      have HG := Lib.hid (HG.out.call hb1)
      have HD := Lib.hid (HD.out.below hb1)
      have HB := Lib.hid (btrans HB.out HB.out.size hb1); clear hb1
      have zg3 := HG.out.lt
      have hal := (Below.refl w3.heap.size w3).alloc (Nat.le_refl _) (.cells #[.int .i64 (arN d : Int)] 3)
      have HA := Lib.hid (Bx.new w3 #[.int .i64 (arN d : Int)] 3)
      have HX := Lib.hid (HX.out.call hal)
      have HJ := Lib.hid (HJ.out.call hal)
      have HL := Lib.hid (HL.out.call hal)
      have HR := Lib.hid (HR.out.call hal)
      have HJ2 := Lib.hid (HJ2.out.call hal)
      have HG := Lib.hid (HG.out.call hal)
      have HD := Lib.hid (HD.out.below hal)
      have HB := Lib.hid (btrans HB.out HB.out.size hal); clear hal
      go_upto_region 7 with (fail)
      generalize hW : w3.alloc (.cells #[.int .i64 (arN d : Int)] 3) = v3 at HX HJ HL HR HJ2 HD HB HG HA ⊢
      clear hW
      have za := HA.out.lt
      obtain ⟨⟨SL, es⟩, hsp⟩ : ∃ r, splitS (j.x.g + 1) l = r := ⟨_, rfl⟩
      have HSP := Lib.hid hsp; have hsl := split_len (j.x.g + 1) l
      rw [hsp] at hsl
      simp only at hsl
      clear hsp
      have g0 : v3.cell? ⟨w2.heap.size, 0, none⟩ = some (.int .i64 (j.x.g + 1)) := HG.out.cell 0
      have l0 : v3.cell? ⟨w.heap.size + 2, 0, none⟩ = some (.string (bs l)) := HL.out.cell 0
      go_wp2_with fail
      refine (Split_any _ l _ hl).mono ?_
      rw [HSP.out]
      rintro er w4 ⟨v, rfl, hown, hb1⟩
      clear g0 l0
      obtain ⟨pa2, pc2, rfl⟩ := own_slice hown
      clear hown
      have HX := Lib.hid (HX.out.call hb1)
      have HJ := Lib.hid (HJ.out.call hb1)
      have HL := Lib.hid (HL.out.call hb1)
      have HR := Lib.hid (HR.out.call hb1)
      have HJ2 := Lib.hid (HJ2.out.call hb1)
      have HG := Lib.hid (HG.out.call hb1)
      have HA := Lib.hid (HA.out.call hb1)
      have HD := Lib.hid (HD.out.below hb1)
      have HB := Lib.hid (btrans HB.out HB.out.size hb1); clear hb1
      by_cases he : es = 0
      rotate_left
      · have te : (es != 0) = true := by rw [bne_iff_ne]; exact he
        have HE := Lib.hid he; clear he
        have hres : resW d j l p = (d, j0, es) := resE_split HRA.out HLIM.out HSP.out HE.out
        have HRES := Lib.hid hres; clear hres
        have x0 : w4.cell? ⟨w.heap.size, 0, none⟩ = some (.slice sa d.S.length sc) := HX.out.cell 0
        have x1 : w4.cell? ⟨w.heap.size, 1, none⟩ = some (.slice pa d.P.length pc) := HX.out.cell 1
        have x2 : w4.cell? ⟨w.heap.size, 2, none⟩ = some (.int .i64 d.fuse) := HX.out.cell 2
        have x3 : w4.cell? ⟨w.heap.size, 3, none⟩ = some (.int .i64 d.ops) := HX.out.cell 3
        have x4 : w4.cell? ⟨w.heap.size, 4, none⟩ = some (.bool d.dead) := HX.out.cell 4
        have zcl : d.P.length ≤ 9000000000000 := by omega
        go_wp2_with fail
        refine (clone_w _ _ _ _ d _ HD.out).mono ?_
        rintro er wc ⟨a1, c1, a2, c2, rfl, hO1, hb1⟩
        clear x0 x1 x2 x3 x4
        have HLC := Lib.hid (hO1.lists (d := d) zcl hszS); clear hO1
        have HR := Lib.hid (HR.out.call hb1)
        have HJ2 := Lib.hid (HJ2.out.call hb1)
        have HB := Lib.hid (btrans HB.out HB.out.size hb1); clear hb1
        have zj := HJ2.out.lt
        have r0 : wc.cell? ⟨(w.heap.size + 3), 0, none⟩ = some (.slice none 0 0) := HR.out.cell 0
        have r1 : wc.cell? ⟨(w.heap.size + 3), 1, none⟩ = some (.slice none 0 0) := HR.out.cell 1
        have r2 : wc.cell? ⟨(w.heap.size + 3), 2, none⟩ = some (.int .i64 0) := HR.out.cell 2
        have r3 : wc.cell? ⟨(w.heap.size + 3), 3, none⟩ = some (.int .i64 0) := HR.out.cell 3
        have r4 : wc.cell? ⟨(w.heap.size + 3), 4, none⟩ = some (.bool false) := HR.out.cell 4
        have q0 : wc.cell? ⟨(w.heap.size + 4), 0, none⟩ = some (.int .i64 0) := HJ2.out.cell 0
        have q1 : wc.cell? ⟨(w.heap.size + 4), 1, none⟩ = some (.int .i64 0) := HJ2.out.cell 1
        have q2 : wc.cell? ⟨(w.heap.size + 4), 2, none⟩ = some (.int .i64 0) := HJ2.out.cell 2
        have q3 : wc.cell? ⟨(w.heap.size + 4), 3, none⟩ = some (.int .i64 0) := HJ2.out.cell 3
        have q4 : wc.cell? ⟨(w.heap.size + 4), 4, none⟩ = some (.int .i64 0) := HJ2.out.cell 4
        have q5 : wc.cell? ⟨(w.heap.size + 4), 5, none⟩ = some (.int .i64 0) := HJ2.out.cell 5
        have q6 : wc.cell? ⟨(w.heap.size + 4), 6, none⟩ = some (.int .i64 0) := HJ2.out.cell 6
        have f0 := HR.out.free 0
        have f1 := HR.out.free 1
        have f2 := HR.out.free 2
        have f3 := HR.out.free 3
        have f4 := HR.out.free 4
        have p0 := HJ2.out.free 0
        have p1 := HJ2.out.free 1
        have p2 := HJ2.out.free 2
        have p3 := HJ2.out.free 3
        have p4 := HJ2.out.free 4
        have p5 := HJ2.out.free 5
        have p6 := HJ2.out.free 6
        have HJ3 := Lib.hid (HJ2.out.sets_ne (c := w.heap.size + 3) (by omega) (.slice a1 d.S.length c1) (.slice a2 d.P.length c2) (.int .i64 d.fuse) (.int .i64 d.ops) (.bool d.dead))
        have KR := Lib.hid ((HR.out.sets (.slice a1 d.S.length c1) (.slice a2 d.P.length c2) (.int .i64 d.fuse) (.int .i64 d.ops) (.bool d.dead)).sets7_ne (c := w.heap.size + 4) (by omega) (.int .i64 0) (.int .i64 0) (.int .i64 0) (.int .i64 0) (.int .i64 0) (.int .i64 0) (.int .i64 0))
        have KJ := Lib.hid (HJ3.out.sets7 (.int .i64 0) (.int .i64 0) (.int .i64 0) (.int .i64 0) (.int .i64 0) (.int .i64 0) (.int .i64 0))
        have KL := Lib.hid ((HLC.out.sets_box HR.out (.slice a1 d.S.length c1) (.slice a2 d.P.length c2) (.int .i64 d.fuse) (.int .i64 d.ops) (.bool d.dead)).sets7i HJ3.out (.int .i64 0) (.int .i64 0) (.int .i64 0) (.int .i64 0) (.int .i64 0) (.int .i64 0) (.int .i64 0))
        have KB := Lib.hid (below_sets7 (below_sets HB.out (w.heap.size + 3) (by omega) (.slice a1 d.S.length c1) (.slice a2 d.P.length c2) (.int .i64 d.fuse) (.int .i64 d.ops) (.bool d.dead)) (w.heap.size + 4) (by omega) (.int .i64 0) (.int .i64 0) (.int .i64 0) (.int .i64 0) (.int .i64 0) (.int .i64 0) (.int .i64 0))
        go_wp2
        have k0 := KR.out.cell 0
        have k1 := KR.out.cell 1
        have k2 := KR.out.cell 2
        have k3 := KR.out.cell 3
        have k4 := KR.out.cell 4
        have m0 := KJ.out.cell 0
        have m1 := KJ.out.cell 1
        have m2 := KJ.out.cell 2
        have m3 := KJ.out.cell 3
        have m4 := KJ.out.cell 4
        have m5 := KJ.out.cell 5
        have m6 := KJ.out.cell 6
        simp only [List.getElem?_toArray, List.getElem?_cons_zero, List.getElem?_cons_succ] at k0 k1 k2 k3 k4 m0 m1 m2 m3 m4 m5 m6
        refine bodyPost_ret (v := .tuple #[.agg #[.slice a1 d.S.length c1, .slice a2 d.P.length c2, .int .i64 d.fuse, .int .i64 d.ops, .bool d.dead], .agg #[.int .i64 0, .int .i64 0, .int .i64 0, .int .i64 0, .int .i64 0, .int .i64 0, .int .i64 0], .int .i64 es]) (by simp [results, Try.results45, go_sem, k0, k1, k2, k3, k4, m0, m1, m2, m3, m4, m5, m6]) rfl ?_
        exact APost.mk (d, j0, es) a1 c1 a2 c2 rfl KL.out KB.out HRES.out
      subst he
      have a0 : w4.cell? ⟨w3.heap.size, 0, none⟩ = some (.int .i64 (arN d : Int)) := HA.out.cell 0
      by_cases hf : (arN d : Int) < (SL.length : Int)
      · skip
        have hres : resW d j l p = (d, j0, 17) := resE_full HRA.out HLIM.out HSP.out (by omega)
        have HRES := Lib.hid hres; clear hres
        have x0 : w4.cell? ⟨w.heap.size, 0, none⟩ = some (.slice sa d.S.length sc) := HX.out.cell 0
        have x1 : w4.cell? ⟨w.heap.size, 1, none⟩ = some (.slice pa d.P.length pc) := HX.out.cell 1
        have x2 : w4.cell? ⟨w.heap.size, 2, none⟩ = some (.int .i64 d.fuse) := HX.out.cell 2
        have x3 : w4.cell? ⟨w.heap.size, 3, none⟩ = some (.int .i64 d.ops) := HX.out.cell 3
        have x4 : w4.cell? ⟨w.heap.size, 4, none⟩ = some (.bool d.dead) := HX.out.cell 4
        have zcl : d.P.length ≤ 9000000000000 := by omega
        go_wp2_with fail
        refine (clone_w _ _ _ _ d _ HD.out).mono ?_
        rintro er wc ⟨a1, c1, a2, c2, rfl, hO1, hb1⟩
        clear x0 x1 x2 x3 x4
        have HLC := Lib.hid (hO1.lists (d := d) zcl hszS); clear hO1
        have HR := Lib.hid (HR.out.call hb1)
        have HJ2 := Lib.hid (HJ2.out.call hb1)
        have HB := Lib.hid (btrans HB.out HB.out.size hb1); clear hb1
        have zj := HJ2.out.lt
        have r0 : wc.cell? ⟨(w.heap.size + 3), 0, none⟩ = some (.slice none 0 0) := HR.out.cell 0
        have r1 : wc.cell? ⟨(w.heap.size + 3), 1, none⟩ = some (.slice none 0 0) := HR.out.cell 1
        have r2 : wc.cell? ⟨(w.heap.size + 3), 2, none⟩ = some (.int .i64 0) := HR.out.cell 2
        have r3 : wc.cell? ⟨(w.heap.size + 3), 3, none⟩ = some (.int .i64 0) := HR.out.cell 3
        have r4 : wc.cell? ⟨(w.heap.size + 3), 4, none⟩ = some (.bool false) := HR.out.cell 4
        have q0 : wc.cell? ⟨(w.heap.size + 4), 0, none⟩ = some (.int .i64 0) := HJ2.out.cell 0
        have q1 : wc.cell? ⟨(w.heap.size + 4), 1, none⟩ = some (.int .i64 0) := HJ2.out.cell 1
        have q2 : wc.cell? ⟨(w.heap.size + 4), 2, none⟩ = some (.int .i64 0) := HJ2.out.cell 2
        have q3 : wc.cell? ⟨(w.heap.size + 4), 3, none⟩ = some (.int .i64 0) := HJ2.out.cell 3
        have q4 : wc.cell? ⟨(w.heap.size + 4), 4, none⟩ = some (.int .i64 0) := HJ2.out.cell 4
        have q5 : wc.cell? ⟨(w.heap.size + 4), 5, none⟩ = some (.int .i64 0) := HJ2.out.cell 5
        have q6 : wc.cell? ⟨(w.heap.size + 4), 6, none⟩ = some (.int .i64 0) := HJ2.out.cell 6
        have f0 := HR.out.free 0
        have f1 := HR.out.free 1
        have f2 := HR.out.free 2
        have f3 := HR.out.free 3
        have f4 := HR.out.free 4
        have p0 := HJ2.out.free 0
        have p1 := HJ2.out.free 1
        have p2 := HJ2.out.free 2
        have p3 := HJ2.out.free 3
        have p4 := HJ2.out.free 4
        have p5 := HJ2.out.free 5
        have p6 := HJ2.out.free 6
        have HJ3 := Lib.hid (HJ2.out.sets_ne (c := w.heap.size + 3) (by omega) (.slice a1 d.S.length c1) (.slice a2 d.P.length c2) (.int .i64 d.fuse) (.int .i64 d.ops) (.bool d.dead))
        have KR := Lib.hid ((HR.out.sets (.slice a1 d.S.length c1) (.slice a2 d.P.length c2) (.int .i64 d.fuse) (.int .i64 d.ops) (.bool d.dead)).sets7_ne (c := w.heap.size + 4) (by omega) (.int .i64 0) (.int .i64 0) (.int .i64 0) (.int .i64 0) (.int .i64 0) (.int .i64 0) (.int .i64 0))
        have KJ := Lib.hid (HJ3.out.sets7 (.int .i64 0) (.int .i64 0) (.int .i64 0) (.int .i64 0) (.int .i64 0) (.int .i64 0) (.int .i64 0))
        have KL := Lib.hid ((HLC.out.sets_box HR.out (.slice a1 d.S.length c1) (.slice a2 d.P.length c2) (.int .i64 d.fuse) (.int .i64 d.ops) (.bool d.dead)).sets7i HJ3.out (.int .i64 0) (.int .i64 0) (.int .i64 0) (.int .i64 0) (.int .i64 0) (.int .i64 0) (.int .i64 0))
        have KB := Lib.hid (below_sets7 (below_sets HB.out (w.heap.size + 3) (by omega) (.slice a1 d.S.length c1) (.slice a2 d.P.length c2) (.int .i64 d.fuse) (.int .i64 d.ops) (.bool d.dead)) (w.heap.size + 4) (by omega) (.int .i64 0) (.int .i64 0) (.int .i64 0) (.int .i64 0) (.int .i64 0) (.int .i64 0) (.int .i64 0))
        go_wp2
        have k0 := KR.out.cell 0
        have k1 := KR.out.cell 1
        have k2 := KR.out.cell 2
        have k3 := KR.out.cell 3
        have k4 := KR.out.cell 4
        have m0 := KJ.out.cell 0
        have m1 := KJ.out.cell 1
        have m2 := KJ.out.cell 2
        have m3 := KJ.out.cell 3
        have m4 := KJ.out.cell 4
        have m5 := KJ.out.cell 5
        have m6 := KJ.out.cell 6
        simp only [List.getElem?_toArray, List.getElem?_cons_zero, List.getElem?_cons_succ] at k0 k1 k2 k3 k4 m0 m1 m2 m3 m4 m5 m6
        refine bodyPost_ret (v := .tuple #[.agg #[.slice a1 d.S.length c1, .slice a2 d.P.length c2, .int .i64 d.fuse, .int .i64 d.ops, .bool d.dead], .agg #[.int .i64 0, .int .i64 0, .int .i64 0, .int .i64 0, .int .i64 0, .int .i64 0, .int .i64 0], .int .i64 17]) (by simp [results, Try.results45, go_sem, k0, k1, k2, k3, k4, m0, m1, m2, m3, m4, m5, m6]) rfl ?_
        exact APost.mk (d, j0, 17) a1 c1 a2 c2 rfl KL.out KB.out HRES.out
      have zj4 := HJ2.out.lt; have zg4 := HG.out.lt; have za4b := HA.out.lt
      have hal := (Below.refl w4.heap.size w4).alloc (Nat.le_refl _) (.cells #[.int .i64 1] 3)
      have HAR := Lib.hid (Bx.new w4 #[.int .i64 1] 3)
      have HX := Lib.hid (HX.out.call hal)
      have HJ := Lib.hid (HJ.out.call hal)
      have HL := Lib.hid (HL.out.call hal)
      have HR := Lib.hid (HR.out.call hal)
      have HJ2 := Lib.hid (HJ2.out.call hal)
      have HG := Lib.hid (HG.out.call hal)
      have HA := Lib.hid (HA.out.call hal)
      have HD := Lib.hid (HD.out.below hal)
      have HB := Lib.hid (btrans HB.out HB.out.size hal); clear hal
      go_upto_region 13 with (fail)
      clear a0
      generalize hW : w4.alloc (.cells #[.int .i64 1] 3) = v4 at HX HJ HL HR HJ2 HD HB HG HA HAR ⊢
      clear hW
      obtain ⟨t, ht⟩ : ∃ t : Bool, (j.x.a == 1) = t := ⟨_, rfl⟩
      have y2 : v4.cell? ⟨w.heap.size + 1, 2, none⟩ = some (.int .i64 j.x.a) := HJ.out.cell 2
      go_upto_if 89 with (fail)
      clear y2
      have HTT := Lib.hid ht; clear ht
      go_cut [17] from 21 to 116 (fun s17 W => s17 = .pointer (some ⟨w4.heap.size, 0, none⟩) ∧ Bx w4.heap.size #[.int .i64 (otherA j.x)] 3 W ∧ KpB w4.heap.size v4 W)
      case first =>
        cases t with
        | false =>
          have hoa : otherA j.x = 1 := by have h := HTT.out; unfold otherA; rw [if_neg (by simpa using h)]
          have HOA := Lib.hid hoa; clear hoa
          go_wp2_with fail
          go_meet
          exact ⟨rfl, by rw [HOA.out]; exact HAR.out, KpB.refl _ _⟩
        | true =>
          have hoa : otherA j.x = 2 := by have h := HTT.out; unfold otherA; rw [if_pos (by simpa using h)]
          have HOA := Lib.hid hoa; clear hoa
          have r0 : v4.cell? ⟨w4.heap.size, 0, none⟩ = some (.int .i64 1) := HAR.out.cell 0
          have f0 := HAR.out.free 0
          go_wp2_with fail
          go_meet
          exact ⟨rfl, by rw [HOA.out]; exact HAR.out.set 0 _, (KpB.refl _ _).set 0 _⟩
      case rest =>
        obtain ⟨rfl, h1, h2⟩ := hcut
        have HX := Lib.hid (h2.bx HX.out (by omega))
        have HJ := Lib.hid (h2.bx HJ.out (by omega))
        have HL := Lib.hid (h2.bx HL.out (by omega))
        have HR := Lib.hid (h2.bx HR.out (by omega))
        have HJ2 := Lib.hid (h2.bx HJ2.out (by omega))
        have HG := Lib.hid (h2.bx HG.out (by omega))
        have HA := Lib.hid (h2.bx HA.out (by omega))
        have HD := Lib.hid (h2.lists1 HD.out HAR.out); have HB := Lib.hid (h2.out HB.out (by omega)); have HAR := Lib.hid h1; clear h1 h2
        have zr := HAR.out.lt
        have hoa : 1 ≤ otherA j.x ∧ otherA j.x ≤ 2 := by unfold otherA; split <;> decide
        have HOA := Lib.hid hoa; clear hoa
        have g0 : wc.cell? ⟨w2.heap.size, 0, none⟩ = some (.int .i64 (j.x.g + 1)) := HG.out.cell 0
        have r0 : wc.cell? ⟨w4.heap.size, 0, none⟩ = some (.int .i64 (otherA j.x)) := HAR.out.cell 0
        have l0 : wc.cell? ⟨w.heap.size + 2, 0, none⟩ = some (.string (bs l)) := HL.out.cell 0
        have hal := (Below.refl wc.heap.size wc).alloc (Nat.le_refl _) (.cells #[.int .i64 (j.x.g + 1), .int .i64 (j.x.g + 1), .int .i64 (otherA j.x), .int .i64 (l.length : Int), .int .i64 p] 23)
        have HXB := Lib.hid (Bx.new wc #[.int .i64 (j.x.g + 1), .int .i64 (j.x.g + 1), .int .i64 (otherA j.x), .int .i64 (l.length : Int), .int .i64 p] 23)
        have HX := Lib.hid (HX.out.call hal)
        have HJ := Lib.hid (HJ.out.call hal)
        have HL := Lib.hid (HL.out.call hal)
        have HR := Lib.hid (HR.out.call hal)
        have HJ2 := Lib.hid (HJ2.out.call hal)
        have HG := Lib.hid (HG.out.call hal)
        have HA := Lib.hid (HA.out.call hal)
        have HAR := Lib.hid (HAR.out.call hal)
        have HD := Lib.hid (HD.out.below hal)
        have HB := Lib.hid (btrans HB.out HB.out.size hal); clear hal
        go_upto_region 16 with (fail)
        clear g0 r0 l0
        generalize hW : wc.alloc (.cells #[.int .i64 (j.x.g + 1), .int .i64 (j.x.g + 1), .int .i64 (otherA j.x), .int .i64 (l.length : Int), .int .i64 p] 23) = v5 at HX HJ HL HR HJ2 HD HB HG HA HAR HXB ⊢
        clear hW
        have zx := HXB.out.lt
        have x0 : v5.cell? ⟨w.heap.size, 0, none⟩ = some (.slice sa d.S.length sc) := HX.out.cell 0
        have x1 : v5.cell? ⟨w.heap.size, 1, none⟩ = some (.slice pa d.P.length pc) := HX.out.cell 1
        have x2 : v5.cell? ⟨w.heap.size, 2, none⟩ = some (.int .i64 d.fuse) := HX.out.cell 2
        have x3 : v5.cell? ⟨w.heap.size, 3, none⟩ = some (.int .i64 d.ops) := HX.out.cell 3
        have x4 : v5.cell? ⟨w.heap.size, 4, none⟩ = some (.bool d.dead) := HX.out.cell 4
        have hal := ((Below.refl v5.heap.size v5).alloc (Nat.le_refl _) (.cells #[.slice sa d.S.length sc, .slice pa d.P.length pc, .int .i64 d.fuse, .int .i64 d.ops, .bool d.dead] 116)).alloc (by simp) (.cells #[.pointer (some ⟨v5.heap.size, 0, none⟩)] 114)
        have HW := Lib.hid ((Bx.new v5 #[.slice sa d.S.length sc, .slice pa d.P.length pc, .int .i64 d.fuse, .int .i64 d.ops, .bool d.dead] 116).alloc (.cells #[.pointer (some ⟨v5.heap.size, 0, none⟩)] 114))
        have HV2 := Lib.hid (Bx.new1 v5 (.cells #[.slice sa d.S.length sc, .slice pa d.P.length pc, .int .i64 d.fuse, .int .i64 d.ops, .bool d.dead] 116) #[.pointer (some ⟨v5.heap.size, 0, none⟩)] 114)
        have HX := Lib.hid (HX.out.call hal)
        have HJ := Lib.hid (HJ.out.call hal)
        have HL := Lib.hid (HL.out.call hal)
        have HR := Lib.hid (HR.out.call hal)
        have HJ2 := Lib.hid (HJ2.out.call hal)
        have HG := Lib.hid (HG.out.call hal)
        have HA := Lib.hid (HA.out.call hal)
        have HAR := Lib.hid (HAR.out.call hal)
        have HXB := Lib.hid (HXB.out.call hal)
        have HD := Lib.hid (HD.out.below hal)
        have HB := Lib.hid (btrans HB.out HB.out.size hal); clear hal
        go_upto_region 17 with (fail)
        clear x0 x1 x2 x3 x4
        generalize hW : (v5.alloc (.cells #[.slice sa d.S.length sc, .slice pa d.P.length pc, .int .i64 d.fuse, .int .i64 d.ops, .bool d.dead] 116)).alloc (.cells #[.pointer (some ⟨v5.heap.size, 0, none⟩)] 114) = v6 at HX HJ HL HR HJ2 HD HB HG HA HAR HXB HW HV2 ⊢
        clear hW
        have zv := HV2.out.lt
        obtain ⟨r, hr⟩ : ∃ r, resQ SL d (2 + (otherA j.x - 1) * (arN d : Int)) (resX j l p) = r := ⟨_, rfl⟩
        have HRR := Lib.hid hr
        have hmf : ∀ (fn : Fn) (first cap : Array Value) (w : World), (Instr.makeFunc fn first cap).run Try.prog w = .ok (.func fn first cap) w := fun _ _ _ _ => rfl
        have v0c : v6.cell? ⟨v5.heap.size + 1, 0, none⟩ = some (.pointer (some ⟨v5.heap.size, 0, none⟩)) := HV2.out.cell 0
        have hal := (Below.refl v6.heap.size v6).alloc (Nat.le_refl _) (.cells #[.int .i64 0] 24)
        have hcl := res1_any (v5.heap.size + 1) w2.heap.size w4.heap.size w3.heap.size (w.heap.size + 2) wc.heap.size v5.heap.size sa pa sc pc d (resX j l p) (j.x.g + 1) (otherA j.x) (arN d : Int) l SL _ (HV2.out.call hal) (HG.out.call hal) (HAR.out.call hal) (HA.out.call hal) (HL.out.call hal) (HXB.out.call hal) (HW.out.call hal) (HD.out.below hal) hl HSP.out HOA.out.1 HOA.out.2 (by omega) (by omega) hp (by omega) (by omega)
        rw [hr] at hcl
        have HCL := Lib.hid hcl; clear hcl hal hr
        have zb3 := HW.out.lt
        go_wp2_with fail
        refine (run_any _ _ v5.heap.size r _ (fun w => by simp [go_sem]) zb3 HCL.out).mono ?_
        rintro er w7 ⟨a3, c3, a4, c4, rfl, hW4, hL4, hK4⟩
        clear v0c hmf HCL
        have HR := Lib.hid (hK4.bx HR.out (by omega))
        have HJ2 := Lib.hid (hK4.bx HJ2.out (by omega))
        have HV2 := Lib.hid (hK4.bx HV2.out (by omega))
        have HXB := Lib.hid (hK4.bx HXB.out (by omega))
        have HB := Lib.hid (hK4.out HB.out (by omega)); have HW := Lib.hid hW4; have HL4 := Lib.hid hL4
        have zs4 := hK4.size
        clear hW4 hL4 hK4 HX HL HD HG HA HAR HJ
        obtain ⟨rd, re⟩ := r
        have zj7 := HJ2.out.lt
        by_cases hfe : re = 0
        rotate_left
        · have tf : (re != 0) = true := by rw [bne_iff_ne]; exact hfe
          have HFE := Lib.hid hfe; clear hfe
          have hres : resW d j l p = (rd, j0, re) := by rw [resE_go HRA.out HLIM.out HSP.out (by omega) HRR.out, if_neg HFE.out]
          have HRES := Lib.hid hres; clear hres
          have n0 : w7.cell? ⟨v5.heap.size, 0, none⟩ = some (.slice a3 rd.S.length c3) := HW.out.cell 0
          have n1 : w7.cell? ⟨v5.heap.size, 1, none⟩ = some (.slice a4 rd.P.length c4) := HW.out.cell 1
          have n2 : w7.cell? ⟨v5.heap.size, 2, none⟩ = some (.int .i64 rd.fuse) := HW.out.cell 2
          have n3 : w7.cell? ⟨v5.heap.size, 3, none⟩ = some (.int .i64 rd.ops) := HW.out.cell 3
          have n4 : w7.cell? ⟨v5.heap.size, 4, none⟩ = some (.bool rd.dead) := HW.out.cell 4
          have v0c : w7.cell? ⟨v5.heap.size + 1, 0, none⟩ = some (.pointer (some ⟨v5.heap.size, 0, none⟩)) := HV2.out.cell 0
          have r0 : w7.cell? ⟨(w.heap.size + 3), 0, none⟩ = some (.slice none 0 0) := HR.out.cell 0
          have r1 : w7.cell? ⟨(w.heap.size + 3), 1, none⟩ = some (.slice none 0 0) := HR.out.cell 1
          have r2 : w7.cell? ⟨(w.heap.size + 3), 2, none⟩ = some (.int .i64 0) := HR.out.cell 2
          have r3 : w7.cell? ⟨(w.heap.size + 3), 3, none⟩ = some (.int .i64 0) := HR.out.cell 3
          have r4 : w7.cell? ⟨(w.heap.size + 3), 4, none⟩ = some (.bool false) := HR.out.cell 4
          have q0 : w7.cell? ⟨(w.heap.size + 4), 0, none⟩ = some (.int .i64 0) := HJ2.out.cell 0
          have q1 : w7.cell? ⟨(w.heap.size + 4), 1, none⟩ = some (.int .i64 0) := HJ2.out.cell 1
          have q2 : w7.cell? ⟨(w.heap.size + 4), 2, none⟩ = some (.int .i64 0) := HJ2.out.cell 2
          have q3 : w7.cell? ⟨(w.heap.size + 4), 3, none⟩ = some (.int .i64 0) := HJ2.out.cell 3
          have q4 : w7.cell? ⟨(w.heap.size + 4), 4, none⟩ = some (.int .i64 0) := HJ2.out.cell 4
          have q5 : w7.cell? ⟨(w.heap.size + 4), 5, none⟩ = some (.int .i64 0) := HJ2.out.cell 5
          have q6 : w7.cell? ⟨(w.heap.size + 4), 6, none⟩ = some (.int .i64 0) := HJ2.out.cell 6
          have f0 := HR.out.free 0
          have f1 := HR.out.free 1
          have f2 := HR.out.free 2
          have f3 := HR.out.free 3
          have f4 := HR.out.free 4
          have p0 := HJ2.out.free 0
          have p1 := HJ2.out.free 1
          have p2 := HJ2.out.free 2
          have p3 := HJ2.out.free 3
          have p4 := HJ2.out.free 4
          have p5 := HJ2.out.free 5
          have p6 := HJ2.out.free 6
          have HJ3 := Lib.hid (HJ2.out.sets_ne (c := w.heap.size + 3) (by omega) (.slice a3 rd.S.length c3) (.slice a4 rd.P.length c4) (.int .i64 rd.fuse) (.int .i64 rd.ops) (.bool rd.dead))
          have KR := Lib.hid ((HR.out.sets (.slice a3 rd.S.length c3) (.slice a4 rd.P.length c4) (.int .i64 rd.fuse) (.int .i64 rd.ops) (.bool rd.dead)).sets7_ne (c := w.heap.size + 4) (by omega) (.int .i64 0) (.int .i64 0) (.int .i64 0) (.int .i64 0) (.int .i64 0) (.int .i64 0) (.int .i64 0))
          have KJ := Lib.hid (HJ3.out.sets7 (.int .i64 0) (.int .i64 0) (.int .i64 0) (.int .i64 0) (.int .i64 0) (.int .i64 0) (.int .i64 0))
          have KL := Lib.hid ((HL4.out.sets_box HR.out (.slice a3 rd.S.length c3) (.slice a4 rd.P.length c4) (.int .i64 rd.fuse) (.int .i64 rd.ops) (.bool rd.dead)).sets7i HJ3.out (.int .i64 0) (.int .i64 0) (.int .i64 0) (.int .i64 0) (.int .i64 0) (.int .i64 0) (.int .i64 0))
          have KB := Lib.hid (below_sets7 (below_sets HB.out (w.heap.size + 3) (by omega) (.slice a3 rd.S.length c3) (.slice a4 rd.P.length c4) (.int .i64 rd.fuse) (.int .i64 rd.ops) (.bool rd.dead)) (w.heap.size + 4) (by omega) (.int .i64 0) (.int .i64 0) (.int .i64 0) (.int .i64 0) (.int .i64 0) (.int .i64 0) (.int .i64 0))
          go_wp2
          have k0 := KR.out.cell 0
          have k1 := KR.out.cell 1
          have k2 := KR.out.cell 2
          have k3 := KR.out.cell 3
          have k4 := KR.out.cell 4
          have m0 := KJ.out.cell 0
          have m1 := KJ.out.cell 1
          have m2 := KJ.out.cell 2
          have m3 := KJ.out.cell 3
          have m4 := KJ.out.cell 4
          have m5 := KJ.out.cell 5
          have m6 := KJ.out.cell 6
          simp only [List.getElem?_toArray, List.getElem?_cons_zero, List.getElem?_cons_succ] at k0 k1 k2 k3 k4 m0 m1 m2 m3 m4 m5 m6
          refine bodyPost_ret (v := .tuple #[.agg #[.slice a3 rd.S.length c3, .slice a4 rd.P.length c4, .int .i64 rd.fuse, .int .i64 rd.ops, .bool rd.dead], .agg #[.int .i64 0, .int .i64 0, .int .i64 0, .int .i64 0, .int .i64 0, .int .i64 0, .int .i64 0], .int .i64 re]) (by simp [results, Try.results45, go_sem, k0, k1, k2, k3, k4, m0, m1, m2, m3, m4, m5, m6]) rfl ?_
          exact APost.mk (rd, j0, re) a3 c3 a4 c4 rfl KL.out KB.out HRES.out
        subst hfe
        have hres : resW d j l p = (rd, ⟨resX j l p, 0, 0⟩, 0) := by rw [resE_go HRA.out HLIM.out HSP.out (by omega) HRR.out, if_pos rfl]
        have HRES := Lib.hid hres; clear hres
        have n0 : w7.cell? ⟨v5.heap.size, 0, none⟩ = some (.slice a3 rd.S.length c3) := HW.out.cell 0
        have n1 : w7.cell? ⟨v5.heap.size, 1, none⟩ = some (.slice a4 rd.P.length c4) := HW.out.cell 1
        have n2 : w7.cell? ⟨v5.heap.size, 2, none⟩ = some (.int .i64 rd.fuse) := HW.out.cell 2
        have n3 : w7.cell? ⟨v5.heap.size, 3, none⟩ = some (.int .i64 rd.ops) := HW.out.cell 3
        have n4 : w7.cell? ⟨v5.heap.size, 4, none⟩ = some (.bool rd.dead) := HW.out.cell 4
        have s0 : w7.cell? ⟨wc.heap.size, 0, none⟩ = some (.int .i64 (j.x.g + 1)) := HXB.out.cell 0
        have s1 : w7.cell? ⟨wc.heap.size, 1, none⟩ = some (.int .i64 (j.x.g + 1)) := HXB.out.cell 1
        have s2 : w7.cell? ⟨wc.heap.size, 2, none⟩ = some (.int .i64 (otherA j.x)) := HXB.out.cell 2
        have s3 : w7.cell? ⟨wc.heap.size, 3, none⟩ = some (.int .i64 (l.length : Int)) := HXB.out.cell 3
        have s4 : w7.cell? ⟨wc.heap.size, 4, none⟩ = some (.int .i64 p) := HXB.out.cell 4
        have v0c : w7.cell? ⟨v5.heap.size + 1, 0, none⟩ = some (.pointer (some ⟨v5.heap.size, 0, none⟩)) := HV2.out.cell 0
        have hsL : w7.drew.cell? ⟨(v5.heap.size), 0, none⟩ = some (.slice a3 rd.S.length c3) ∧ w7.drew.cell? ⟨(v5.heap.size), 1, none⟩ = some (.slice a4 rd.P.length c4) ∧ w7.drew.cell? ⟨(v5.heap.size), 2, none⟩ = some (.int .i64 rd.fuse) ∧ w7.drew.cell? ⟨(v5.heap.size), 3, none⟩ = some (.int .i64 rd.ops) ∧ w7.drew.cell? ⟨(v5.heap.size), 4, none⟩ = some (.bool rd.dead) ∧ w7.drew.cell? ⟨(wc.heap.size), 0, none⟩ = some (.int .i64 (j.x.g + 1)) ∧ w7.drew.cell? ⟨(wc.heap.size), 1, none⟩ = some (.int .i64 (j.x.g + 1)) ∧ w7.drew.cell? ⟨(wc.heap.size), 2, none⟩ = some (.int .i64 (otherA j.x)) ∧ w7.drew.cell? ⟨(wc.heap.size), 3, none⟩ = some (.int .i64 (l.length : Int)) ∧ w7.drew.cell? ⟨(wc.heap.size), 4, none⟩ = some (.int .i64 p) ∧ w7.drew.cell? ⟨(v5.heap.size + 1), 0, none⟩ = some (.pointer (some ⟨v5.heap.size, 0, none⟩)) := ⟨n0, n1, n2, n3, n4, s0, s1, s2, s3, s4, v0c⟩
        have HSL := Lib.hid hsL; clear hsL n0 n1 n2 n3 n4 s0 s1 s2 s3 s4 v0c
        go_wp2_with fail
        refine wp_region_held_drew (S := (fun w' => w'.cell? ⟨(v5.heap.size), 0, none⟩ = some (.slice a3 rd.S.length c3) ∧ w'.cell? ⟨(v5.heap.size), 1, none⟩ = some (.slice a4 rd.P.length c4) ∧ w'.cell? ⟨(v5.heap.size), 2, none⟩ = some (.int .i64 rd.fuse) ∧ w'.cell? ⟨(v5.heap.size), 3, none⟩ = some (.int .i64 rd.ops) ∧ w'.cell? ⟨(v5.heap.size), 4, none⟩ = some (.bool rd.dead) ∧ w'.cell? ⟨(wc.heap.size), 0, none⟩ = some (.int .i64 (j.x.g + 1)) ∧ w'.cell? ⟨(wc.heap.size), 1, none⟩ = some (.int .i64 (j.x.g + 1)) ∧ w'.cell? ⟨(wc.heap.size), 2, none⟩ = some (.int .i64 (otherA j.x)) ∧ w'.cell? ⟨(wc.heap.size), 3, none⟩ = some (.int .i64 (l.length : Int)) ∧ w'.cell? ⟨(wc.heap.size), 4, none⟩ = some (.int .i64 p) ∧ w'.cell? ⟨(v5.heap.size + 1), 0, none⟩ = some (.pointer (some ⟨v5.heap.size, 0, none⟩)))) (by kernel_rfl) ?_ (fun hHeld => ?_)
        · exact HSL.out
        refine takeH (i := 0) (v := ?vv1) 111 rfl rfl (by kernel_rfl) (by kernel_rfl) (by kernel_rfl) (fun _ _ _ h => h) (Or.inl ⟨by kernel_rfl, ?yy1⟩) (by assumption) ?_
        case yy1 => intro w hSw; (try dsimp only at hSw); go_simp; (try with_reducible rfl)
        simp only [List.setIfInBounds_toArray, List.set_cons_zero, List.set_cons_succ]
        refine takeH (i := 1) (v := ?vv2) 112 rfl rfl (by kernel_rfl) (by kernel_rfl) (by kernel_rfl) (fun _ _ _ h => h) (Or.inl ⟨by kernel_rfl, ?yy2⟩) (by assumption) ?_
        case yy2 => intro w hSw; (try dsimp only at hSw); go_simp; (try with_reducible rfl)
        simp only [List.setIfInBounds_toArray, List.set_cons_zero, List.set_cons_succ]
        refine takeH (i := 2) (v := ?vv3) 113 rfl rfl (by kernel_rfl) (by kernel_rfl) (by kernel_rfl) (fun _ _ _ h => h) (Or.inl ⟨by kernel_rfl, ?yy3⟩) (by assumption) ?_
        case yy3 => intro w hSw; (try dsimp only at hSw); go_simp; (try with_reducible rfl)
        simp only [List.setIfInBounds_toArray, List.set_cons_zero, List.set_cons_succ]
        refine takeH (i := 3) (v := ?vv4) 114 rfl rfl (by kernel_rfl) (by kernel_rfl) (by kernel_rfl) (fun _ _ _ h => h) (Or.inl ⟨by kernel_rfl, ?yy4⟩) (by assumption) ?_
        case yy4 => intro w hSw; (try dsimp only at hSw); go_simp; (try with_reducible rfl)
        simp only [List.setIfInBounds_toArray, List.set_cons_zero, List.set_cons_succ]
        refine takeH (i := 4) (v := ?vv5) 115 rfl rfl (by kernel_rfl) (by kernel_rfl) (by kernel_rfl) (fun _ _ _ h => h) (Or.inl ⟨by kernel_rfl, ?yy5⟩) (by assumption) ?_
        case yy5 => intro w hSw; (try dsimp only at hSw); go_simp; (try with_reducible rfl)
        simp only [List.setIfInBounds_toArray, List.set_cons_zero, List.set_cons_succ]
        refine takeH (i := 5) (v := ?vv6) 116 rfl rfl (by kernel_rfl) (by kernel_rfl) (by kernel_rfl) (fun _ _ _ h => h) (Or.inl ⟨by kernel_rfl, ?yy6⟩) (by assumption) ?_
        case yy6 => intro w hSw; (try dsimp only at hSw); go_simp; (try with_reducible rfl)
        simp only [List.setIfInBounds_toArray, List.set_cons_zero, List.set_cons_succ]
        refine wpAnyH_ready (rs := [6]) (by kernel_rfl) (by simp) ?_
        refine (AllReadyH.cons rfl (fun K hK => ?_) AllReadyH.nil)
        have r0 : w7.cell? ⟨(w.heap.size + 3), 0, none⟩ = some (.slice none 0 0) := HR.out.cell 0
        have r1 : w7.cell? ⟨(w.heap.size + 3), 1, none⟩ = some (.slice none 0 0) := HR.out.cell 1
        have r2 : w7.cell? ⟨(w.heap.size + 3), 2, none⟩ = some (.int .i64 0) := HR.out.cell 2
        have r3 : w7.cell? ⟨(w.heap.size + 3), 3, none⟩ = some (.int .i64 0) := HR.out.cell 3
        have r4 : w7.cell? ⟨(w.heap.size + 3), 4, none⟩ = some (.bool false) := HR.out.cell 4
        have f0 : w7.frozen? ⟨(w.heap.size + 3), 0, none⟩ = false := HR.out.free 0
        have f1 : w7.frozen? ⟨(w.heap.size + 3), 1, none⟩ = false := HR.out.free 1
        have f2 : w7.frozen? ⟨(w.heap.size + 3), 2, none⟩ = false := HR.out.free 2
        have f3 : w7.frozen? ⟨(w.heap.size + 3), 3, none⟩ = false := HR.out.free 3
        have f4 : w7.frozen? ⟨(w.heap.size + 3), 4, none⟩ = false := HR.out.free 4
        go_simp
        refine hK.out _ _ ?_ (fun hHeld => ?_)
        · exact wc_xxxxxyyyyyz_5 (W := w7) (by assumption) (w.heap.size + 3) (by omega) (by omega) (by omega) _ _ _ _ _
        clear hK K
        (try simp only [Act.put, List.setIfInBounds_toArray, List.set_cons_zero, List.set_cons_succ])
        clear r0 r1 r2 r3 r4
        clear f0 f1 f2 f3 f4
        have HRa := Lib.hid (HR.out.sets (.slice a3 rd.S.length c3) (.slice a4 rd.P.length c4) (.int .i64 rd.fuse) (.int .i64 rd.ops) (.bool rd.dead)); have HJa := Lib.hid (HJ2.out.sets_ne (c := w.heap.size + 3) (by omega) (.slice a3 rd.S.length c3) (.slice a4 rd.P.length c4) (.int .i64 rd.fuse) (.int .i64 rd.ops) (.bool rd.dead)); have HBa := Lib.hid (below_sets HB.out (w.heap.size + 3) (by omega) (.slice a3 rd.S.length c3) (.slice a4 rd.P.length c4) (.int .i64 rd.fuse) (.int .i64 rd.ops) (.bool rd.dead)); have HLa := Lib.hid (HL4.out.sets_box HR.out (.slice a3 rd.S.length c3) (.slice a4 rd.P.length c4) (.int .i64 rd.fuse) (.int .i64 rd.ops) (.bool rd.dead))
        generalize hWE : (((((w7.setCell ⟨(w.heap.size + 3), 0, none⟩ (.slice a3 rd.S.length c3)).setCell ⟨(w.heap.size + 3), 1, none⟩ (.slice a4 rd.P.length c4)).setCell ⟨(w.heap.size + 3), 2, none⟩ (.int .i64 rd.fuse)).setCell ⟨(w.heap.size + 3), 3, none⟩ (.int .i64 rd.ops)).setCell ⟨(w.heap.size + 3), 4, none⟩ (.bool rd.dead)) = WE at HRa HJa HBa HLa hHeld ⊢
        clear hWE
        refine wpAnyH_ready (rs := [7]) (by kernel_rfl) (by simp) ?_
        refine (AllReadyH.cons rfl (fun K hK => ?_) AllReadyH.nil)
        have q0 : WE.cell? ⟨(w.heap.size + 4), 0, none⟩ = some (.int .i64 0) := HJa.out.cell 0
        have q1 : WE.cell? ⟨(w.heap.size + 4), 1, none⟩ = some (.int .i64 0) := HJa.out.cell 1
        have q2 : WE.cell? ⟨(w.heap.size + 4), 2, none⟩ = some (.int .i64 0) := HJa.out.cell 2
        have q3 : WE.cell? ⟨(w.heap.size + 4), 3, none⟩ = some (.int .i64 0) := HJa.out.cell 3
        have q4 : WE.cell? ⟨(w.heap.size + 4), 4, none⟩ = some (.int .i64 0) := HJa.out.cell 4
        have q5 : WE.cell? ⟨(w.heap.size + 4), 5, none⟩ = some (.int .i64 0) := HJa.out.cell 5
        have q6 : WE.cell? ⟨(w.heap.size + 4), 6, none⟩ = some (.int .i64 0) := HJa.out.cell 6
        have p0 : WE.frozen? ⟨(w.heap.size + 4), 0, none⟩ = false := HJa.out.free 0
        have p1 : WE.frozen? ⟨(w.heap.size + 4), 1, none⟩ = false := HJa.out.free 1
        have p2 : WE.frozen? ⟨(w.heap.size + 4), 2, none⟩ = false := HJa.out.free 2
        have p3 : WE.frozen? ⟨(w.heap.size + 4), 3, none⟩ = false := HJa.out.free 3
        have p4 : WE.frozen? ⟨(w.heap.size + 4), 4, none⟩ = false := HJa.out.free 4
        have p5 : WE.frozen? ⟨(w.heap.size + 4), 5, none⟩ = false := HJa.out.free 5
        have p6 : WE.frozen? ⟨(w.heap.size + 4), 6, none⟩ = false := HJa.out.free 6
        go_simp
        refine hK.out _ _ ?_ (fun hHeld => ?_)
        · exact wc_xxxxxyyyyyz_7 (W := WE) (by assumption) (w.heap.size + 4) (by omega) (by omega) (by omega) _ _ _ _ _ _ _
        clear hK K
        (try simp only [Act.put, List.setIfInBounds_toArray, List.set_cons_zero, List.set_cons_succ])
        refine takeH (i := 8) (v := ?vv7) 10 rfl rfl (by kernel_rfl) (by kernel_rfl) (by kernel_rfl) (fun _ _ _ h => h) (Or.inl ⟨by kernel_rfl, ?yy7⟩) (by assumption) ?_
        case yy7 => intro w hSw; (try dsimp only at hSw); go_simp; (try with_reducible rfl)
        simp only [List.setIfInBounds_toArray, List.set_cons_zero, List.set_cons_succ]
        refine wpAnyH_done (by kernel_rfl) ?_ _
        have KR := Lib.hid (HRa.out.sets7_ne (c := w.heap.size + 4) (by omega) (.int .i64 (j.x.g + 1)) (.int .i64 (j.x.g + 1)) (.int .i64 (otherA j.x)) (.int .i64 (l.length : Int)) (.int .i64 p) (.int .i64 0) (.int .i64 0)); have KJ := Lib.hid (HJa.out.sets7 (.int .i64 (j.x.g + 1)) (.int .i64 (j.x.g + 1)) (.int .i64 (otherA j.x)) (.int .i64 (l.length : Int)) (.int .i64 p) (.int .i64 0) (.int .i64 0)); have KL := Lib.hid (HLa.out.sets7i HJa.out (.int .i64 (j.x.g + 1)) (.int .i64 (j.x.g + 1)) (.int .i64 (otherA j.x)) (.int .i64 (l.length : Int)) (.int .i64 p) (.int .i64 0) (.int .i64 0)).drewD; have KB := Lib.hid (below_sets7 HBa.out (w.heap.size + 4) (by omega) (.int .i64 (j.x.g + 1)) (.int .i64 (j.x.g + 1)) (.int .i64 (otherA j.x)) (.int .i64 (l.length : Int)) (.int .i64 p) (.int .i64 0) (.int .i64 0)).drew
        go_wp2
        have k0 := KR.out.cell 0
        have k1 := KR.out.cell 1
        have k2 := KR.out.cell 2
        have k3 := KR.out.cell 3
        have k4 := KR.out.cell 4
        have m0 := KJ.out.cell 0
        have m1 := KJ.out.cell 1
        have m2 := KJ.out.cell 2
        have m3 := KJ.out.cell 3
        have m4 := KJ.out.cell 4
        have m5 := KJ.out.cell 5
        have m6 := KJ.out.cell 6
        simp only [List.getElem?_toArray, List.getElem?_cons_zero, List.getElem?_cons_succ] at k0 k1 k2 k3 k4 m0 m1 m2 m3 m4 m5 m6
        refine bodyPost_ret (v := .tuple #[.agg #[.slice a3 rd.S.length c3, .slice a4 rd.P.length c4, .int .i64 rd.fuse, .int .i64 rd.ops, .bool rd.dead], .agg #[.int .i64 (j.x.g + 1), .int .i64 (j.x.g + 1), .int .i64 (otherA j.x), .int .i64 (l.length : Int), .int .i64 p, .int .i64 0, .int .i64 0], .int .i64 0]) (by simp [results, Try.results45, go_sem, k0, k1, k2, k3, k4, m0, m1, m2, m3, m4, m5, m6]) rfl ?_
        exact APost.mk (rd, ⟨resX j l p, 0, 0⟩, 0) a3 c3 a4 c4 rfl KL.out KB.out HRES.out
end Go.Proofs.Ytkpfkknldeafkaa
namespace Go.Proofs.Ytkpfkknldeafkaa
open Go.ChangeShapes Go.WideShapes Go.ChangeAt Go.RowKit

section
variable {H : Type} {enc : TypeId × Value → H} {W : World} {base : Nat} {spare : Nat → Bool} {held : Bool}
end

theorem resW_use (sa pa : Option Addr) (sc pc : Nat) (d nd : Dk) (j j2 : Jn) (l : List UInt8) (p e0 : Int) (w : World) (hD : Lists w sa sc pa pc d) (hl : l.length ≤ 1000000000000000) (hp : d.P.length ≤ 8000000000000) (hq : resW d j l p = (nd, j2, e0)) :
    Calls Try.prog 45 #[.agg #[.slice sa d.S.length sc, .slice pa d.P.length pc, .int .i64 d.fuse, .int .i64 d.ops, .bool d.dead], .agg (jnV j), .string (bs l), .int .i64 p] w fun E w' => ∃ a1 c1 a2 c2, E = .returned (.tuple #[.agg #[.slice a1 nd.S.length c1, .slice a2 nd.P.length c2, .int .i64 nd.fuse, .int .i64 nd.ops, .bool nd.dead], .agg (jnV j2), .int .i64 e0]) ∧ Lists w' a1 c1 a2 c2 nd ∧ Below w.heap.size w w' := by
  refine (resW_any sa pa sc pc d j l p w hD hl hp).mono ?_
  rw [hq]
  rintro E w' ⟨a1, c1, a2, c2, rfl, hL, hB⟩
  exact ⟨a1, c1, a2, c2, rfl, hL, hB⟩

end Go.Proofs.Ytkpfkknldeafkaa
namespace Go.Proofs.Ytkpfkknldeafkaa
open Go.RowKit


theorem trip_enc {x : Sp} (hv : spB x = true) : (encS x).2 = 0 ∧ decS (encS x).1 = (x, 0) ∧ (encS x).1.length = 64 := by
  have he : encS x = (sealedL x.g.toNat 0 1 (encD x), 0) := by unfold encS; rw [if_pos hv]
  rw [he]
  refine ⟨rfl, ?_, enc_len hv⟩
  have h40 := encD_len hv
  obtain ⟨h1, h2, h3, h4, h5, h6, h7, h8, h9, h10⟩ := spB_bounds hv
  have hst : stampB (x.g.toNat : Int) ((0 : Nat) : Int) ((1 : Nat) : Int) = true := by rw [stampB_iff]; omega
  have ho := openS_sealed x.g.toNat 0 1 (encD x) hst h40
  have hg : ((x.g.toNat : Nat) : Int) = x.g := by omega
  unfold decS
  rw [ho]
  simp only
  rw [if_neg (by simp), if_pos ⟨rfl, rfl⟩, hg]
  obtain ⟨e, qe⟩ : ∃ n : Nat, x.e = n := ⟨x.e.toNat, by omega⟩
  obtain ⟨a, qa⟩ : ∃ n : Nat, x.a = n := ⟨x.a.toNat, by omega⟩
  obtain ⟨z, qz⟩ : ∃ n : Nat, x.z = n := ⟨x.z.toNat, by omega⟩
  obtain ⟨p, qp⟩ : ∃ n : Nat, x.p = n := ⟨x.p.toNat, by omega⟩
  have hd : encD x = uintS e ++ uintS a ++ uintS z ++ uintS p := by unfold encD; rw [qe, qa, qz, qp]; simp only [Int.toNat_natCast]
  rw [qe] at h3 h4; rw [qa] at h5 h6; rw [qz] at h7 h8; rw [qp] at h9 h10
  have t1 : takeS (encD x) 0 = (e, ((uintS e).length : Int), 0) := by
    have h := take_uint e (by omega) [] (uintS a ++ (uintS z ++ uintS p))
    rw [hd]; simpa [List.append_assoc] using h
  have t2 : takeS (encD x) ((uintS e).length : Int) = (a, (((uintS e).length + (uintS a).length : Nat) : Int), 0) := by
    have h := take_uint a (by omega) (uintS e) (uintS z ++ uintS p)
    rw [hd]; simpa [List.append_assoc] using h
  have t3 : takeS (encD x) (((uintS e).length + (uintS a).length : Nat) : Int) = (z, (((uintS e).length + (uintS a).length + (uintS z).length : Nat) : Int), 0) := by
    have h := take_uint z (by omega) (uintS e ++ uintS a) (uintS p)
    rw [hd]; simpa [List.append_assoc] using h
  have t4 : takeS (encD x) (((uintS e).length + (uintS a).length + (uintS z).length : Nat) : Int) = (p, (((uintS e).length + (uintS a).length + (uintS z).length + (uintS p).length : Nat) : Int), 0) := by
    have h := take_uint p (by omega) (uintS e ++ uintS a ++ uintS z) []
    rw [hd]; simpa [List.append_assoc, Int.add_assoc] using h
  have k0 : tkN (encD x) 0 = ([], 0, 0) := rfl
  have k4 := tkN_ok (tkN_ok (tkN_ok (tkN_ok k0 t1) t2) t3) t4
  have hmk : mkSp x.g ([] ++ [e] ++ [a] ++ [z] ++ [p]) = x := by
    show (⟨x.g, (e : Int), (a : Int), (z : Int), (p : Int)⟩ : Sp) = x
    rw [← qe, ← qa, ← qz, ← qp]
  have hr := decD_ok (g := x.g) k4 (by rw [hd]; simp only [List.length_append]) (by simp only [bigB, List.nil_append, List.cons_append, List.any_cons, List.any_nil, Bool.or_false, Bool.or_eq_false_iff, decide_eq_false_iff_not]; omega) (by rw [hmk]; exact hv)
  rw [hr, hmk]

theorem open_ends {s : List UInt8} {g p q : Int} {d : List UInt8} (h : openS s = ((g, p, q), d, 0)) : s.take 8 = markL g.toNat p.toNat ∧ s.drop 56 = markL g.toNat p.toNat ∧ s.length = 64 := by
  obtain ⟨g', p', q', d', e, hs, hd, hl⟩ := openS_ok (s := s) (by rw [h])
  rw [h] at e
  simp only [Prod.mk.injEq] at e
  obtain ⟨⟨rfl, rfl, rfl⟩, rfl, _⟩ := e
  rw [Int.toNat_natCast, Int.toNat_natCast]
  have hlen := sealedL_length g' p' q' d hd
  subst hl
  refine ⟨?_, ?_, hlen⟩
  · have e1 : sealedL g' p' q' d = markL g' p' ++ (be q' 2 ++ (be d.length 2 ++ (lit (crc (headL g' p' q' d.length ++ bodyL d)) 4 ++ (bodyL d ++ markL g' p')))) := by simp [sealedL, headL, markL, List.append_assoc]
    rw [e1, List.take_left' (markL_length _ _)]
  · have e2 : sealedL g' p' q' d = (headL g' p' q' d.length ++ (lit (crc (headL g' p' q' d.length ++ bodyL d)) 4 ++ bodyL d)) ++ markL g' p' := by simp [sealedL, List.append_assoc]
    rw [e2, List.drop_left' (by simp [headL_length, lit_length, bodyL_length d hd])]

theorem enc_ends {x : Sp} (hx : spB x = true) : (encS x).1.drop 56 = markL x.g.toNat 0 ∧ (encS x).1.take 8 = markL x.g.toNat 0 := by
  obtain ⟨g1, g2, _⟩ := spB_bounds hx
  have he : encS x = (sealedL x.g.toNat 0 1 (encD x), 0) := by unfold encS; rw [if_pos hx]
  have ho : openS (encS x).1 = ((x.g, 0, 1), encD x, 0) := by
    rw [he]
    have h := openS_sealed x.g.toNat 0 1 (encD x) (by rw [stampB_iff]; omega) (encD_len hx)
    rw [h]
    have : ((x.g.toNat : Nat) : Int) = x.g := by omega
    rw [this]; rfl
  obtain ⟨h1, h2, _⟩ := open_ends ho
  exact ⟨h2, h1⟩
theorem mark_inj {g p g' p' : Nat} (hg : g < 256 ^ 6) (hg' : g' < 256 ^ 6) (h : markL g p = markL g' p') : g = g' := by
  unfold markL at h
  have := (List.append_inj h (by rw [be_length, be_length])).1
  exact be_inj 6 hg hg' this
theorem mark_zero : List.replicate 8 (0 : UInt8) = markL 0 0 := by decide +kernel
/-- what a slot may hold that is older: nothing, or an older superblock -/
def Sl (o : List UInt8) (g : Int) : Prop := o = List.replicate 64 0 ∨ ∃ y, spB y = true ∧ o = (encS y).1 ∧ y.g < g
theorem Sl.len {o : List UInt8} {g : Int} (h : Sl o g) : o.length = 64 := by
  rcases h with h | ⟨y, h1, h2, _⟩
  · rw [h]; simp
  · rw [h2]; exact (trip_enc h1).2.2
theorem Sl.dec {o : List UInt8} {g : Int} (h : Sl o g) : (decS o).2 ≠ 0 ∨ (decS o).1.g < g := by
  rcases h with h | ⟨y, h1, h2, h3⟩
  · left; rw [h]; decide +kernel
  · right; rw [h2, (trip_enc h1).2.1]; exact h3
theorem Sl.mono {o : List UInt8} {g g' : Int} (h : Sl o g) (hg : g ≤ g') : Sl o g' := by
  rcases h with h | ⟨y, h1, h2, h3⟩
  · exact .inl h
  · exact .inr ⟨y, h1, h2, by omega⟩
/-- the number in front of an older sector's last mark -/
theorem Sl.mark {o : List UInt8} {g : Int} (h : Sl o g) (hg : 1 ≤ g) : ∃ n : Nat, o.drop 56 = markL n 0 ∧ (n : Int) < g ∧ (n = 0 ∨ o.take 8 = markL n 0) := by
  rcases h with h | ⟨y, h1, h2, h3⟩
  · refine ⟨0, ?_, by omega, .inl rfl⟩
    rw [h, List.drop_replicate]; exact mark_zero
  · obtain ⟨e1, e2⟩ := enc_ends h1
    obtain ⟨g1, _⟩ := spB_bounds h1
    exact ⟨y.g.toNat, by rw [h2]; exact e1, by omega, .inr (by rw [h2]; exact e2)⟩
theorem torn_dec {x : Sp} (hx : spB x = true) {o : List UInt8} (ho : Sl o x.g) {m : Nat} (hm : m ≤ 64) {s tn : List UInt8} (hs : s = (encS x).1) (htn : tn = s.take m ++ o.drop m) :
    (decS tn).2 ≠ 0 ∨ tn = s ∨ tn = o := by
  by_cases he : (openS tn).2.2 = 0
  · right
    obtain ⟨g, p, q, d, hop, hst, _, _⟩ := openS_ok he
    obtain ⟨n1, n2, n3⟩ := open_ends hop
    rw [Int.toNat_natCast, Int.toNat_natCast] at n1 n2
    obtain ⟨g1, g2, _⟩ := spB_bounds hx
    obtain ⟨k1, k2, _⟩ := (stampB_iff _ _ _).1 hst
    obtain ⟨t2, t1⟩ := enc_ends hx
    have t3 := (trip_enc hx).2.2
    rw [← hs] at t1 t2 t3
    obtain ⟨n, o2, on, o1⟩ := ho.mark g1
    have ol := ho.len
    have b1 : x.g.toNat < 256 ^ 6 := by have : (256 : Nat) ^ 6 = 281474976710656 := by decide
                                        omega
    have b2 : n < 256 ^ 6 := by have : (256 : Nat) ^ 6 = 281474976710656 := by decide
                                omega
    have b3 : g < 256 ^ 6 := by have : (256 : Nat) ^ 6 = 281474976710656 := by decide
                                omega
    have hlow : m ≤ 56 → tn.drop 56 = o.drop 56 := by
      intro hm56
      rw [htn, List.drop_append, List.length_take, t3, Nat.min_eq_left hm, List.drop_of_length_le (by rw [List.length_take]; omega), List.nil_append, List.drop_drop]
      congr 1; omega
    rcases Nat.lt_or_ge m 8 with h8 | h8
    · have hd := hlow (by omega)
      rw [n2, o2] at hd
      have hgn := mark_inj b3 b2 hd
      rcases o1 with o1 | o1
      · omega
      · right
        have hdr : tn.drop 8 = o.drop 8 := by
          rw [htn, List.drop_append, List.length_take, t3, Nat.min_eq_left hm, List.drop_of_length_le (by rw [List.length_take]; omega), List.nil_append, List.drop_drop]
          congr 1; omega
        rw [← List.take_append_drop 8 tn, n1, hd, ← o1, hdr, List.take_append_drop]
    · have h1 : tn.take 8 = s.take 8 := by rw [htn, List.take_append_of_le_length (by rw [List.length_take]; omega), List.take_take, Nat.min_eq_left h8]
      rw [n1, t1] at h1
      rcases Nat.lt_or_ge 56 m with h56 | h56
      · left
        have hfr : tn.take 56 = s.take 56 := by
          rw [htn, List.take_append_of_le_length (by rw [List.length_take]; omega), List.take_take, Nat.min_eq_left (by omega)]
        rw [← List.take_append_drop 56 tn, hfr, n2, h1, ← t2, List.take_append_drop]
      · exfalso
        have hd := hlow h56
        rw [n2, h1, o2] at hd
        have := mark_inj b1 b2 hd
        omega
  · left
    unfold decS
    rw [if_pos he]; exact he

end Go.Proofs.Ytkpfkknldeafkaa
namespace Go.Proofs.Ytkpfkknldeafkaa
open Go.RowKit

set_option maxRecDepth 100000 in
theorem crash_valid {d : Dk} (h : validB d = true) (kb : List Bool) (tear : Int) : validB (crashD d kb tear) = true ∧ (crashD d kb tear).S.length = d.S.length ∧ (crashD d kb tear).P = [] ∧ (crashD d kb tear).dead = false ∧ (crashD d kb tear).fuse = 0 ∧ (crashD d kb tear).ops = d.ops := by
  obtain ⟨h1, h2, h3⟩ := (validB_iff d).1 h
  obtain ⟨n1, n2, n3, n4, n5, n6⟩ := (numsB_iff d).1 h1
  rw [crash_on kb tear h]
  obtain ⟨q1, q2⟩ := foldC_inv (lastI (kf d.P.length kb d.P.length)) tear (fun x hx => (h3 x hx).2.2) h2 (kf d.P.length kb d.P.length)
  refine ⟨?_, q1, rfl, rfl, rfl, rfl⟩
  rw [validB_iff]
  refine ⟨?_, q2, fun x hx => absurd hx (by simp)⟩
  rw [numsB_iff]; simp only; rw [q1]; omega

end Go.Proofs.Ytkpfkknldeafkaa
