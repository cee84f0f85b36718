/- What the claim needs of: WalDo, WalLa. No conditions. -/
import Derived.Test.YtkpfkknldeafkaaZk6
import Derived.Test.YtkpfkknldeafkaaRows
import Derived.WalkKit
import Derived.WalkSpells
import Derived.WalkLawsBesides
import Derived.Lib.SlBytesRow
import Derived.Lib.Hide
import Derived.Laws.Bits64
import Derived.Laws.CopyOwn
import Derived.Lib.BufferWrite
import Derived.Deep.RegionLaw
import Derived.Deep.DeepCutAuto
import Derived.ChangeAlike
import Derived.RegionTactic
import Derived.Deep.RegionHeld3
import Derived.Laws.ResultCell
import Derived.RangeFuncNested
import Derived.RangeFuncBound
import Derived.RangeFuncCalls
import Derived.RangeFuncLeaves
import Derived.Shelf.Abstract
import Derived.Shelf.RegionOpen
import Derived.OwnWalkIn
import Derived.TacticsInMore
import Derived.LoopNIn
import Derived.LoopIn
import Derived.Laws.AppendOwnNone
import Derived.Deep.DeepAppendWide
import Derived.Laws.OwnMore
import Derived.Deep.AppendLies
import Derived.Outline
import Derived.Shelf.Bits.Mul64
import Derived.OrdersIn
import Derived.TacticsIn
import Derived.Deep.QuietTactic
import Derived.BigQuiet
import Derived.Deep.Cut
import Derived.Deep.CutRange
import Derived.ProofKit
import Derived.OpenShut
import Derived.Lib.SmallJoins
import Derived.SliceStrings
import Derived.Deep.Slices
import Derived.SizedLaws
import Derived.ArgAppend
import Derived.Lib.AppendStr
import Derived.Tactics
import Derived.Tactics2
import Derived.Defers
import Derived.Recover
import Derived.Laws.Pointers
namespace Go.Proofs.Ytkpfkknldeafkaa
open Go.RowKit

/-- what an act changes on the disk (the statement on the areas) -/
theorem do_area {m : Nat} {d : Dk} {j : Jn} {c : Ct} (h : Inv m d j c) (c0 : Ct) (a : Ac) (hk : a.k = 0 ∨ a.k = 1) (ha : a.l.length ≤ 1000000000000000) (hf : d.fuse = 0) :
    ∃ nd nj e c2, ((e ≠ 0) ∨ (e = 0 ∧ Inv m nd nj c2 ∧ nd.fuse = 0 ∧ ∀ k, k < m → nd.S.getD k [] ≠ d.S.getD k [] → (a.k = 0 ∧ 2 + 2 * (ar m : Int) + j.n ≤ k ∧ (k : Int) < 2 + 2 * (ar m : Int) + nj.n) ∨ (a.k = 1 ∧ ((k : Int) < 2 ∨ (nj.x.a = 1 ∧ (k : Int) < 2 + (ar m : Int)) ∨ (nj.x.a = 2 ∧ 2 + (ar m : Int) ≤ k ∧ (k : Int) < 2 + 2 * (ar m : Int)))))) ∧
      ∀ (sa pa va : Option Addr) (sc pc vc : Nat) (w : World), Lists w sa sc pa pc d →
        Calls Try.prog 48 #[.agg #[.slice sa d.S.length sc, .slice pa d.P.length pc, .int .i64 d.fuse, .int .i64 d.ops, .bool d.dead], .agg (jnV j), .agg #[.string (bs c0.image), .int .i64 c0.pos, .slice va c0.recs.length vc], .agg #[.int .i64 a.k, .string (bs a.l), .int .i64 a.p]] w (DOPost nd nj e true w) := by
  obtain ⟨l1, l2, l3⟩ := inv_lens h
  obtain ⟨n1, n2⟩ := qt_len h.q
  rcases hk with h0 | h1
  · rcases app_out h a.l with ⟨p1, p2, p3⟩ | ⟨p1, d2, SL, ⟨p2, p3, p4, p5⟩ | ⟨p2, p3⟩⟩
    · exact ⟨_, _, _, c, .inl p1, fun sa pa va sc pc vc w hD => do_app sa pa sc pc d j va vc c0 a.k a.l a.p _ _ _ w hD ha (by omega) h0 p3⟩
    · refine ⟨_, _, _, _, .inr ⟨rfl, p3, p5 hf, fun k hk hne => .inl ⟨h0, ?_⟩⟩, fun sa pa va sc pc vc w hD => do_app sa pa sc pc d j va vc c0 a.k a.l a.p _ _ _ w hD ha (by omega) h0 p2⟩
      obtain ⟨_, f1, _⟩ := h.fits
      have hkk := p4.2 k (by rw [h.q.s]; exact hk)
      by_cases hin : 2 + 2 * ar m + j.n.toNat ≤ k ∧ k < 2 + 2 * ar m + j.n.toNat + SL.length
      · show _ ∧ (k : Int) < 2 + 2 * (ar m : Int) + (j.n + (SL.length : Int)); omega
      · rw [if_neg hin] at hkk; exact absurd hkk hne
    · exact absurd hf p3.1
  · rcases res_out h a.l a.p with ⟨p1, p2, p3⟩ | ⟨p1, d2, ⟨p2, p3, p4, p5⟩ | ⟨p2, p3⟩⟩
    · exact ⟨_, _, _, c, .inl p1, fun sa pa va sc pc vc w hD => do_res sa pa sc pc d j va vc c0 a.k a.l a.p _ _ _ w hD ha (by omega) h1 p3⟩
    · refine ⟨_, _, _, _, .inr ⟨rfl, p3, p5 hf, fun k hk hne => .inr ⟨h1, ?_⟩⟩, fun sa pa va sc pc vc w hD => do_res sa pa sc pc d j va vc c0 a.k a.l a.p _ _ _ w hD ha (by omega) h1 p2⟩
      have hx : (resX j a.l a.p).a = otherA j.x := rfl
      show (k : Int) < 2 ∨ ((resX j a.l a.p).a = 1 ∧ _) ∨ ((resX j a.l a.p).a = 2 ∧ _)
      rw [hx]
      by_cases hin : k < 2 ∨ (aof m (otherA j.x) ≤ k ∧ k < aof m (otherA j.x) + ar m)
      · obtain ⟨o1, o2, _⟩ := other_area h.x
        rcases hin with hin | hin
        · left; omega
        · rcases (show otherA j.x = 1 ∨ otherA j.x = 2 by omega) with ho | ho
          · rw [ho] at hin ⊢
            unfold aof at hin
            rw [if_neg (by decide)] at hin
            right; left; omega
          · rw [ho] at hin ⊢
            unfold aof at hin
            rw [if_pos rfl] at hin
            right; right; omega
      · exact absurd (p4 k hk hin) hne
    · exact absurd hf p3.1
end Go.Proofs.Ytkpfkknldeafkaa
namespace Go.Proofs.Ytkpfkknldeafkaa
open Go.RowKit

set_option maxRecDepth 100000 in
set_option maxHeartbeats 64000000 in
theorem areasWalk (n : Nat) (hn : n < 256) (aa : Option Addr) (ac : Nat) (M : List Ac) (w : World) (hM : AcS w (.slice aa M.length ac) M) (hMl : M.length ≤ 4398046511104) (hMs : ∀ q ∈ M, q.l.length ≤ 140737488351232) :
    Calls Try.prog 13 #[.int .u8 (n : Int), .slice aa M.length ac] w fun e w' => e = .returned (.bool true) ∧ Below w.heap.size w w' := by
  obtain ⟨m, hm⟩ : ∃ m : Nat, 18 + (n : Int) % 24 = m := ⟨18 + n % 24, by omega⟩
  have hmb : 18 ≤ m ∧ m ≤ 41 := by omega
  obtain ⟨hm1, hm2⟩ := hmb
  obtain ⟨d0, hd0, hq0, hf0, hz0⟩ := new_valid m (by omega) (by omega)
  obtain ⟨d1, ho1, hi1, hf1⟩ := start_out m (by omega) (by omega) hd0
  have hs0 : d0.S.length ≤ 64 := by rw [hq0.s]; omega
  have hp0 : d0.P.length ≤ 0 := by rw [hq0.p]; exact Nat.le_refl _
  obtain ⟨hs1, hp1, _⟩ := inv_lens hi1
  obtain ⟨j1, hj1⟩ : ∃ j, j = (⟨sp1, 0, 0⟩ : Jn) := ⟨_, rfl⟩
  have hg1 : j1.x.g = 1 := by rw [hj1]; rfl
  rw [← hj1] at ho1 hi1
  have E1 := Lib.hid (show newS (18 + (n : Int) % 24) = (d0, 0) by rw [hm]; exact hd0)
  have HQ0 := Lib.hid hq0; have HO1 := Lib.hid ho1; have HI1 := Lib.hid hi1; have HG1 := Lib.hid hg1; have HM := Lib.hid hM; have HMM := Lib.hid hm; have HF1 := Lib.hid hf1; have HJE := Lib.hid hj1; clear hd0 hf0 hz0 ho1 hi1 hj1 hg1 hM hm hq0 hf1
  go_enter Try.func13, Try.ntmps13
  go_wp2_with fail
  refine (New_any (18 + (n : Int) % 24) _).mono ?_
  rw [E1.out]
  rintro er w1 ⟨a1, c1, a2, c2, rfl, hO1, hb1⟩
  have HLD := Lib.hid (hO1.lists (d := d0) (by omega) (by omega)); have HB := Lib.hid hb1; have zw1 := hb1.size; clear hO1 hb1
  have hal := (Below.refl w1.heap.size w1).alloc (Nat.le_refl _) (.cells #[.slice a1 d0.S.length c1, .slice a2 d0.P.length c2, .int .i64 d0.fuse, .int .i64 d0.ops, .bool d0.dead] 38)
  have HD := Lib.hid (Bx.new w1 #[.slice a1 d0.S.length c1, .slice a2 d0.P.length c2, .int .i64 d0.fuse, .int .i64 d0.ops, .bool d0.dead] 38)
  have HLD := Lib.hid (HLD.out.below hal)
  have HB := Lib.hid (btrans HB.out HB.out.size hal); clear hal
  go_upto_region 2 with (fail)
  generalize hW : w1.alloc (.cells #[.slice a1 d0.S.length c1, .slice a2 d0.P.length c2, .int .i64 d0.fuse, .int .i64 d0.ops, .bool d0.dead] 38) = v1 at HLD HB HD ⊢
  clear hW
  have ha0 : areasS d0 = ((ar m : Int), 2 + 2 * (ar m : Int), (m : Int) - 2 - 2 * (ar m : Int)) := by
    rw [areas_ok HQ0.out.v, ar_eq HQ0.out.s, sz_eq HQ0.out.s]
    have := ar_bounds (n := m) (by omega)
    congr 2; omega
  obtain ⟨b1, b2, b3⟩ := ar_bounds (n := m) (by omega)
  obtain ⟨am, ham⟩ : ∃ q : Nat, ar m = q := ⟨_, rfl⟩
  rw [ham] at ha0 b1 b2 b3
  have HAM := Lib.hid ham; have HA0 := Lib.hid ha0; clear ha0 ham
  have tl : ((2 + 2 * (am : Int) + ((m : Int) - 2 - 2 * (am : Int))) != (d0.S.length : Int)) = false := by
    rw [HQ0.out.s, show 2 + 2 * (am : Int) + ((m : Int) - 2 - 2 * (am : Int)) = (m : Int) by omega]
    simp
  have x0 : v1.cell? ⟨w1.heap.size, 0, none⟩ = some (.slice a1 d0.S.length c1) := HD.out.cell 0
  have x1 : v1.cell? ⟨w1.heap.size, 1, none⟩ = some (.slice a2 d0.P.length c2) := HD.out.cell 1
  have x2 : v1.cell? ⟨w1.heap.size, 2, none⟩ = some (.int .i64 d0.fuse) := HD.out.cell 2
  have x3 : v1.cell? ⟨w1.heap.size, 3, none⟩ = some (.int .i64 d0.ops) := HD.out.cell 3
  have x4 : v1.cell? ⟨w1.heap.size, 4, none⟩ = some (.bool d0.dead) := HD.out.cell 4
  go_wp2_with fail
  refine (Areas_any _ _ _ _ d0 _ HLD.out).mono ?_
  rw [HA0.out]
  rintro er w9 ⟨rfl, hb1⟩
  clear x0 x1 x2 x3 x4
  have HD := Lib.hid (HD.out.call hb1)
  have HLD := Lib.hid (HLD.out.below hb1)
  have HB := Lib.hid (btrans HB.out HB.out.size hb1); clear hb1
  have x0 : w9.cell? ⟨w1.heap.size, 0, none⟩ = some (.slice a1 d0.S.length c1) := HD.out.cell 0
  go_upto_region 5 with (fail)
  clear x0 tl
  have x0 : w9.cell? ⟨w1.heap.size, 0, none⟩ = some (.slice a1 d0.S.length c1) := HD.out.cell 0
  have x1 : w9.cell? ⟨w1.heap.size, 1, none⟩ = some (.slice a2 d0.P.length c2) := HD.out.cell 1
  have x2 : w9.cell? ⟨w1.heap.size, 2, none⟩ = some (.int .i64 d0.fuse) := HD.out.cell 2
  have x3 : w9.cell? ⟨w1.heap.size, 3, none⟩ = some (.int .i64 d0.ops) := HD.out.cell 3
  have x4 : w9.cell? ⟨w1.heap.size, 4, none⟩ = some (.bool d0.dead) := HD.out.cell 4
  go_wp2_with fail
  refine (openW_use _ _ _ _ d0 d1 j1 [] [] 0 _ HLD.out (by omega) HO1.out (by omega) (by omega)).mono ?_
  simp only [jnV]
  rintro er w2 ⟨a3, c3, a4, c4, a5, c5, rfl, hL, hM5, hb1⟩
  clear x0 x1 x2 x3 x4
  have HD := Lib.hid (HD.out.call hb1); have HB := Lib.hid (btrans HB.out HB.out.size hb1); have HLD := Lib.hid hL; have HM5 := Lib.hid (fun W => strs_nil hM5 W); clear hb1 hL hM5
  have zd2 := HD.out.lt
  have hac : ∀ (W : World) (o : Obj) (i : Nat), w1.heap.size < W.heap.size → (W.alloc o).cell? ⟨w1.heap.size, i, none⟩ = W.cell? ⟨w1.heap.size, i, none⟩ := fun W o i h => World.cell?_of_block (w := W) (a := ⟨w1.heap.size, i, none⟩) (Below.heap_alloc W o _ h)
  have haf : ∀ (W : World) (o : Obj) (i : Nat), w1.heap.size < W.heap.size → (W.alloc o).frozen? ⟨w1.heap.size, i, none⟩ = W.frozen? ⟨w1.heap.size, i, none⟩ := fun W o i h => frozen_past o i 0 h
  have r0 : w2.cell? ⟨w1.heap.size, 0, none⟩ = some (.slice a1 d0.S.length c1) := HD.out.cell 0
  have r1 : w2.cell? ⟨w1.heap.size, 1, none⟩ = some (.slice a2 d0.P.length c2) := HD.out.cell 1
  have r2 : w2.cell? ⟨w1.heap.size, 2, none⟩ = some (.int .i64 d0.fuse) := HD.out.cell 2
  have r3 : w2.cell? ⟨w1.heap.size, 3, none⟩ = some (.int .i64 d0.ops) := HD.out.cell 3
  have r4 : w2.cell? ⟨w1.heap.size, 4, none⟩ = some (.bool d0.dead) := HD.out.cell 4
  have f0 : w2.frozen? ⟨w1.heap.size, 0, none⟩ = false := HD.out.free 0
  have f1 : w2.frozen? ⟨w1.heap.size, 1, none⟩ = false := HD.out.free 1
  have f2 : w2.frozen? ⟨w1.heap.size, 2, none⟩ = false := HD.out.free 2
  have f3 : w2.frozen? ⟨w1.heap.size, 3, none⟩ = false := HD.out.free 3
  have f4 : w2.frozen? ⟨w1.heap.size, 4, none⟩ = false := HD.out.free 4
  go_upto_region 6 with (fail)
  clear hac haf
  clear r0 r1 r2 r3 r4
  clear f0 f1 f2 f3 f4
  have hsz : (((((w2.setCell ⟨w1.heap.size, 0, none⟩ (.slice a3 d1.S.length c3)).setCell ⟨w1.heap.size, 1, none⟩ (.slice a4 d1.P.length c4)).setCell ⟨w1.heap.size, 2, none⟩ (.int .i64 d1.fuse)).setCell ⟨w1.heap.size, 3, none⟩ (.int .i64 d1.ops)).setCell ⟨w1.heap.size, 4, none⟩ (.bool d1.dead)).heap.size = w2.heap.size := by simp
  have hJ := Bx.new (((((w2.setCell ⟨w1.heap.size, 0, none⟩ (.slice a3 d1.S.length c3)).setCell ⟨w1.heap.size, 1, none⟩ (.slice a4 d1.P.length c4)).setCell ⟨w1.heap.size, 2, none⟩ (.int .i64 d1.fuse)).setCell ⟨w1.heap.size, 3, none⟩ (.int .i64 d1.ops)).setCell ⟨w1.heap.size, 4, none⟩ (.bool d1.dead)) #[.int .i64 j1.x.g, .int .i64 j1.x.e, .int .i64 j1.x.a, .int .i64 j1.x.z, .int .i64 j1.x.p, .int .i64 j1.n, .int .i64 j1.r] 57
  rw [hsz] at hJ
  have hal := (Below.refl (((((w2.setCell ⟨w1.heap.size, 0, none⟩ (.slice a3 d1.S.length c3)).setCell ⟨w1.heap.size, 1, none⟩ (.slice a4 d1.P.length c4)).setCell ⟨w1.heap.size, 2, none⟩ (.int .i64 d1.fuse)).setCell ⟨w1.heap.size, 3, none⟩ (.int .i64 d1.ops)).setCell ⟨w1.heap.size, 4, none⟩ (.bool d1.dead)).heap.size (((((w2.setCell ⟨w1.heap.size, 0, none⟩ (.slice a3 d1.S.length c3)).setCell ⟨w1.heap.size, 1, none⟩ (.slice a4 d1.P.length c4)).setCell ⟨w1.heap.size, 2, none⟩ (.int .i64 d1.fuse)).setCell ⟨w1.heap.size, 3, none⟩ (.int .i64 d1.ops)).setCell ⟨w1.heap.size, 4, none⟩ (.bool d1.dead))).alloc (Nat.le_refl _) (.cells #[.int .i64 j1.x.g, .int .i64 j1.x.e, .int .i64 j1.x.a, .int .i64 j1.x.z, .int .i64 j1.x.p, .int .i64 j1.n, .int .i64 j1.r] 57)
  have HLD := Lib.hid ((HLD.out.sets_box HD.out (.slice a3 d1.S.length c3) (.slice a4 d1.P.length c4) (.int .i64 d1.fuse) (.int .i64 d1.ops) (.bool d1.dead)).below hal); have HB := Lib.hid ((below_sets HB.out w1.heap.size (by omega) (.slice a3 d1.S.length c3) (.slice a4 d1.P.length c4) (.int .i64 d1.fuse) (.int .i64 d1.ops) (.bool d1.dead)).alloc (by rw [hsz]; omega) (.cells #[.int .i64 j1.x.g, .int .i64 j1.x.e, .int .i64 j1.x.a, .int .i64 j1.x.z, .int .i64 j1.x.p, .int .i64 j1.n, .int .i64 j1.r] 57))
  have HD := Lib.hid ((HD.out.sets (.slice a3 d1.S.length c3) (.slice a4 d1.P.length c4) (.int .i64 d1.fuse) (.int .i64 d1.ops) (.bool d1.dead)).call hal); have HJ := Lib.hid hJ; clear hJ hal hsz
  generalize hW : (((((w2.setCell ⟨w1.heap.size, 0, none⟩ (.slice a3 d1.S.length c3)).setCell ⟨w1.heap.size, 1, none⟩ (.slice a4 d1.P.length c4)).setCell ⟨w1.heap.size, 2, none⟩ (.int .i64 d1.fuse)).setCell ⟨w1.heap.size, 3, none⟩ (.int .i64 d1.ops)).setCell ⟨w1.heap.size, 4, none⟩ (.bool d1.dead)).alloc (.cells #[.int .i64 j1.x.g, .int .i64 j1.x.e, .int .i64 j1.x.a, .int .i64 j1.x.z, .int .i64 j1.x.p, .int .i64 j1.n, .int .i64 j1.r] 57) = v3 at HD HLD HB HJ ⊢
  clear hW
  have zHJ := HJ.out.lt
  go_wp2
  go_loopw [14] (fun i wr => ∃ (k : Nat) (d : Dk) (j : Jn) (c : Ct) (sa : Option Addr) (sc : Nat) (pa : Option Addr) (pc : Nat), k ≤ M.length ∧ i = .int .i64 k ∧ Inv m d j c ∧ d.fuse = 0 ∧ Bx w1.heap.size #[.slice sa d.S.length sc, .slice pa d.P.length pc, .int .i64 d.fuse, .int .i64 d.ops, .bool d.dead] 38 wr ∧ Bx w2.heap.size #[.int .i64 j.x.g, .int .i64 j.x.e, .int .i64 j.x.a, .int .i64 j.x.z, .int .i64 j.x.p, .int .i64 j.n, .int .i64 j.r] 57 wr ∧ Lists wr sa sc pa pc d ∧ Below w.heap.size w wr) (fun i _ => M.length - (intOf i).toNat)
  case atStart => exact ⟨0, d1, j1, ⟨[], 0, []⟩, a3, c3, a4, c4, Nat.zero_le _, rfl, HI1.out, HF1.out, HD.out, HJ.out, HLD.out, HB.out⟩
  case round =>
    obtain ⟨k, d, j, c, sa, sc, pa, pc, hk, rfl, hI, hf, hXD, hXJ, hLD, hbr⟩ := hrel
    clear HD HJ HLD HB HM5
    have HD := Lib.hid hXD; have HJ := Lib.hid hXJ; have HLD := Lib.hid hLD; have HB := Lib.hid hbr; have HI := Lib.hid hI; have HF := Lib.hid hf; clear hXD hXJ hLD hbr hI hf
    obtain ⟨hsl, hpl, hrl⟩ := inv_lens HI.out
    have hqs : 2 ≤ d.S.length := by rw [HI.out.q.s]; omega
    have zcr := HJ.out.lt
    by_cases hlt : k < M.length
    · have hlt' : (k : Int) < (M.length : Int) := by omega
      obtain ⟨ob, ooff, rfl, hoc, p1, p2, p3⟩ := (HM.out.below HB.out).at k hlt
      have hxs := hMs _ (List.getElem_mem hlt)
      obtain ⟨x, hx⟩ : ∃ x, M[k] = x := ⟨_, rfl⟩
      rw [hx] at p1 p2 p3 hxs
      clear hx
      have hal := (Below.refl wr.heap.size wr).alloc (Nat.le_refl _) (.cells #[.int .i64 x.k, .string (bs x.l), .int .i64 x.p] 67)
      have HA := Lib.hid (Bx.new wr #[.int .i64 x.k, .string (bs x.l), .int .i64 x.p] 67)
      have HD := Lib.hid (HD.out.call hal)
      have HJ := Lib.hid (HJ.out.call hal)
      have HLD := Lib.hid (HLD.out.below hal)
      have HB := Lib.hid (btrans HB.out HB.out.size hal); clear hal
      go_upto_region 12 with (fail)
      generalize hW : wr.alloc (.cells #[.int .i64 x.k, .string (bs x.l), .int .i64 x.p] 67) = v5 at HD HJ HLD HB HA ⊢
      clear hW
      generalize hab : wr.heap.size = ab at HA zcr ⊢
      clear hab
      clear p1 p2 p3
      have t0 : v5.cell? ⟨ab, 0, none⟩ = some (.int .i64 x.k) := HA.out.cell 0
      by_cases hkk : x.k = 0 ∨ x.k = 1
      rotate_left
      · have tk0 : (x.k != 0) = true := by rw [bne_iff_ne]; omega
        have tk1 : (x.k != 1) = true := by rw [bne_iff_ne]; omega
        clear hkk
        go_wp2
        go_roundw
        case rel => exact ⟨k + 1, d, j, c, sa, sc, pa, pc, by omega, by go_num, HI.out, HF.out, HD.out, HJ.out, HLD.out, HB.out⟩
        case measure => simp [intOf]; omega
      obtain ⟨nd, nj, e, cu, hout, hcall⟩ := do_area HI.out ⟨[], 0, []⟩ x hkk (by omega) HF.out
      have HOUT := Lib.hid hout; have HCA := Lib.hid hcall; clear hout hcall
      obtain ⟨t, ht⟩ : ∃ t : Bool, (x.k != 0) = t := ⟨_, rfl⟩
      have hkt : t = true → (x.k != 1) = false := by
        intro h; rw [h] at ht; have h0 : x.k ≠ 0 := by simpa using ht
        rcases hkk with h1 | h1
        · exact absurd h1 h0
        · rw [h1]; rfl
      have HKK := Lib.hid hkk; have HKT := Lib.hid hkt; clear hkk hkt
      go_cut [82] from 65 to 182 (fun s82 W => s82 = .bool false ∧ W = v5)
      case first =>
        cases t with
        | false => go_wp2_with fail; go_meet; exact ⟨rfl, rfl⟩
        | true =>
          have h9 := HKT.out rfl
          go_wp2_with fail; go_meet; exact ⟨rfl, rfl⟩
      case rest =>
        obtain ⟨rfl, rfl⟩ := hcut
        clear ht HKT t0
        have x0 : wc.cell? ⟨w1.heap.size, 0, none⟩ = some (.slice sa d.S.length sc) := HD.out.cell 0
        have x1 : wc.cell? ⟨w1.heap.size, 1, none⟩ = some (.slice pa d.P.length pc) := HD.out.cell 1
        have x2 : wc.cell? ⟨w1.heap.size, 2, none⟩ = some (.int .i64 d.fuse) := HD.out.cell 2
        have x3 : wc.cell? ⟨w1.heap.size, 3, none⟩ = some (.int .i64 d.ops) := HD.out.cell 3
        have x4 : wc.cell? ⟨w1.heap.size, 4, none⟩ = some (.bool d.dead) := HD.out.cell 4
        have y0 : wc.cell? ⟨w2.heap.size, 0, none⟩ = some (.int .i64 j.x.g) := HJ.out.cell 0
        have y1 : wc.cell? ⟨w2.heap.size, 1, none⟩ = some (.int .i64 j.x.e) := HJ.out.cell 1
        have y2 : wc.cell? ⟨w2.heap.size, 2, none⟩ = some (.int .i64 j.x.a) := HJ.out.cell 2
        have y3 : wc.cell? ⟨w2.heap.size, 3, none⟩ = some (.int .i64 j.x.z) := HJ.out.cell 3
        have y4 : wc.cell? ⟨w2.heap.size, 4, none⟩ = some (.int .i64 j.x.p) := HJ.out.cell 4
        have y5 : wc.cell? ⟨w2.heap.size, 5, none⟩ = some (.int .i64 j.n) := HJ.out.cell 5
        have y6 : wc.cell? ⟨w2.heap.size, 6, none⟩ = some (.int .i64 j.r) := HJ.out.cell 6
        have t0 : wc.cell? ⟨ab, 0, none⟩ = some (.int .i64 x.k) := HA.out.cell 0
        have t1 : wc.cell? ⟨ab, 1, none⟩ = some (.string (bs x.l)) := HA.out.cell 1
        have t2 : wc.cell? ⟨ab, 2, none⟩ = some (.int .i64 x.p) := HA.out.cell 2
        go_wp2_with fail
        refine (HCA.out sa pa none sc pc 0 _ HLD.out).mono ?_
        unfold DOPost; simp only [jnV]
        rintro er w4 ⟨a1, c1, a2, c2, rfl, hLN, hb1⟩
        clear x0 x1 x2 x3 x4
        clear y0 y1 y2 y3 y4 y5 y6
        clear t0 t1 t2
        have HLN := Lib.hid hLN; clear hLN
        have HD := Lib.hid (HD.out.call hb1)
        have HJ := Lib.hid (HJ.out.call hb1)
        have HA := Lib.hid (HA.out.call hb1)
        have HLD := Lib.hid (HLD.out.below hb1)
        have HB := Lib.hid (btrans HB.out HB.out.size hb1); clear hb1
        have zc4 := HA.out.lt
        have hal := ((Below.refl w4.heap.size w4).alloc (Nat.le_refl _) (.cells #[.slice a1 nd.S.length c1, .slice a2 nd.P.length c2, .int .i64 nd.fuse, .int .i64 nd.ops, .bool nd.dead] 38)).alloc (by simp) (.cells #[.int .i64 nj.x.g, .int .i64 nj.x.e, .int .i64 nj.x.a, .int .i64 nj.x.z, .int .i64 nj.x.p, .int .i64 nj.n, .int .i64 nj.r] 57)
        have HN := Lib.hid ((Bx.new w4 #[.slice a1 nd.S.length c1, .slice a2 nd.P.length c2, .int .i64 nd.fuse, .int .i64 nd.ops, .bool nd.dead] 38).alloc (.cells #[.int .i64 nj.x.g, .int .i64 nj.x.e, .int .i64 nj.x.a, .int .i64 nj.x.z, .int .i64 nj.x.p, .int .i64 nj.n, .int .i64 nj.r] 57)); have HNJ := Lib.hid (Bx.new1 w4 (.cells #[.slice a1 nd.S.length c1, .slice a2 nd.P.length c2, .int .i64 nd.fuse, .int .i64 nd.ops, .bool nd.dead] 38) #[.int .i64 nj.x.g, .int .i64 nj.x.e, .int .i64 nj.x.a, .int .i64 nj.x.z, .int .i64 nj.x.p, .int .i64 nj.n, .int .i64 nj.r] 57)
        have HD := Lib.hid (HD.out.call hal)
        have HJ := Lib.hid (HJ.out.call hal)
        have HA := Lib.hid (HA.out.call hal)
        have HLD := Lib.hid (HLD.out.below hal)
        have HLN := Lib.hid (HLN.out.below hal)
        have HB := Lib.hid (btrans HB.out HB.out.size hal); clear hal
        go_upto_region 14 with (fail)
        generalize hW : (w4.alloc (.cells #[.slice a1 nd.S.length c1, .slice a2 nd.P.length c2, .int .i64 nd.fuse, .int .i64 nd.ops, .bool nd.dead] 38)).alloc (.cells #[.int .i64 nj.x.g, .int .i64 nj.x.e, .int .i64 nj.x.a, .int .i64 nj.x.z, .int .i64 nj.x.p, .int .i64 nj.n, .int .i64 nj.r] 57) = v6 at HD HJ HA HLD HLN HB HN HNJ ⊢
        clear hW
        rcases HOUT.out with he | ⟨he, hI2, hf2, hch⟩
        · have te : (e != 0) = true := by rw [bne_iff_ne]; exact he
          have HE := Lib.hid he; clear he
          go_wp2
          go_roundw
          case rel => exact ⟨k + 1, d, j, c, sa, sc, pa, pc, by omega, by go_num, HI.out, HF.out, HD.out, HJ.out, HLD.out, HB.out⟩
          case measure => simp [intOf]; omega
        subst he
        obtain ⟨hns, hnp, hnr⟩ := inv_lens hI2
        have hnm : nd.S.length = m := hI2.q.s
        have hdm := HI.out.q.s
        have tll : ((nd.S.length : Int) != (d.S.length : Int)) = false := by rw [hnm, hdm]; simp
        have hmd : d.S.length ≤ m := by omega
        have hmn : m ≤ nd.S.length := by omega
        have HI2 := Lib.hid hI2; have HF2 := Lib.hid hf2; have HCH := Lib.hid hch; clear hI2 hf2 hch hnm hdm
        have x0 : v6.cell? ⟨w1.heap.size, 0, none⟩ = some (.slice sa d.S.length sc) := HD.out.cell 0
        have y0 : v6.cell? ⟨w4.heap.size, 0, none⟩ = some (.slice a1 nd.S.length c1) := HN.out.cell 0
        go_upto_region 17 with (fail)
        go_wp2
        clear x0 y0 tll
        go_loopw [20] (fun i wr2 => ∃ (s : Nat), s ≤ d.S.length ∧ i = .int .i64 s ∧ Bx w1.heap.size #[.slice sa d.S.length sc, .slice pa d.P.length pc, .int .i64 d.fuse, .int .i64 d.ops, .bool d.dead] 38 wr2 ∧ Bx w2.heap.size #[.int .i64 j.x.g, .int .i64 j.x.e, .int .i64 j.x.a, .int .i64 j.x.z, .int .i64 j.x.p, .int .i64 j.n, .int .i64 j.r] 57 wr2 ∧ Bx ab #[.int .i64 x.k, .string (bs x.l), .int .i64 x.p] 67 wr2 ∧ Bx w4.heap.size #[.slice a1 nd.S.length c1, .slice a2 nd.P.length c2, .int .i64 nd.fuse, .int .i64 nd.ops, .bool nd.dead] 38 wr2 ∧ Bx (w4.heap.size + 1) #[.int .i64 nj.x.g, .int .i64 nj.x.e, .int .i64 nj.x.a, .int .i64 nj.x.z, .int .i64 nj.x.p, .int .i64 nj.n, .int .i64 nj.r] 57 wr2 ∧ Lists wr2 sa sc pa pc d ∧ Lists wr2 a1 c1 a2 c2 nd ∧ Below w.heap.size w wr2) (fun i _ => d.S.length - (intOf i).toNat)
        case atStart => exact ⟨0, Nat.zero_le _, rfl, HD.out, HJ.out, HA.out, HN.out, HNJ.out, HLD.out, HLN.out, HB.out⟩
        case round =>
          obtain ⟨s, hs, rfl, hXD, hXJ, hXA, hXN, hXM, hLD, hLN, hbr⟩ := hrel
          clear HD HJ HA HN HNJ HLD HLN HB
          have HD := Lib.hid hXD; have HJ := Lib.hid hXJ; have HA := Lib.hid hXA; have HN := Lib.hid hXN; have HNJ := Lib.hid hXM; have HLD := Lib.hid hLD; have HLN := Lib.hid hLN; have HB := Lib.hid hbr; clear hXD hXJ hXA hXN hXM hLD hLN hbr
          have x0 : wr.cell? ⟨w1.heap.size, 0, none⟩ = some (.slice sa d.S.length sc) := HD.out.cell 0
          by_cases hls : s < d.S.length
          · have hls' : (s : Int) < (d.S.length : Int) := by omega
            have hln : s < nd.S.length := by omega
            obtain ⟨qa, qc, qe1, _, qx⟩ := HLD.out.1
            obtain ⟨ga, oa, hga, hc1⟩ := qx (by intro h0; rw [h0] at hls; simp at hls)
            obtain ⟨qb, qd, qe2, _, qy⟩ := HLN.out.1
            obtain ⟨gb, ob2, hgb, hc2⟩ := qy (by intro h0; rw [h0] at hln; simp at hln)
            have c1 := hc1 s hls; have c2 := hc2 s hln
            have hsa : sa = some ⟨ga, oa, none⟩ := by cases qe1; exact hga
            have ha1 : a1 = some ⟨gb, ob2, none⟩ := by cases qe2; exact hgb
            clear hc1 hc2 qx qy qe1 qe2 hga hgb
            have hne : nd.S[s] ≠ d.S[s] → _ := fun h => HCH.out s (by omega) (by rw [getD_at hln, getD_at hls]; exact h)
            rw [HAM.out] at hne
            obtain ⟨xs, hxs2⟩ : ∃ x, nd.S[s] = x := ⟨_, rfl⟩
            obtain ⟨ys, hys⟩ : ∃ x, d.S[s] = x := ⟨_, rfl⟩
            rw [hys] at c1 hne
            rw [hxs2] at c2 hne
            have HNE := Lib.hid hne; clear hne hxs2 hys
            have e0 : wr.drew.cell? ⟨w1.heap.size, 0, none⟩ = some (.slice (some ⟨ga, oa, none⟩) d.S.length sc) := by rw [← hsa]; exact HD.out.cell 0
            have e0 : wr.cell? ⟨w1.heap.size, 0, none⟩ = some (.slice (some ⟨ga, oa, none⟩) d.S.length sc) := by rw [← hsa]; exact HD.out.cell 0
            obtain ⟨cc1, e1⟩ : ∃ cc, wr.cell? ⟨w4.heap.size, 0, none⟩ = some (.slice (some ⟨gb, ob2, none⟩) nd.S.length cc) := ⟨_, by rw [← ha1]; exact HN.out.cell 0⟩
            have hs20 : wr.drew.cell? ⟨w4.heap.size, 0, none⟩ = some (.slice (some ⟨gb, ob2, none⟩) nd.S.length cc1) ∧ wr.drew.cell? ⟨gb, ob2 + s, none⟩ = some (.string (bs xs)) ∧ wr.drew.cell? ⟨w1.heap.size, 0, none⟩ = some (.slice (some ⟨ga, oa, none⟩) d.S.length sc) ∧ wr.drew.cell? ⟨ga, oa + s, none⟩ = some (.string (bs ys)) := ⟨e1, c2, e0, c1⟩
            have HS20 := Lib.hid hs20; have HSA := Lib.hid hsa; have HA1 := Lib.hid ha1; clear hs20 hsa ha1 e0 e1 c1 c2
            by_cases hxy : xs = ys
            · subst hxy
              go_upto_region 20 with (fail)
              refine wp_region_held_drew (S := (fun w' => w'.cell? ⟨w4.heap.size, 0, none⟩ = some (.slice (some ⟨gb, ob2, none⟩) nd.S.length cc1) ∧ w'.cell? ⟨gb, ob2 + s, none⟩ = some (.string (bs xs)) ∧ w'.cell? ⟨w1.heap.size, 0, none⟩ = some (.slice (some ⟨ga, oa, none⟩) d.S.length sc) ∧ w'.cell? ⟨ga, oa + s, none⟩ = some (.string (bs xs)))) (by kernel_rfl) ?_ (fun hHeld => ?_)
              · exact HS20.out
              refine takeH (i := 0) (v := ?vv1) 109 rfl rfl (by kernel_rfl) (by kernel_rfl) (by kernel_rfl) (fun _ _ _ h => h) (Or.inl ⟨by kernel_rfl, ?yy1⟩) (by assumption) ?_
              case yy1 => intro w hSw; (try dsimp only at hSw); go_simp; (try with_reducible rfl)
              simp only [List.setIfInBounds_toArray, List.set_cons_zero, List.set_cons_succ]
              refine takeH (i := 1) (v := ?vv2) 110 rfl rfl (by kernel_rfl) (by kernel_rfl) (by kernel_rfl) (fun _ _ _ h => h) (Or.inl ⟨by kernel_rfl, ?yy2⟩) (by assumption) ?_
              case yy2 => intro w hSw; (try dsimp only at hSw); go_simp; (try with_reducible rfl)
              simp only [List.setIfInBounds_toArray, List.set_cons_zero, List.set_cons_succ]
              refine takeH (i := 2) (v := ?vv3) 111 rfl rfl (by kernel_rfl) (by kernel_rfl) (by kernel_rfl) (fun _ _ _ h => h) (Or.inl ⟨by kernel_rfl, ?yy3⟩) (by assumption) ?_
              case yy3 => intro w hSw; (try dsimp only at hSw); go_simp; (try with_reducible rfl)
              simp only [List.setIfInBounds_toArray, List.set_cons_zero, List.set_cons_succ]
              refine takeH (i := 3) (v := ?vv4) 112 rfl rfl (by kernel_rfl) (by kernel_rfl) (by kernel_rfl) (fun _ _ _ h => h) (Or.inl ⟨by kernel_rfl, ?yy4⟩) (by assumption) ?_
              case yy4 => intro w hSw; (try dsimp only at hSw); go_simp; (try with_reducible rfl)
              simp only [List.setIfInBounds_toArray, List.set_cons_zero, List.set_cons_succ]
              refine takeH (i := 4) (v := ?vv5) 113 rfl rfl (by kernel_rfl) (by kernel_rfl) (by kernel_rfl) (fun _ _ _ h => h) (Or.inl ⟨by kernel_rfl, ?yy5⟩) (by assumption) ?_
              case yy5 => intro w hSw; (try dsimp only at hSw); go_simp; (try with_reducible rfl)
              simp only [List.setIfInBounds_toArray, List.set_cons_zero, List.set_cons_succ]
              refine takeH (i := 5) (v := ?vv6) 114 rfl rfl (by kernel_rfl) (by kernel_rfl) (by kernel_rfl) (fun _ _ _ h => h) (Or.inl ⟨by kernel_rfl, ?yy6⟩) (by assumption) ?_
              case yy6 => intro w hSw; (try dsimp only at hSw); go_simp; (try with_reducible rfl)
              simp only [List.setIfInBounds_toArray, List.set_cons_zero, List.set_cons_succ]
              refine takeH (i := 6) (v := ?vv7) 115 rfl rfl (by kernel_rfl) (by kernel_rfl) (by kernel_rfl) (fun _ _ _ h => h) (Or.inl ⟨by kernel_rfl, ?yy7⟩) (by assumption) ?_
              case yy7 => intro w hSw; (try dsimp only at hSw); go_simp; (try with_reducible rfl)
              simp only [List.setIfInBounds_toArray, List.set_cons_zero, List.set_cons_succ]
              refine takeH (i := 7) (v := ?vv8) 116 rfl rfl (by kernel_rfl) (by kernel_rfl) (by kernel_rfl) (fun _ _ _ h => h) (Or.inl ⟨by kernel_rfl, ?yy8⟩) (by assumption) ?_
              case yy8 => intro w hSw; (try dsimp only at hSw); go_simp; (try with_reducible rfl)
              simp only [List.setIfInBounds_toArray, List.set_cons_zero, List.set_cons_succ]
              refine takeH (i := 8) (v := ?vv9) 117 rfl rfl (by kernel_rfl) (by kernel_rfl) (by kernel_rfl) (fun _ _ _ h => h) (Or.inl ⟨by kernel_rfl, ?yy9⟩) (by assumption) ?_
              case yy9 => intro w hSw; (try dsimp only at hSw); go_simp; (try with_reducible rfl)
              simp only [List.setIfInBounds_toArray, List.set_cons_zero, List.set_cons_succ]
              refine takeH (i := 9) (v := ?vv10) 118 rfl rfl (by kernel_rfl) (by kernel_rfl) (by kernel_rfl) (fun _ _ _ h => h) (Or.inl ⟨by kernel_rfl, ?yy10⟩) (by assumption) ?_
              case yy10 => intro w hSw; (try dsimp only at hSw); go_simp; (try with_reducible rfl)
              simp only [List.setIfInBounds_toArray, List.set_cons_zero, List.set_cons_succ]
              refine takeH (i := 10) (v := ?vv11) 119 rfl rfl (by kernel_rfl) (by kernel_rfl) (by kernel_rfl) (fun _ _ _ h => h) (Or.inl ⟨by kernel_rfl, ?yy11⟩) (by assumption) ?_
              case yy11 => intro w hSw; (try dsimp only at hSw); go_simp; (try with_reducible rfl)
              simp only [List.setIfInBounds_toArray, List.set_cons_zero, List.set_cons_succ]
              refine wpAnyH_done (by kernel_rfl) ?_ _
              skip
              clear x0 HS20 hHeld
              have HD := Lib.hid HD.out.drew; have HJ := Lib.hid HJ.out.drew; have HA := Lib.hid HA.out.drew; have HN := Lib.hid HN.out.drew; have HNJ := Lib.hid HNJ.out.drew; have HLD := Lib.hid HLD.out.drewD; have HLN := Lib.hid HLN.out.drewD; have HB := Lib.hid HB.out.drew; generalize hVD : wr.drew = v7 at HD HJ HA HN HNJ HLD HLN HB ⊢; clear hVD
              go_wp2
              go_roundw
              case rel => exact ⟨s + 1, by omega, by go_num, HD.out, HJ.out, HA.out, HN.out, HNJ.out, HLD.out, HLN.out, HB.out⟩
              case measure => simp [intOf]; omega
            · have txy : (xs == ys) = false := by rw [beq_eq_false_iff_ne]; exact hxy
              have hch := HNE.out hxy
              clear hxy
              go_upto_region 20 with (fail)
              refine wp_region_held_drew (S := (fun w' => w'.cell? ⟨w4.heap.size, 0, none⟩ = some (.slice (some ⟨gb, ob2, none⟩) nd.S.length cc1) ∧ w'.cell? ⟨gb, ob2 + s, none⟩ = some (.string (bs xs)) ∧ w'.cell? ⟨w1.heap.size, 0, none⟩ = some (.slice (some ⟨ga, oa, none⟩) d.S.length sc) ∧ w'.cell? ⟨ga, oa + s, none⟩ = some (.string (bs ys)))) (by kernel_rfl) ?_ (fun hHeld => ?_)
              · exact HS20.out
              refine takeH (i := 0) (v := ?vv12) 109 rfl rfl (by kernel_rfl) (by kernel_rfl) (by kernel_rfl) (fun _ _ _ h => h) (Or.inl ⟨by kernel_rfl, ?yy12⟩) (by assumption) ?_
              case yy12 => intro w hSw; (try dsimp only at hSw); go_simp; (try with_reducible rfl)
              simp only [List.setIfInBounds_toArray, List.set_cons_zero, List.set_cons_succ]
              refine takeH (i := 1) (v := ?vv13) 110 rfl rfl (by kernel_rfl) (by kernel_rfl) (by kernel_rfl) (fun _ _ _ h => h) (Or.inl ⟨by kernel_rfl, ?yy13⟩) (by assumption) ?_
              case yy13 => intro w hSw; (try dsimp only at hSw); go_simp; (try with_reducible rfl)
              simp only [List.setIfInBounds_toArray, List.set_cons_zero, List.set_cons_succ]
              refine takeH (i := 2) (v := ?vv14) 111 rfl rfl (by kernel_rfl) (by kernel_rfl) (by kernel_rfl) (fun _ _ _ h => h) (Or.inl ⟨by kernel_rfl, ?yy14⟩) (by assumption) ?_
              case yy14 => intro w hSw; (try dsimp only at hSw); go_simp; (try with_reducible rfl)
              simp only [List.setIfInBounds_toArray, List.set_cons_zero, List.set_cons_succ]
              refine takeH (i := 3) (v := ?vv15) 112 rfl rfl (by kernel_rfl) (by kernel_rfl) (by kernel_rfl) (fun _ _ _ h => h) (Or.inl ⟨by kernel_rfl, ?yy15⟩) (by assumption) ?_
              case yy15 => intro w hSw; (try dsimp only at hSw); go_simp; (try with_reducible rfl)
              simp only [List.setIfInBounds_toArray, List.set_cons_zero, List.set_cons_succ]
              refine takeH (i := 4) (v := ?vv16) 113 rfl rfl (by kernel_rfl) (by kernel_rfl) (by kernel_rfl) (fun _ _ _ h => h) (Or.inl ⟨by kernel_rfl, ?yy16⟩) (by assumption) ?_
              case yy16 => intro w hSw; (try dsimp only at hSw); go_simp; (try with_reducible rfl)
              simp only [List.setIfInBounds_toArray, List.set_cons_zero, List.set_cons_succ]
              refine takeH (i := 5) (v := ?vv17) 114 rfl rfl (by kernel_rfl) (by kernel_rfl) (by kernel_rfl) (fun _ _ _ h => h) (Or.inl ⟨by kernel_rfl, ?yy17⟩) (by assumption) ?_
              case yy17 => intro w hSw; (try dsimp only at hSw); go_simp; (try with_reducible rfl)
              simp only [List.setIfInBounds_toArray, List.set_cons_zero, List.set_cons_succ]
              refine takeH (i := 6) (v := ?vv18) 115 rfl rfl (by kernel_rfl) (by kernel_rfl) (by kernel_rfl) (fun _ _ _ h => h) (Or.inl ⟨by kernel_rfl, ?yy18⟩) (by assumption) ?_
              case yy18 => intro w hSw; (try dsimp only at hSw); go_simp; (try with_reducible rfl)
              simp only [List.setIfInBounds_toArray, List.set_cons_zero, List.set_cons_succ]
              refine takeH (i := 7) (v := ?vv19) 116 rfl rfl (by kernel_rfl) (by kernel_rfl) (by kernel_rfl) (fun _ _ _ h => h) (Or.inl ⟨by kernel_rfl, ?yy19⟩) (by assumption) ?_
              case yy19 => intro w hSw; (try dsimp only at hSw); go_simp; (try with_reducible rfl)
              simp only [List.setIfInBounds_toArray, List.set_cons_zero, List.set_cons_succ]
              refine takeH (i := 8) (v := ?vv20) 117 rfl rfl (by kernel_rfl) (by kernel_rfl) (by kernel_rfl) (fun _ _ _ h => h) (Or.inl ⟨by kernel_rfl, ?yy20⟩) (by assumption) ?_
              case yy20 => intro w hSw; (try dsimp only at hSw); go_simp; (try with_reducible rfl)
              simp only [List.setIfInBounds_toArray, List.set_cons_zero, List.set_cons_succ]
              refine takeH (i := 9) (v := ?vv21) 118 rfl rfl (by kernel_rfl) (by kernel_rfl) (by kernel_rfl) (fun _ _ _ h => h) (Or.inl ⟨by kernel_rfl, ?yy21⟩) (by assumption) ?_
              case yy21 => intro w hSw; (try dsimp only at hSw); go_simp; (try with_reducible rfl)
              simp only [List.setIfInBounds_toArray, List.set_cons_zero, List.set_cons_succ]
              refine takeH (i := 10) (v := ?vv22) 119 rfl rfl (by kernel_rfl) (by kernel_rfl) (by kernel_rfl) (fun _ _ _ h => h) (Or.inl ⟨by kernel_rfl, ?yy22⟩) (by assumption) ?_
              case yy22 => intro w hSw; (try dsimp only at hSw); go_simp; (try with_reducible rfl)
              simp only [List.setIfInBounds_toArray, List.set_cons_zero, List.set_cons_succ]
              refine wpAnyH_done (by kernel_rfl) ?_ _
              skip
              clear x0 HS20 hHeld
              have HD := Lib.hid HD.out.drew; have HJ := Lib.hid HJ.out.drew; have HA := Lib.hid HA.out.drew; have HN := Lib.hid HN.out.drew; have HNJ := Lib.hid HNJ.out.drew; have HLD := Lib.hid HLD.out.drewD; have HLN := Lib.hid HLN.out.drewD; have HB := Lib.hid HB.out.drew; generalize hVD : wr.drew = v7 at HD HJ HA HN HNJ HLD HLN HB ⊢; clear hVD
              obtain ⟨_, fj1, fj2, _, _⟩ := HI.out.fits
              obtain ⟨_, fn1, fn2, _, _⟩ := HI2.out.fits
              have hj9 : j.n ≤ 1024 := by omega
              have hn9 : nj.n ≤ 1024 := by omega
              have t0 : v7.cell? ⟨ab, 0, none⟩ = some (.int .i64 x.k) := HA.out.cell 0
              have j5 : v7.cell? ⟨w2.heap.size, 5, none⟩ = some (.int .i64 j.n) := HJ.out.cell 5
              have n5 : v7.cell? ⟨w4.heap.size + 1, 5, none⟩ = some (.int .i64 nj.n) := HNJ.out.cell 5
              have n2 : v7.cell? ⟨w4.heap.size + 1, 2, none⟩ = some (.int .i64 nj.x.a) := HNJ.out.cell 2
              clear fj2 fn2
              rcases hch with ⟨hk0, g1, g2⟩ | ⟨hk1, hch⟩
              · have tk0 : (x.k == 0) = true := by rw [hk0]; rfl
                have tk1 : (x.k == 1) = false := by rw [hk0]; rfl
                clear hk0
                go_wp2
                go_roundw
                case rel => exact ⟨s + 1, by omega, by go_num, HD.out, HJ.out, HA.out, HN.out, HNJ.out, HLD.out, HLN.out, HB.out⟩
                case measure => simp [intOf]; omega
              · have tk0 : (x.k == 0) = false := by rw [hk1]; rfl
                have tk1 : (x.k == 1) = true := by rw [hk1]; rfl
                clear hk1
                by_cases hs2 : (s : Int) < 2
                · clear hch
                  go_wp2
                  go_roundw
                  case rel => exact ⟨s + 1, by omega, by go_num, HD.out, HJ.out, HA.out, HN.out, HNJ.out, HLD.out, HLN.out, HB.out⟩
                  case measure => simp [intOf]; omega
                · rcases hch with h | ⟨ha, h⟩ | ⟨ha, h, h2⟩
                  · exact absurd h hs2
                  · have ta : (nj.x.a == 1) = true := by rw [ha]; rfl
                    clear ha
                    go_wp2
                    go_roundw
                    case rel => exact ⟨s + 1, by omega, by go_num, HD.out, HJ.out, HA.out, HN.out, HNJ.out, HLD.out, HLN.out, HB.out⟩
                    case measure => simp [intOf]; omega
                  · have ta : (nj.x.a == 1) = false := by rw [ha]; rfl
                    have ta2 : (nj.x.a == 2) = true := by rw [ha]; rfl
                    clear ha
                    go_wp2
                    go_roundw
                    case rel => exact ⟨s + 1, by omega, by go_num, HD.out, HJ.out, HA.out, HN.out, HNJ.out, HLD.out, HLN.out, HB.out⟩
                    case measure => simp [intOf]; omega
          · have hls' : ¬ (s : Int) < (d.S.length : Int) := by omega
            have n0 : wr.cell? ⟨w4.heap.size, 0, none⟩ = some (.slice a1 nd.S.length c1) := HN.out.cell 0
            have n1 : wr.cell? ⟨w4.heap.size, 1, none⟩ = some (.slice a2 nd.P.length c2) := HN.out.cell 1
            have n2 : wr.cell? ⟨w4.heap.size, 2, none⟩ = some (.int .i64 nd.fuse) := HN.out.cell 2
            have n3 : wr.cell? ⟨w4.heap.size, 3, none⟩ = some (.int .i64 nd.ops) := HN.out.cell 3
            have n4 : wr.cell? ⟨w4.heap.size, 4, none⟩ = some (.bool nd.dead) := HN.out.cell 4
            have r1 : wr.cell? ⟨w1.heap.size, 1, none⟩ = some (.slice pa d.P.length pc) := HD.out.cell 1
            have r2 : wr.cell? ⟨w1.heap.size, 2, none⟩ = some (.int .i64 d.fuse) := HD.out.cell 2
            have r3 : wr.cell? ⟨w1.heap.size, 3, none⟩ = some (.int .i64 d.ops) := HD.out.cell 3
            have r4 : wr.cell? ⟨w1.heap.size, 4, none⟩ = some (.bool d.dead) := HD.out.cell 4
            have r0 : wr.cell? ⟨w1.heap.size, 0, none⟩ = some (.slice sa d.S.length sc) := x0
            clear x0
            have f0 := HD.out.free 0
            have f1 := HD.out.free 1
            have f2 := HD.out.free 2
            have f3 := HD.out.free 3
            have f4 := HD.out.free 4
            go_upto_region 26 with (fail)
            clear n0 n1 n2 n3 n4
            clear r0 r1 r2 r3 r4
            clear f0 f1 f2 f3 f4
            have HLN := Lib.hid (HLN.out.sets_box HD.out (.slice a1 nd.S.length c1) (.slice a2 nd.P.length c2) (.int .i64 nd.fuse) (.int .i64 nd.ops) (.bool nd.dead)); have HJ := Lib.hid (HJ.out.sets_ne (c := w1.heap.size) (by omega) (.slice a1 nd.S.length c1) (.slice a2 nd.P.length c2) (.int .i64 nd.fuse) (.int .i64 nd.ops) (.bool nd.dead)); have HNJ := Lib.hid (HNJ.out.sets_ne (c := w1.heap.size) (by omega) (.slice a1 nd.S.length c1) (.slice a2 nd.P.length c2) (.int .i64 nd.fuse) (.int .i64 nd.ops) (.bool nd.dead)); have HD := Lib.hid (HD.out.sets (.slice a1 nd.S.length c1) (.slice a2 nd.P.length c2) (.int .i64 nd.fuse) (.int .i64 nd.ops) (.bool nd.dead)); have HB := Lib.hid (below_sets HB.out w1.heap.size (by omega) (.slice a1 nd.S.length c1) (.slice a2 nd.P.length c2) (.int .i64 nd.fuse) (.int .i64 nd.ops) (.bool nd.dead))
            generalize hW : (((((wr.setCell ⟨w1.heap.size, 0, none⟩ (.slice a1 nd.S.length c1)).setCell ⟨w1.heap.size, 1, none⟩ (.slice a2 nd.P.length c2)).setCell ⟨w1.heap.size, 2, none⟩ (.int .i64 nd.fuse)).setCell ⟨w1.heap.size, 3, none⟩ (.int .i64 nd.ops)).setCell ⟨w1.heap.size, 4, none⟩ (.bool nd.dead)) = v8 at HLN HD HJ HNJ HB ⊢
            clear hW HN HLD HA
            have n0 : v8.cell? ⟨(w4.heap.size + 1), 0, none⟩ = some (.int .i64 nj.x.g) := HNJ.out.cell 0
            have n1 : v8.cell? ⟨(w4.heap.size + 1), 1, none⟩ = some (.int .i64 nj.x.e) := HNJ.out.cell 1
            have n2 : v8.cell? ⟨(w4.heap.size + 1), 2, none⟩ = some (.int .i64 nj.x.a) := HNJ.out.cell 2
            have n3 : v8.cell? ⟨(w4.heap.size + 1), 3, none⟩ = some (.int .i64 nj.x.z) := HNJ.out.cell 3
            have n4 : v8.cell? ⟨(w4.heap.size + 1), 4, none⟩ = some (.int .i64 nj.x.p) := HNJ.out.cell 4
            have n5 : v8.cell? ⟨(w4.heap.size + 1), 5, none⟩ = some (.int .i64 nj.n) := HNJ.out.cell 5
            have n6 : v8.cell? ⟨(w4.heap.size + 1), 6, none⟩ = some (.int .i64 nj.r) := HNJ.out.cell 6
            have r0 : v8.cell? ⟨w2.heap.size, 0, none⟩ = some (.int .i64 j.x.g) := HJ.out.cell 0
            have r1 : v8.cell? ⟨w2.heap.size, 1, none⟩ = some (.int .i64 j.x.e) := HJ.out.cell 1
            have r2 : v8.cell? ⟨w2.heap.size, 2, none⟩ = some (.int .i64 j.x.a) := HJ.out.cell 2
            have r3 : v8.cell? ⟨w2.heap.size, 3, none⟩ = some (.int .i64 j.x.z) := HJ.out.cell 3
            have r4 : v8.cell? ⟨w2.heap.size, 4, none⟩ = some (.int .i64 j.x.p) := HJ.out.cell 4
            have r5 : v8.cell? ⟨w2.heap.size, 5, none⟩ = some (.int .i64 j.n) := HJ.out.cell 5
            have r6 : v8.cell? ⟨w2.heap.size, 6, none⟩ = some (.int .i64 j.r) := HJ.out.cell 6
            have f0 := HJ.out.free 0
            have f1 := HJ.out.free 1
            have f2 := HJ.out.free 2
            have f3 := HJ.out.free 3
            have f4 := HJ.out.free 4
            have f5 := HJ.out.free 5
            have f6 := HJ.out.free 6
            go_upto_region 10 with (fail)
            clear n0 n1 n2 n3 n4 n5 n6
            clear r0 r1 r2 r3 r4 r5 r6
            clear f0 f1 f2 f3 f4 f5 f6
            have HLN := Lib.hid (HLN.out.sets7i HJ.out (.int .i64 nj.x.g) (.int .i64 nj.x.e) (.int .i64 nj.x.a) (.int .i64 nj.x.z) (.int .i64 nj.x.p) (.int .i64 nj.n) (.int .i64 nj.r)); have HD := Lib.hid (HD.out.sets7_ne (c := w2.heap.size) (by omega) (.int .i64 nj.x.g) (.int .i64 nj.x.e) (.int .i64 nj.x.a) (.int .i64 nj.x.z) (.int .i64 nj.x.p) (.int .i64 nj.n) (.int .i64 nj.r)); have HJ := Lib.hid (HJ.out.sets7 (.int .i64 nj.x.g) (.int .i64 nj.x.e) (.int .i64 nj.x.a) (.int .i64 nj.x.z) (.int .i64 nj.x.p) (.int .i64 nj.n) (.int .i64 nj.r)); have HB := Lib.hid (below_sets7 HB.out w2.heap.size (by omega) (.int .i64 nj.x.g) (.int .i64 nj.x.e) (.int .i64 nj.x.a) (.int .i64 nj.x.z) (.int .i64 nj.x.p) (.int .i64 nj.n) (.int .i64 nj.r))
            generalize hW : (((((((v8.setCell ⟨w2.heap.size, 0, none⟩ (.int .i64 nj.x.g)).setCell ⟨w2.heap.size, 1, none⟩ (.int .i64 nj.x.e)).setCell ⟨w2.heap.size, 2, none⟩ (.int .i64 nj.x.a)).setCell ⟨w2.heap.size, 3, none⟩ (.int .i64 nj.x.z)).setCell ⟨w2.heap.size, 4, none⟩ (.int .i64 nj.x.p)).setCell ⟨w2.heap.size, 5, none⟩ (.int .i64 nj.n)).setCell ⟨w2.heap.size, 6, none⟩ (.int .i64 nj.r)) = v9 at HLN HD HJ HB ⊢
            clear hW HNJ
            go_wp2
            go_roundw
            case rel => exact ⟨k + 1, nd, nj, cu, a1, _, a2, _, by omega, by go_num, HI2.out, HF2.out, HD.out, HJ.out, HLN.out, HB.out⟩
            case measure => simp [intOf]; omega
    · have hlt' : ¬ (k : Int) < (M.length : Int) := by omega
      go_wp2_with fail
      refine (wexamples_any _).mono ?_
      rintro er w7 ⟨rfl, hb1⟩
      go_wp2_with fail
      go_ret
      exact ⟨rfl, btrans HB.out HB.out.size hb1⟩
theorem areasLaw (a : Int) (wa : (Lit.int .u8 a).wf = true) (aa : Option Addr) (ac : Nat) (M : List Ac) {w0 : World} (hM : AcS w0 (.slice aa M.length ac) M) (hMl : M.length ≤ 4398046511104) (hMs : ∀ q ∈ M, q.l.length ≤ 140737488351232) (w : World) (hw : w0 = w := by rfl) :
    Calls Try.prog 13 #[.int .u8 a, .slice aa M.length ac] w fun e w' => e = .returned (.bool true) ∧ Below w.heap.size w w' := by
  subst hw
  have hs : 0 ≤ a ∧ a < 256 := by
    have h1 : IntKind.u8.min = 0 := by decide
    have h2 : IntKind.u8.max = 255 := by decide
    simp only [Lit.wf, Bool.and_eq_true, decide_eq_true_eq, h1, h2] at wa; omega
  obtain ⟨n, rfl⟩ : ∃ n : Nat, a = n := ⟨a.toNat, by omega⟩
  exact areasWalk n (by omega) aa ac M w0 hM hMl hMs
end Go.Proofs.Ytkpfkknldeafkaa
