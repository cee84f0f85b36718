/- What the claim needs of: WalLk, WalUp. No conditions. -/
import Derived.Test.YtkpfkknldeafkaaZk5
import Derived.Test.YtkpfkknldeafkaaRows
import Derived.WalkKit
import Derived.WalkSpells
import Derived.WalkLawsBesides
import Derived.Lib.SlBytesRow
import Derived.Lib.Hide
import Derived.Laws.Bits64
import Derived.Laws.CopyOwn
import Derived.Lib.BufferWrite
import Derived.Deep.RegionLaw
import Derived.Deep.DeepCutAuto
import Derived.ChangeAlike
import Derived.RegionTactic
import Derived.Deep.RegionHeld3
import Derived.Laws.ResultCell
import Derived.RangeFuncNested
import Derived.RangeFuncBound
import Derived.RangeFuncCalls
import Derived.RangeFuncLeaves
import Derived.Shelf.Abstract
import Derived.Shelf.RegionOpen
import Derived.OwnWalkIn
import Derived.TacticsInMore
import Derived.LoopNIn
import Derived.LoopIn
import Derived.Laws.AppendOwnNone
import Derived.Deep.DeepAppendWide
import Derived.Laws.OwnMore
import Derived.Deep.AppendLies
import Derived.Outline
import Derived.Shelf.Bits.Mul64
import Derived.OrdersIn
import Derived.TacticsIn
import Derived.Deep.QuietTactic
import Derived.BigQuiet
import Derived.Deep.Cut
import Derived.Deep.CutRange
import Derived.ProofKit
import Derived.OpenShut
import Derived.Lib.SmallJoins
import Derived.SliceStrings
import Derived.Deep.Slices
import Derived.SizedLaws
import Derived.ArgAppend
import Derived.Lib.AppendStr
import Derived.Tactics
import Derived.Tactics2
import Derived.Defers
import Derived.Recover
import Derived.Laws.Pointers
namespace Go.Proofs.Ytkpfkknldeafkaa
open Go.RowKit

set_option maxRecDepth 100000 in
set_option maxHeartbeats 64000000 in
theorem keepsWalk (n : Nat) (hn : n < 256) (aa : Option Addr) (ac : Nat) (M : List Ac) (w : World) (hM : AcS w (.slice aa M.length ac) M) (hMl : M.length ≤ 1048576) (hMs : ∀ q ∈ M, q.l.length ≤ 140737488351232) :
    Calls Try.prog 14 #[.int .u8 (n : Int), .slice aa M.length ac] w fun e w' => e = .returned (.bool true) ∧ Below w.heap.size w w' := by
  obtain ⟨m, hm⟩ : ∃ m : Nat, 18 + (n : Int) % 24 = m := ⟨18 + n % 24, by omega⟩
  have hmb : 18 ≤ m ∧ m ≤ 41 := by omega
  obtain ⟨hm1, hm2⟩ := hmb
  obtain ⟨d0, hd0, hq0, hf0, hz0⟩ := new_valid m (by omega) (by omega)
  obtain ⟨d1, ho1, hi1, hf1⟩ := start_out m (by omega) (by omega) hd0
  have hs0 : d0.S.length ≤ 64 := by rw [hq0.s]; omega
  have hp0 : d0.P.length ≤ 0 := by rw [hq0.p]; exact Nat.le_refl _
  obtain ⟨hs1, hp1, _⟩ := inv_lens hi1
  obtain ⟨j1, hj1⟩ : ∃ j, j = (⟨sp1, 0, 0⟩ : Jn) := ⟨_, rfl⟩
  have hg1 : j1.x.g = 1 := by rw [hj1]; rfl
  rw [← hj1] at ho1 hi1
  have E1 := Lib.hid (show newS (18 + (n : Int) % 24) = (d0, 0) by rw [hm]; exact hd0)
  have HQ0 := Lib.hid hq0; have HO1 := Lib.hid ho1; have HI1 := Lib.hid hi1; have HG1 := Lib.hid hg1; have HM := Lib.hid hM; have HMM := Lib.hid hm; have HF1 := Lib.hid hf1; have HJE := Lib.hid hj1; clear hd0 hf0 hz0 ho1 hi1 hj1 hg1 hM hm hq0 hf1
  go_enter Try.func14, Try.ntmps14
  go_wp2_with fail
  refine (New_any (18 + (n : Int) % 24) _).mono ?_
  rw [E1.out]
  rintro er w1 ⟨a1, c1, a2, c2, rfl, hO1, hb1⟩
  have HLD := Lib.hid (hO1.lists (d := d0) (by omega) (by omega)); have HB := Lib.hid hb1; have zw1 := hb1.size; clear hO1 hb1
  have hal := (Below.refl w1.heap.size w1).alloc (Nat.le_refl _) (.cells #[.slice a1 d0.S.length c1, .slice a2 d0.P.length c2, .int .i64 d0.fuse, .int .i64 d0.ops, .bool d0.dead] 38)
  have HD := Lib.hid (Bx.new w1 #[.slice a1 d0.S.length c1, .slice a2 d0.P.length c2, .int .i64 d0.fuse, .int .i64 d0.ops, .bool d0.dead] 38)
  have HLD := Lib.hid (HLD.out.below hal)
  have HB := Lib.hid (btrans HB.out HB.out.size hal); clear hal
  go_upto_region 2 with (fail)
  generalize hW : w1.alloc (.cells #[.slice a1 d0.S.length c1, .slice a2 d0.P.length c2, .int .i64 d0.fuse, .int .i64 d0.ops, .bool d0.dead] 38) = v1 at HLD HB HD ⊢
  clear hW
  have x0 : v1.cell? ⟨w1.heap.size, 0, none⟩ = some (.slice a1 d0.S.length c1) := HD.out.cell 0
  have x1 : v1.cell? ⟨w1.heap.size, 1, none⟩ = some (.slice a2 d0.P.length c2) := HD.out.cell 1
  have x2 : v1.cell? ⟨w1.heap.size, 2, none⟩ = some (.int .i64 d0.fuse) := HD.out.cell 2
  have x3 : v1.cell? ⟨w1.heap.size, 3, none⟩ = some (.int .i64 d0.ops) := HD.out.cell 3
  have x4 : v1.cell? ⟨w1.heap.size, 4, none⟩ = some (.bool d0.dead) := HD.out.cell 4
  go_wp2_with fail
  refine (openW_use _ _ _ _ d0 d1 j1 [] [] 0 _ HLD.out (by omega) HO1.out (by omega) (by omega)).mono ?_
  simp only [jnV]
  rintro er w2 ⟨a3, c3, a4, c4, a5, c5, rfl, hL, hM5, hb1⟩
  clear x0 x1 x2 x3 x4
  have HD := Lib.hid (HD.out.call hb1); have HB := Lib.hid (btrans HB.out HB.out.size hb1); have HLD := Lib.hid hL; have HM5 := Lib.hid (fun W => strs_nil hM5 W); clear hb1 hL hM5
  have zd2 := HD.out.lt
  have hac : ∀ (W : World) (o : Obj) (i : Nat), w1.heap.size < W.heap.size → (W.alloc o).cell? ⟨w1.heap.size, i, none⟩ = W.cell? ⟨w1.heap.size, i, none⟩ := fun W o i h => World.cell?_of_block (w := W) (a := ⟨w1.heap.size, i, none⟩) (Below.heap_alloc W o _ h)
  have haf : ∀ (W : World) (o : Obj) (i : Nat), w1.heap.size < W.heap.size → (W.alloc o).frozen? ⟨w1.heap.size, i, none⟩ = W.frozen? ⟨w1.heap.size, i, none⟩ := fun W o i h => frozen_past o i 0 h
  have r0 : w2.cell? ⟨w1.heap.size, 0, none⟩ = some (.slice a1 d0.S.length c1) := HD.out.cell 0
  have r1 : w2.cell? ⟨w1.heap.size, 1, none⟩ = some (.slice a2 d0.P.length c2) := HD.out.cell 1
  have r2 : w2.cell? ⟨w1.heap.size, 2, none⟩ = some (.int .i64 d0.fuse) := HD.out.cell 2
  have r3 : w2.cell? ⟨w1.heap.size, 3, none⟩ = some (.int .i64 d0.ops) := HD.out.cell 3
  have r4 : w2.cell? ⟨w1.heap.size, 4, none⟩ = some (.bool d0.dead) := HD.out.cell 4
  have f0 : w2.frozen? ⟨w1.heap.size, 0, none⟩ = false := HD.out.free 0
  have f1 : w2.frozen? ⟨w1.heap.size, 1, none⟩ = false := HD.out.free 1
  have f2 : w2.frozen? ⟨w1.heap.size, 2, none⟩ = false := HD.out.free 2
  have f3 : w2.frozen? ⟨w1.heap.size, 3, none⟩ = false := HD.out.free 3
  have f4 : w2.frozen? ⟨w1.heap.size, 4, none⟩ = false := HD.out.free 4
  go_upto_region 3 with (fail)
  clear hac haf
  clear r0 r1 r2 r3 r4
  clear f0 f1 f2 f3 f4
  have hsz : (((((w2.setCell ⟨w1.heap.size, 0, none⟩ (.slice a3 d1.S.length c3)).setCell ⟨w1.heap.size, 1, none⟩ (.slice a4 d1.P.length c4)).setCell ⟨w1.heap.size, 2, none⟩ (.int .i64 d1.fuse)).setCell ⟨w1.heap.size, 3, none⟩ (.int .i64 d1.ops)).setCell ⟨w1.heap.size, 4, none⟩ (.bool d1.dead)).heap.size = w2.heap.size := by simp
  have hJ := Bx.new (((((w2.setCell ⟨w1.heap.size, 0, none⟩ (.slice a3 d1.S.length c3)).setCell ⟨w1.heap.size, 1, none⟩ (.slice a4 d1.P.length c4)).setCell ⟨w1.heap.size, 2, none⟩ (.int .i64 d1.fuse)).setCell ⟨w1.heap.size, 3, none⟩ (.int .i64 d1.ops)).setCell ⟨w1.heap.size, 4, none⟩ (.bool d1.dead)) #[.int .i64 j1.x.g, .int .i64 j1.x.e, .int .i64 j1.x.a, .int .i64 j1.x.z, .int .i64 j1.x.p, .int .i64 j1.n, .int .i64 j1.r] 57
  rw [hsz] at hJ
  have hal := (Below.refl (((((w2.setCell ⟨w1.heap.size, 0, none⟩ (.slice a3 d1.S.length c3)).setCell ⟨w1.heap.size, 1, none⟩ (.slice a4 d1.P.length c4)).setCell ⟨w1.heap.size, 2, none⟩ (.int .i64 d1.fuse)).setCell ⟨w1.heap.size, 3, none⟩ (.int .i64 d1.ops)).setCell ⟨w1.heap.size, 4, none⟩ (.bool d1.dead)).heap.size (((((w2.setCell ⟨w1.heap.size, 0, none⟩ (.slice a3 d1.S.length c3)).setCell ⟨w1.heap.size, 1, none⟩ (.slice a4 d1.P.length c4)).setCell ⟨w1.heap.size, 2, none⟩ (.int .i64 d1.fuse)).setCell ⟨w1.heap.size, 3, none⟩ (.int .i64 d1.ops)).setCell ⟨w1.heap.size, 4, none⟩ (.bool d1.dead))).alloc (Nat.le_refl _) (.cells #[.int .i64 j1.x.g, .int .i64 j1.x.e, .int .i64 j1.x.a, .int .i64 j1.x.z, .int .i64 j1.x.p, .int .i64 j1.n, .int .i64 j1.r] 57)
  have HLD := Lib.hid ((HLD.out.sets_box HD.out (.slice a3 d1.S.length c3) (.slice a4 d1.P.length c4) (.int .i64 d1.fuse) (.int .i64 d1.ops) (.bool d1.dead)).below hal); have HB := Lib.hid ((below_sets HB.out w1.heap.size (by omega) (.slice a3 d1.S.length c3) (.slice a4 d1.P.length c4) (.int .i64 d1.fuse) (.int .i64 d1.ops) (.bool d1.dead)).alloc (by rw [hsz]; omega) (.cells #[.int .i64 j1.x.g, .int .i64 j1.x.e, .int .i64 j1.x.a, .int .i64 j1.x.z, .int .i64 j1.x.p, .int .i64 j1.n, .int .i64 j1.r] 57))
  have HD := Lib.hid ((HD.out.sets (.slice a3 d1.S.length c3) (.slice a4 d1.P.length c4) (.int .i64 d1.fuse) (.int .i64 d1.ops) (.bool d1.dead)).call hal); have HJ := Lib.hid hJ; clear hJ hal hsz
  generalize hW : (((((w2.setCell ⟨w1.heap.size, 0, none⟩ (.slice a3 d1.S.length c3)).setCell ⟨w1.heap.size, 1, none⟩ (.slice a4 d1.P.length c4)).setCell ⟨w1.heap.size, 2, none⟩ (.int .i64 d1.fuse)).setCell ⟨w1.heap.size, 3, none⟩ (.int .i64 d1.ops)).setCell ⟨w1.heap.size, 4, none⟩ (.bool d1.dead)).alloc (.cells #[.int .i64 j1.x.g, .int .i64 j1.x.e, .int .i64 j1.x.a, .int .i64 j1.x.z, .int .i64 j1.x.p, .int .i64 j1.n, .int .i64 j1.r] 57) = v3 at HD HLD HB HJ ⊢
  clear hW
  have zHJ := HJ.out.lt
  have hal := (Below.refl v3.heap.size v3).alloc (Nat.le_refl _) (.cells #[.string ⟨#[]⟩, .int .i64 0, .slice none 0 0] 74)
  have HC := Lib.hid (Bx.new v3 #[.string ⟨#[]⟩, .int .i64 0, .slice none 0 0] 74)
  have HD := Lib.hid (HD.out.call hal)
  have HJ := Lib.hid (HJ.out.call hal)
  have HLD := Lib.hid (HLD.out.below hal)
  have HB := Lib.hid (btrans HB.out HB.out.size hal); clear hal
  go_upto_region 4 with (fail)
  generalize hW : v3.alloc (.cells #[.string ⟨#[]⟩, .int .i64 0, .slice none 0 0] 74) = v4 at HD HJ HLD HB HC ⊢
  clear hW
  go_wp2
  go_loopw [12] (fun i wr => ∃ (k : Nat) (d : Dk) (j : Jn) (c : Ct) (sa : Option Addr) (sc : Nat) (pa : Option Addr) (pc : Nat) (va : Option Addr) (vc : Nat), k ≤ M.length ∧ i = .int .i64 k ∧ Inv m d j c ∧ d.fuse = 0 ∧ j.x.g ≤ 1 + k ∧ Bx w1.heap.size #[.slice sa d.S.length sc, .slice pa d.P.length pc, .int .i64 d.fuse, .int .i64 d.ops, .bool d.dead] 38 wr ∧ Bx w2.heap.size #[.int .i64 j.x.g, .int .i64 j.x.e, .int .i64 j.x.a, .int .i64 j.x.z, .int .i64 j.x.p, .int .i64 j.n, .int .i64 j.r] 57 wr ∧ Bx v3.heap.size #[.string (bs c.image), .int .i64 c.pos, .slice va c.recs.length vc] 74 wr ∧ Lists wr sa sc pa pc d ∧ StrS wr (.slice va c.recs.length vc) c.recs ∧ Off v3.heap.size va ∧ Below w.heap.size w wr) (fun i _ => M.length - (intOf i).toNat)
  case atStart => exact ⟨0, d1, j1, ⟨[], 0, []⟩, a3, c3, a4, c4, none, 0, Nat.zero_le _, rfl, HI1.out, HF1.out, by have := HG1.out; omega, HD.out, HJ.out, HC.out, HLD.out, ⟨none, 0, rfl, Nat.le_refl _, fun hne => absurd rfl hne⟩, (fun q hq => by cases hq), HB.out⟩
  case round =>
    obtain ⟨k, d, j, c, sa, sc, pa, pc, va, vc, hk, rfl, hI, hf, hg, hXD, hXJ, hXC, hLD, hLC, hoff, hbr⟩ := hrel
    clear HD HJ HC HLD HB HM5
    have HD := Lib.hid hXD; have HJ := Lib.hid hXJ; have HC := Lib.hid hXC; have HLD := Lib.hid hLD; have HLC := Lib.hid hLC; have HB := Lib.hid hbr; have HI := Lib.hid hI; have HF := Lib.hid hf; have HOF := Lib.hid hoff; clear hXD hXJ hXC hLD hLC hbr hI hf hoff
    obtain ⟨hsl, hpl, hrl⟩ := inv_lens HI.out
    have hqs : 2 ≤ d.S.length := by rw [HI.out.q.s]; omega
    have zcr := HC.out.lt
    by_cases hlt : k < M.length
    · have hlt' : (k : Int) < (M.length : Int) := by omega
      obtain ⟨ob, ooff, rfl, hoc, p1, p2, p3⟩ := (HM.out.below HB.out).at k hlt
      have hxs := hMs _ (List.getElem_mem hlt)
      obtain ⟨x, hx⟩ : ∃ x, M[k] = x := ⟨_, rfl⟩
      rw [hx] at p1 p2 p3 hxs
      clear hx
      have hal := (Below.refl wr.heap.size wr).alloc (Nat.le_refl _) (.cells #[.int .i64 x.k, .string (bs x.l), .int .i64 x.p] 67)
      have HA := Lib.hid (Bx.new wr #[.int .i64 x.k, .string (bs x.l), .int .i64 x.p] 67)
      have HD := Lib.hid (HD.out.call hal)
      have HJ := Lib.hid (HJ.out.call hal)
      have HC := Lib.hid (HC.out.call hal)
      have HLD := Lib.hid (HLD.out.below hal)
      have HLC := Lib.hid (HLC.out.below hal)
      have HB := Lib.hid (btrans HB.out HB.out.size hal); clear hal
      go_upto_region 10 with (fail)
      generalize hW : wr.alloc (.cells #[.int .i64 x.k, .string (bs x.l), .int .i64 x.p] 67) = v5 at HD HJ HC HLD HLC HB HA ⊢
      clear hW
      clear p1 p2 p3
      obtain ⟨tf, htf⟩ : ∃ t, decide ((planS d j x.l).2 = 0) = t := ⟨_, rfl⟩
      have HTF := Lib.hid htf; clear htf
      have x0 : v5.cell? ⟨w1.heap.size, 0, none⟩ = some (.slice sa d.S.length sc) := HD.out.cell 0
      have x1 : v5.cell? ⟨w1.heap.size, 1, none⟩ = some (.slice pa d.P.length pc) := HD.out.cell 1
      have x2 : v5.cell? ⟨w1.heap.size, 2, none⟩ = some (.int .i64 d.fuse) := HD.out.cell 2
      have x3 : v5.cell? ⟨w1.heap.size, 3, none⟩ = some (.int .i64 d.ops) := HD.out.cell 3
      have x4 : v5.cell? ⟨w1.heap.size, 4, none⟩ = some (.bool d.dead) := HD.out.cell 4
      have y0 : v5.cell? ⟨w2.heap.size, 0, none⟩ = some (.int .i64 j.x.g) := HJ.out.cell 0
      have y1 : v5.cell? ⟨w2.heap.size, 1, none⟩ = some (.int .i64 j.x.e) := HJ.out.cell 1
      have y2 : v5.cell? ⟨w2.heap.size, 2, none⟩ = some (.int .i64 j.x.a) := HJ.out.cell 2
      have y3 : v5.cell? ⟨w2.heap.size, 3, none⟩ = some (.int .i64 j.x.z) := HJ.out.cell 3
      have y4 : v5.cell? ⟨w2.heap.size, 4, none⟩ = some (.int .i64 j.x.p) := HJ.out.cell 4
      have y5 : v5.cell? ⟨w2.heap.size, 5, none⟩ = some (.int .i64 j.n) := HJ.out.cell 5
      have y6 : v5.cell? ⟨w2.heap.size, 6, none⟩ = some (.int .i64 j.r) := HJ.out.cell 6
      have t1 : v5.cell? ⟨wr.heap.size, 1, none⟩ = some (.string (bs x.l)) := HA.out.cell 1
      go_wp2_with fail
      refine (Fits_any _ _ _ _ d j x.l _ HLD.out (by omega)).mono ?_
      rw [HTF.out]
      rintro er w3 ⟨rfl, hb1⟩
      clear x0 x1 x2 x3 x4
      clear y0 y1 y2 y3 y4 y5 y6
      clear t1
      have HD := Lib.hid (HD.out.call hb1)
      have HJ := Lib.hid (HJ.out.call hb1)
      have HC := Lib.hid (HC.out.call hb1)
      have HA := Lib.hid (HA.out.call hb1)
      have HLD := Lib.hid (HLD.out.below hb1)
      have HLC := Lib.hid (HLC.out.below hb1)
      have HB := Lib.hid (btrans HB.out HB.out.size hb1); clear hb1
      obtain ⟨nd, nj, e, hout, hfits, hcall⟩ := do_out HI.out (by omega) x (by omega)
      have HOUT := Lib.hid hout; have HFI := Lib.hid hfits; have HCA := Lib.hid hcall; clear hout hfits hcall
      have x0 : w3.cell? ⟨w1.heap.size, 0, none⟩ = some (.slice sa d.S.length sc) := HD.out.cell 0
      have x1 : w3.cell? ⟨w1.heap.size, 1, none⟩ = some (.slice pa d.P.length pc) := HD.out.cell 1
      have x2 : w3.cell? ⟨w1.heap.size, 2, none⟩ = some (.int .i64 d.fuse) := HD.out.cell 2
      have x3 : w3.cell? ⟨w1.heap.size, 3, none⟩ = some (.int .i64 d.ops) := HD.out.cell 3
      have x4 : w3.cell? ⟨w1.heap.size, 4, none⟩ = some (.bool d.dead) := HD.out.cell 4
      have y0 : w3.cell? ⟨w2.heap.size, 0, none⟩ = some (.int .i64 j.x.g) := HJ.out.cell 0
      have y1 : w3.cell? ⟨w2.heap.size, 1, none⟩ = some (.int .i64 j.x.e) := HJ.out.cell 1
      have y2 : w3.cell? ⟨w2.heap.size, 2, none⟩ = some (.int .i64 j.x.a) := HJ.out.cell 2
      have y3 : w3.cell? ⟨w2.heap.size, 3, none⟩ = some (.int .i64 j.x.z) := HJ.out.cell 3
      have y4 : w3.cell? ⟨w2.heap.size, 4, none⟩ = some (.int .i64 j.x.p) := HJ.out.cell 4
      have y5 : w3.cell? ⟨w2.heap.size, 5, none⟩ = some (.int .i64 j.n) := HJ.out.cell 5
      have y6 : w3.cell? ⟨w2.heap.size, 6, none⟩ = some (.int .i64 j.r) := HJ.out.cell 6
      have z0 : w3.cell? ⟨v3.heap.size, 0, none⟩ = some (.string (bs c.image)) := HC.out.cell 0
      have z1 : w3.cell? ⟨v3.heap.size, 1, none⟩ = some (.int .i64 c.pos) := HC.out.cell 1
      have z2 : w3.cell? ⟨v3.heap.size, 2, none⟩ = some (.slice va c.recs.length vc) := HC.out.cell 2
      have t0 : w3.cell? ⟨wr.heap.size, 0, none⟩ = some (.int .i64 x.k) := HA.out.cell 0
      have t1 : w3.cell? ⟨wr.heap.size, 1, none⟩ = some (.string (bs x.l)) := HA.out.cell 1
      have t2 : w3.cell? ⟨wr.heap.size, 2, none⟩ = some (.int .i64 x.p) := HA.out.cell 2
      go_wp2_with fail
      refine (HCA.out sa pa va sc pc vc _ HLD.out HLC.out).mono ?_
      unfold DOPost; simp only [jnV]
      rintro er w4 ⟨a1, c1, a2, c2, rfl, hLN, hb1⟩
      clear x0 x1 x2 x3 x4
      clear y0 y1 y2 y3 y4 y5 y6
      clear z0 z1 z2
      clear t0 t1 t2
      have HLN := Lib.hid hLN; clear hLN
      have HD := Lib.hid (HD.out.call hb1)
      have HJ := Lib.hid (HJ.out.call hb1)
      have HC := Lib.hid (HC.out.call hb1)
      have HA := Lib.hid (HA.out.call hb1)
      have HLD := Lib.hid (HLD.out.below hb1)
      have HLC := Lib.hid (HLC.out.below hb1)
      have HB := Lib.hid (btrans HB.out HB.out.size hb1); clear hb1
      have zc4 := HC.out.lt
      have hal := ((Below.refl w4.heap.size w4).alloc (Nat.le_refl _) (.cells #[.slice a1 nd.S.length c1, .slice a2 nd.P.length c2, .int .i64 nd.fuse, .int .i64 nd.ops, .bool nd.dead] 38)).alloc (by simp) (.cells #[.int .i64 nj.x.g, .int .i64 nj.x.e, .int .i64 nj.x.a, .int .i64 nj.x.z, .int .i64 nj.x.p, .int .i64 nj.n, .int .i64 nj.r] 57)
      have HN := Lib.hid ((Bx.new w4 #[.slice a1 nd.S.length c1, .slice a2 nd.P.length c2, .int .i64 nd.fuse, .int .i64 nd.ops, .bool nd.dead] 38).alloc (.cells #[.int .i64 nj.x.g, .int .i64 nj.x.e, .int .i64 nj.x.a, .int .i64 nj.x.z, .int .i64 nj.x.p, .int .i64 nj.n, .int .i64 nj.r] 57)); have HNJ := Lib.hid (Bx.new1 w4 (.cells #[.slice a1 nd.S.length c1, .slice a2 nd.P.length c2, .int .i64 nd.fuse, .int .i64 nd.ops, .bool nd.dead] 38) #[.int .i64 nj.x.g, .int .i64 nj.x.e, .int .i64 nj.x.a, .int .i64 nj.x.z, .int .i64 nj.x.p, .int .i64 nj.n, .int .i64 nj.r] 57)
      have HD := Lib.hid (HD.out.call hal)
      have HJ := Lib.hid (HJ.out.call hal)
      have HC := Lib.hid (HC.out.call hal)
      have HA := Lib.hid (HA.out.call hal)
      have HLD := Lib.hid (HLD.out.below hal)
      have HLC := Lib.hid (HLC.out.below hal)
      have HLN := Lib.hid (HLN.out.below hal)
      have HB := Lib.hid (btrans HB.out HB.out.size hal); clear hal
      go_upto_region 12 with (fail)
      generalize hW : (w4.alloc (.cells #[.slice a1 nd.S.length c1, .slice a2 nd.P.length c2, .int .i64 nd.fuse, .int .i64 nd.ops, .bool nd.dead] 38)).alloc (.cells #[.int .i64 nj.x.g, .int .i64 nj.x.e, .int .i64 nj.x.a, .int .i64 nj.x.z, .int .i64 nj.x.p, .int .i64 nj.n, .int .i64 nj.r] 57) = v6 at HD HJ HC HA HLD HLC HLN HB HN HNJ ⊢
      clear hW
      rcases HOUT.out with ⟨he, he18, hnd⟩ | ⟨he, hI2, hf2, hg2⟩ | ⟨he, hdied⟩
      rotate_right
      · exact absurd HF.out hdied.1
      · subst hnd
        have te0 : (e == 0) = false := by rw [beq_eq_false_iff_ne]; exact he
        have te : (e != 0) = true := by rw [bne_iff_ne]; exact he
        have hpz : ¬ (0 : Int) < (nd.P.length : Int) := by omega
        have t0 : v6.cell? ⟨wr.heap.size, 0, none⟩ = some (.int .i64 x.k) := HA.out.cell 0
        have x0 : v6.cell? ⟨w1.heap.size, 0, none⟩ = some (.slice sa nd.S.length sc) := HD.out.cell 0
        have x1 : v6.cell? ⟨w1.heap.size, 1, none⟩ = some (.slice pa nd.P.length pc) := HD.out.cell 1
        have x2 : v6.cell? ⟨w1.heap.size, 2, none⟩ = some (.int .i64 nd.fuse) := HD.out.cell 2
        have x3 : v6.cell? ⟨w1.heap.size, 3, none⟩ = some (.int .i64 nd.ops) := HD.out.cell 3
        have x4 : v6.cell? ⟨w1.heap.size, 4, none⟩ = some (.bool nd.dead) := HD.out.cell 4
        have y0 : v6.cell? ⟨w4.heap.size, 0, none⟩ = some (.slice a1 nd.S.length c1) := HN.out.cell 0
        have y1 : v6.cell? ⟨w4.heap.size, 1, none⟩ = some (.slice a2 nd.P.length c2) := HN.out.cell 1
        have y2 : v6.cell? ⟨w4.heap.size, 2, none⟩ = some (.int .i64 nd.fuse) := HN.out.cell 2
        have y3 : v6.cell? ⟨w4.heap.size, 3, none⟩ = some (.int .i64 nd.ops) := HN.out.cell 3
        have y4 : v6.cell? ⟨w4.heap.size, 4, none⟩ = some (.bool nd.dead) := HN.out.cell 4
        by_cases hk0 : x.k = 0
        · have htf : tf = false := by rw [← HTF.out, decide_eq_false_iff_not]; intro h; have h2 := (HFI.out hk0).1 h; omega
          have tk : (x.k == 0) = true := by rw [hk0]; rfl
          subst htf
          have HK0 := Lib.hid hk0; have HE := Lib.hid he; have HE18 := Lib.hid he18; clear hk0 he he18
          go_wp2_with fail
          refine (RSame_any _ _ _ _ _ _ _ _ nd _ HLN.out HLD.out).mono ?_
          rintro er w5 ⟨rfl, hb1⟩
          clear x0 x1 x2 x3 x4
          clear y0 y1 y2 y3 y4
          clear t0
          have HD := Lib.hid (HD.out.call hb1)
          have HJ := Lib.hid (HJ.out.call hb1)
          have HC := Lib.hid (HC.out.call hb1)
          have HN := Lib.hid (HN.out.call hb1)
          have HLD := Lib.hid (HLD.out.below hb1)
          have HLC := Lib.hid (HLC.out.below hb1)
          have HB := Lib.hid (btrans HB.out HB.out.size hb1); clear hb1
          have y1 : w5.cell? ⟨w4.heap.size, 1, none⟩ = some (.slice a2 nd.P.length c2) := HN.out.cell 1
          go_wp2
          go_roundw
          case rel => exact ⟨k + 1, nd, j, c, sa, sc, pa, pc, va, vc, by omega, by go_num, HI.out, HF.out, by omega, HD.out, HJ.out, HC.out, HLD.out, HLC.out, HOF.out, HB.out⟩
          case measure => simp [intOf]; omega
        · have tk : (x.k == 0) = false := by rw [beq_eq_false_iff_ne]; exact hk0
          have HK0 := Lib.hid hk0; have HE := Lib.hid he; have HE18 := Lib.hid he18; clear hk0 he he18
          go_wp2_with fail
          refine (RSame_any _ _ _ _ _ _ _ _ nd _ HLN.out HLD.out).mono ?_
          rintro er w5 ⟨rfl, hb1⟩
          clear x0 x1 x2 x3 x4
          clear y0 y1 y2 y3 y4
          clear t0
          have HD := Lib.hid (HD.out.call hb1)
          have HJ := Lib.hid (HJ.out.call hb1)
          have HC := Lib.hid (HC.out.call hb1)
          have HN := Lib.hid (HN.out.call hb1)
          have HLD := Lib.hid (HLD.out.below hb1)
          have HLC := Lib.hid (HLC.out.below hb1)
          have HB := Lib.hid (btrans HB.out HB.out.size hb1); clear hb1
          have y1 : w5.cell? ⟨w4.heap.size, 1, none⟩ = some (.slice a2 nd.P.length c2) := HN.out.cell 1
          go_wp2
          go_roundw
          case rel => exact ⟨k + 1, nd, j, c, sa, sc, pa, pc, va, vc, by omega, by go_num, HI.out, HF.out, by omega, HD.out, HJ.out, HC.out, HLD.out, HLC.out, HOF.out, HB.out⟩
          case measure => simp [intOf]; omega
      · subst he
        obtain ⟨c', hc'⟩ : ∃ c', aft c x.k x.l x.p = c' := ⟨_, rfl⟩
        rw [hc'] at hI2
        have hf2 := hf2 HF.out
        obtain ⟨hns, hnp, hnr⟩ := inv_lens hI2
        have hnq : 2 ≤ nd.S.length := by rw [hI2.q.s]; omega
        have HI2 := Lib.hid hI2; have HF2 := Lib.hid hf2; have HCC := Lib.hid hc'; clear hI2 hf2 hc'
        have hpz : ¬ (0 : Int) < (nd.P.length : Int) := by omega
        have t0 : v6.cell? ⟨wr.heap.size, 0, none⟩ = some (.int .i64 x.k) := HA.out.cell 0
        have y1 : v6.cell? ⟨w4.heap.size, 1, none⟩ = some (.slice a2 nd.P.length c2) := HN.out.cell 1
        obtain ⟨tk, htk⟩ : ∃ t : Bool, (x.k == 0) = t := ⟨_, rfl⟩
        have htt : tk = true → tf = true := by
          intro h; rw [h] at htk
          have hk0 : x.k = 0 := by simpa using htk
          rw [← HTF.out, decide_eq_true_eq]; exact (HFI.out hk0).2 (.inl rfl)
        have HTT := Lib.hid htt; have HTK := Lib.hid htk; clear htt
        go_cut [96] from 43 to 126 (fun s96 W => s96 = .bool false ∧ W = v6)
        case first =>
          cases tk with
          | false => go_wp2_with fail; go_meet; exact ⟨by rw [decide_eq_false (show ¬ 0 < nd.P.length by omega)], rfl⟩
          | true =>
            have h9 := HTT.out rfl
            subst h9
            go_wp2_with fail; go_meet; exact ⟨by rw [decide_eq_false (show ¬ 0 < nd.P.length by omega)], rfl⟩
        case rest =>
          obtain ⟨rfl, rfl⟩ := hcut
          clear t0 y1 htk HTK HTT
          have z0 : wc.cell? ⟨v3.heap.size, 0, none⟩ = some (.string (bs c.image)) := HC.out.cell 0
          have z1 : wc.cell? ⟨v3.heap.size, 1, none⟩ = some (.int .i64 c.pos) := HC.out.cell 1
          have z2 : wc.cell? ⟨v3.heap.size, 2, none⟩ = some (.slice va c.recs.length vc) := HC.out.cell 2
          have t0 : wc.cell? ⟨wr.heap.size, 0, none⟩ = some (.int .i64 x.k) := HA.out.cell 0
          have t1 : wc.cell? ⟨wr.heap.size, 1, none⟩ = some (.string (bs x.l)) := HA.out.cell 1
          have t2 : wc.cell? ⟨wr.heap.size, 2, none⟩ = some (.int .i64 x.p) := HA.out.cell 2
          go_wp2_with fail
          refine (after_any va vc c x.k x.l x.p _ HLC.out (by omega)).mono ?_
          rw [HCC.out]
          rintro er w5 ⟨a6, c6, rfl, hSN, hof, hb1⟩
          clear z0 z1 z2
          clear t0 t1 t2
          have hof2 : Off v3.heap.size a6 := by
            rcases hof with h | h
            · rw [h]; exact HOF.out
            · intro q hq; have h1 := h q hq; have h2 := HC.out.lt; omega
          have HOF2 := Lib.hid hof2; have HSN := Lib.hid hSN; clear hof hof2 hSN
          have HD := Lib.hid (HD.out.call hb1)
          have HJ := Lib.hid (HJ.out.call hb1)
          have HC := Lib.hid (HC.out.call hb1)
          have HN := Lib.hid (HN.out.call hb1)
          have HNJ := Lib.hid (HNJ.out.call hb1)
          have HLN := Lib.hid (HLN.out.below hb1)
          have HB := Lib.hid (btrans HB.out HB.out.size hb1); clear hb1
          have zc5 := HC.out.lt
          have r0 : w5.cell? ⟨v3.heap.size, 0, none⟩ = some (.string (bs c.image)) := HC.out.cell 0
          have r1 : w5.cell? ⟨v3.heap.size, 1, none⟩ = some (.int .i64 c.pos) := HC.out.cell 1
          have r2 : w5.cell? ⟨v3.heap.size, 2, none⟩ = some (.slice va c.recs.length vc) := HC.out.cell 2
          have f0 := HC.out.free 0
          have f1 := HC.out.free 1
          have f2 := HC.out.free 2
          go_upto_region 16 with (fail)
          clear r0 r1 r2 f0 f1 f2
          have HLN := Lib.hid (HLN.out.kpc HC.out (KpB.sets3 v3.heap.size w5 (.string (bs c'.image)) (.int .i64 c'.pos) (.slice a6 c'.recs.length c6)) hnq); have HSN := Lib.hid (HSN.out.kpo (KpB.sets3 v3.heap.size w5 (.string (bs c'.image)) (.int .i64 c'.pos) (.slice a6 c'.recs.length c6)) HOF2.out); have HD := Lib.hid (HD.out.sets3_ne (c := v3.heap.size) (by omega) (.string (bs c'.image)) (.int .i64 c'.pos) (.slice a6 c'.recs.length c6)); have HJ := Lib.hid (HJ.out.sets3_ne (c := v3.heap.size) (by omega) (.string (bs c'.image)) (.int .i64 c'.pos) (.slice a6 c'.recs.length c6)); have HN := Lib.hid (HN.out.sets3_ne (c := v3.heap.size) (by omega) (.string (bs c'.image)) (.int .i64 c'.pos) (.slice a6 c'.recs.length c6)); have HNJ := Lib.hid (HNJ.out.sets3_ne (c := v3.heap.size) (by omega) (.string (bs c'.image)) (.int .i64 c'.pos) (.slice a6 c'.recs.length c6)); have HC := Lib.hid (HC.out.sets3 (.string (bs c'.image)) (.int .i64 c'.pos) (.slice a6 c'.recs.length c6)); have HB := Lib.hid (below_sets3 HB.out v3.heap.size (by omega) (.string (bs c'.image)) (.int .i64 c'.pos) (.slice a6 c'.recs.length c6))
          generalize hW : (((w5.setCell ⟨v3.heap.size, 0, none⟩ (.string (bs c'.image))).setCell ⟨v3.heap.size, 1, none⟩ (.int .i64 c'.pos)).setCell ⟨v3.heap.size, 2, none⟩ (.slice a6 c'.recs.length c6)) = v7 at HLN HSN HD HJ HN HNJ HC HB ⊢
          clear hW
          have n0 : v7.cell? ⟨w4.heap.size, 0, none⟩ = some (.slice a1 nd.S.length c1) := HN.out.cell 0
          have n1 : v7.cell? ⟨w4.heap.size, 1, none⟩ = some (.slice a2 nd.P.length c2) := HN.out.cell 1
          have n2 : v7.cell? ⟨w4.heap.size, 2, none⟩ = some (.int .i64 nd.fuse) := HN.out.cell 2
          have n3 : v7.cell? ⟨w4.heap.size, 3, none⟩ = some (.int .i64 nd.ops) := HN.out.cell 3
          have n4 : v7.cell? ⟨w4.heap.size, 4, none⟩ = some (.bool nd.dead) := HN.out.cell 4
          have r0 : v7.cell? ⟨w1.heap.size, 0, none⟩ = some (.slice sa d.S.length sc) := HD.out.cell 0
          have r1 : v7.cell? ⟨w1.heap.size, 1, none⟩ = some (.slice pa d.P.length pc) := HD.out.cell 1
          have r2 : v7.cell? ⟨w1.heap.size, 2, none⟩ = some (.int .i64 d.fuse) := HD.out.cell 2
          have r3 : v7.cell? ⟨w1.heap.size, 3, none⟩ = some (.int .i64 d.ops) := HD.out.cell 3
          have r4 : v7.cell? ⟨w1.heap.size, 4, none⟩ = some (.bool d.dead) := HD.out.cell 4
          have f0 := HD.out.free 0
          have f1 := HD.out.free 1
          have f2 := HD.out.free 2
          have f3 := HD.out.free 3
          have f4 := HD.out.free 4
          go_upto_region 17 with (fail)
          clear n0 n1 n2 n3 n4
          clear r0 r1 r2 r3 r4
          clear f0 f1 f2 f3 f4
          have HSN := Lib.hid (HSN.out.kp ((KpB.refl w1.heap.size v7).sets (.slice a1 nd.S.length c1) (.slice a2 nd.P.length c2) (.int .i64 nd.fuse) (.int .i64 nd.ops) (.bool nd.dead)) (none_disk HD.out)); have HLN := Lib.hid (HLN.out.sets_box HD.out (.slice a1 nd.S.length c1) (.slice a2 nd.P.length c2) (.int .i64 nd.fuse) (.int .i64 nd.ops) (.bool nd.dead)); have HJ := Lib.hid (HJ.out.sets_ne (c := w1.heap.size) (by omega) (.slice a1 nd.S.length c1) (.slice a2 nd.P.length c2) (.int .i64 nd.fuse) (.int .i64 nd.ops) (.bool nd.dead)); have HNJ := Lib.hid (HNJ.out.sets_ne (c := w1.heap.size) (by omega) (.slice a1 nd.S.length c1) (.slice a2 nd.P.length c2) (.int .i64 nd.fuse) (.int .i64 nd.ops) (.bool nd.dead)); have HC := Lib.hid (HC.out.sets_ne (c := w1.heap.size) (by omega) (.slice a1 nd.S.length c1) (.slice a2 nd.P.length c2) (.int .i64 nd.fuse) (.int .i64 nd.ops) (.bool nd.dead)); have HD := Lib.hid (HD.out.sets (.slice a1 nd.S.length c1) (.slice a2 nd.P.length c2) (.int .i64 nd.fuse) (.int .i64 nd.ops) (.bool nd.dead)); have HB := Lib.hid (below_sets HB.out w1.heap.size (by omega) (.slice a1 nd.S.length c1) (.slice a2 nd.P.length c2) (.int .i64 nd.fuse) (.int .i64 nd.ops) (.bool nd.dead))
          generalize hW : (((((v7.setCell ⟨w1.heap.size, 0, none⟩ (.slice a1 nd.S.length c1)).setCell ⟨w1.heap.size, 1, none⟩ (.slice a2 nd.P.length c2)).setCell ⟨w1.heap.size, 2, none⟩ (.int .i64 nd.fuse)).setCell ⟨w1.heap.size, 3, none⟩ (.int .i64 nd.ops)).setCell ⟨w1.heap.size, 4, none⟩ (.bool nd.dead)) = v8 at HLN HSN HD HJ HNJ HC HB ⊢
          clear hW HN
          have n0 : v8.cell? ⟨(w4.heap.size + 1), 0, none⟩ = some (.int .i64 nj.x.g) := HNJ.out.cell 0
          have n1 : v8.cell? ⟨(w4.heap.size + 1), 1, none⟩ = some (.int .i64 nj.x.e) := HNJ.out.cell 1
          have n2 : v8.cell? ⟨(w4.heap.size + 1), 2, none⟩ = some (.int .i64 nj.x.a) := HNJ.out.cell 2
          have n3 : v8.cell? ⟨(w4.heap.size + 1), 3, none⟩ = some (.int .i64 nj.x.z) := HNJ.out.cell 3
          have n4 : v8.cell? ⟨(w4.heap.size + 1), 4, none⟩ = some (.int .i64 nj.x.p) := HNJ.out.cell 4
          have n5 : v8.cell? ⟨(w4.heap.size + 1), 5, none⟩ = some (.int .i64 nj.n) := HNJ.out.cell 5
          have n6 : v8.cell? ⟨(w4.heap.size + 1), 6, none⟩ = some (.int .i64 nj.r) := HNJ.out.cell 6
          have r0 : v8.cell? ⟨w2.heap.size, 0, none⟩ = some (.int .i64 j.x.g) := HJ.out.cell 0
          have r1 : v8.cell? ⟨w2.heap.size, 1, none⟩ = some (.int .i64 j.x.e) := HJ.out.cell 1
          have r2 : v8.cell? ⟨w2.heap.size, 2, none⟩ = some (.int .i64 j.x.a) := HJ.out.cell 2
          have r3 : v8.cell? ⟨w2.heap.size, 3, none⟩ = some (.int .i64 j.x.z) := HJ.out.cell 3
          have r4 : v8.cell? ⟨w2.heap.size, 4, none⟩ = some (.int .i64 j.x.p) := HJ.out.cell 4
          have r5 : v8.cell? ⟨w2.heap.size, 5, none⟩ = some (.int .i64 j.n) := HJ.out.cell 5
          have r6 : v8.cell? ⟨w2.heap.size, 6, none⟩ = some (.int .i64 j.r) := HJ.out.cell 6
          have f0 := HJ.out.free 0
          have f1 := HJ.out.free 1
          have f2 := HJ.out.free 2
          have f3 := HJ.out.free 3
          have f4 := HJ.out.free 4
          have f5 := HJ.out.free 5
          have f6 := HJ.out.free 6
          go_upto_region 18 with (fail)
          clear n0 n1 n2 n3 n4 n5 n6
          clear r0 r1 r2 r3 r4 r5 r6
          clear f0 f1 f2 f3 f4 f5 f6
          have HSN := Lib.hid (HSN.out.kp (KpB.sets7 w2.heap.size v8 (.int .i64 nj.x.g) (.int .i64 nj.x.e) (.int .i64 nj.x.a) (.int .i64 nj.x.z) (.int .i64 nj.x.p) (.int .i64 nj.n) (.int .i64 nj.r)) (none_jn HJ.out)); have HLN := Lib.hid (HLN.out.sets7i HJ.out (.int .i64 nj.x.g) (.int .i64 nj.x.e) (.int .i64 nj.x.a) (.int .i64 nj.x.z) (.int .i64 nj.x.p) (.int .i64 nj.n) (.int .i64 nj.r)); have HD := Lib.hid (HD.out.sets7_ne (c := w2.heap.size) (by omega) (.int .i64 nj.x.g) (.int .i64 nj.x.e) (.int .i64 nj.x.a) (.int .i64 nj.x.z) (.int .i64 nj.x.p) (.int .i64 nj.n) (.int .i64 nj.r)); have HC := Lib.hid (HC.out.sets7_ne (c := w2.heap.size) (by omega) (.int .i64 nj.x.g) (.int .i64 nj.x.e) (.int .i64 nj.x.a) (.int .i64 nj.x.z) (.int .i64 nj.x.p) (.int .i64 nj.n) (.int .i64 nj.r)); have HJ := Lib.hid (HJ.out.sets7 (.int .i64 nj.x.g) (.int .i64 nj.x.e) (.int .i64 nj.x.a) (.int .i64 nj.x.z) (.int .i64 nj.x.p) (.int .i64 nj.n) (.int .i64 nj.r)); have HB := Lib.hid (below_sets7 HB.out w2.heap.size (by omega) (.int .i64 nj.x.g) (.int .i64 nj.x.e) (.int .i64 nj.x.a) (.int .i64 nj.x.z) (.int .i64 nj.x.p) (.int .i64 nj.n) (.int .i64 nj.r))
          generalize hW : (((((((v8.setCell ⟨w2.heap.size, 0, none⟩ (.int .i64 nj.x.g)).setCell ⟨w2.heap.size, 1, none⟩ (.int .i64 nj.x.e)).setCell ⟨w2.heap.size, 2, none⟩ (.int .i64 nj.x.a)).setCell ⟨w2.heap.size, 3, none⟩ (.int .i64 nj.x.z)).setCell ⟨w2.heap.size, 4, none⟩ (.int .i64 nj.x.p)).setCell ⟨w2.heap.size, 5, none⟩ (.int .i64 nj.n)).setCell ⟨w2.heap.size, 6, none⟩ (.int .i64 nj.r)) = v9 at HLN HSN HD HJ HC HB ⊢
          clear hW HNJ
          have tr : (nj.r != (c'.recs.length : Int)) = false := by rw [HI2.out.r]; simp
          have tp : (nj.x.p != c'.pos) = false := by rw [HI2.out.p]; simp
          have tz : (nj.x.z != (c'.image.length : Int)) = false := by rw [inv_size HI2.out]; simp
          have y0 : v9.cell? ⟨w2.heap.size, 0, none⟩ = some (.int .i64 nj.x.g) := HJ.out.cell 0
          have y1 : v9.cell? ⟨w2.heap.size, 1, none⟩ = some (.int .i64 nj.x.e) := HJ.out.cell 1
          have y2 : v9.cell? ⟨w2.heap.size, 2, none⟩ = some (.int .i64 nj.x.a) := HJ.out.cell 2
          have y3 : v9.cell? ⟨w2.heap.size, 3, none⟩ = some (.int .i64 nj.x.z) := HJ.out.cell 3
          have y4 : v9.cell? ⟨w2.heap.size, 4, none⟩ = some (.int .i64 nj.x.p) := HJ.out.cell 4
          have y5 : v9.cell? ⟨w2.heap.size, 5, none⟩ = some (.int .i64 nj.n) := HJ.out.cell 5
          have y6 : v9.cell? ⟨w2.heap.size, 6, none⟩ = some (.int .i64 nj.r) := HJ.out.cell 6
          have z0 : v9.cell? ⟨v3.heap.size, 0, none⟩ = some (.string (bs c'.image)) := HC.out.cell 0
          have z1 : v9.cell? ⟨v3.heap.size, 1, none⟩ = some (.int .i64 c'.pos) := HC.out.cell 1
          have z2 : v9.cell? ⟨v3.heap.size, 2, none⟩ = some (.slice a6 c'.recs.length c6) := HC.out.cell 2
          go_wp2
          go_roundw
          case rel => exact ⟨k + 1, nd, nj, c', a1, c1, a2, c2, a6, c6, by omega, by go_num, HI2.out, HF2.out, by omega, HD.out, HJ.out, HC.out, HLN.out, HSN.out, HOF2.out, HB.out⟩
          case measure => simp [intOf]; omega
    · have hlt' : ¬ (k : Int) < (M.length : Int) := by omega
      obtain ⟨d2, ⟨ho2, hi2, _⟩ | ⟨_, hdied⟩⟩ := open_out HI.out (by omega)
      rotate_left
      · exact absurd HF.out hdied.1
      obtain ⟨hs2, hp2, _⟩ := inv_lens hi2
      obtain ⟨j2, hj2⟩ : ∃ q, q = (⟨nextS j.x, j.n, j.r⟩ : Jn) := ⟨_, rfl⟩
      rw [← hj2] at ho2
      have hh : hasC c c.image j2 c.recs = true := (hasC_iff _ _ _ _).2 ⟨rfl, by rw [hj2]; exact HI.out.p, rfl, by rw [hj2]; exact HI.out.r⟩
      have tn : (j2.n == j.n) = true := by rw [hj2]; simp
      have HO2 := Lib.hid ho2; have HH := Lib.hid hh; clear ho2 hh hj2 hi2
      have x0 : wr.cell? ⟨w1.heap.size, 0, none⟩ = some (.slice sa d.S.length sc) := HD.out.cell 0
      have x1 : wr.cell? ⟨w1.heap.size, 1, none⟩ = some (.slice pa d.P.length pc) := HD.out.cell 1
      have x2 : wr.cell? ⟨w1.heap.size, 2, none⟩ = some (.int .i64 d.fuse) := HD.out.cell 2
      have x3 : wr.cell? ⟨w1.heap.size, 3, none⟩ = some (.int .i64 d.ops) := HD.out.cell 3
      have x4 : wr.cell? ⟨w1.heap.size, 4, none⟩ = some (.bool d.dead) := HD.out.cell 4
      go_wp2_with fail
      refine (openW_use _ _ _ _ d d2 j2 c.image c.recs 0 _ HLD.out (by omega) HO2.out (by omega) (by omega)).mono ?_
      simp only [jnV]
      rintro er w3 ⟨a6, c6, a7, c7, a8, c8, rfl, hL, hM8, hb1⟩
      clear x0 x1 x2 x3 x4
      have HM8 := Lib.hid hM8; clear hL hM8
      have HJ := Lib.hid (HJ.out.call hb1)
      have HC := Lib.hid (HC.out.call hb1)
      have HLC := Lib.hid (HLC.out.below hb1)
      have HB := Lib.hid (btrans HB.out HB.out.size hb1); clear hb1
      have hal := ((Below.refl w3.heap.size w3).alloc (Nat.le_refl _) (.cells #[.slice a6 d2.S.length c6, .slice a7 d2.P.length c7, .int .i64 d2.fuse, .int .i64 d2.ops, .bool d2.dead] 38)).alloc (by simp) (.cells #[.int .i64 j2.x.g, .int .i64 j2.x.e, .int .i64 j2.x.a, .int .i64 j2.x.z, .int .i64 j2.x.p, .int .i64 j2.n, .int .i64 j2.r] 57)
      have HN := Lib.hid ((Bx.new w3 #[.slice a6 d2.S.length c6, .slice a7 d2.P.length c7, .int .i64 d2.fuse, .int .i64 d2.ops, .bool d2.dead] 38).alloc (.cells #[.int .i64 j2.x.g, .int .i64 j2.x.e, .int .i64 j2.x.a, .int .i64 j2.x.z, .int .i64 j2.x.p, .int .i64 j2.n, .int .i64 j2.r] 57)); have HNJ := Lib.hid (Bx.new1 w3 (.cells #[.slice a6 d2.S.length c6, .slice a7 d2.P.length c7, .int .i64 d2.fuse, .int .i64 d2.ops, .bool d2.dead] 38) #[.int .i64 j2.x.g, .int .i64 j2.x.e, .int .i64 j2.x.a, .int .i64 j2.x.z, .int .i64 j2.x.p, .int .i64 j2.n, .int .i64 j2.r] 57)
      have HJ := Lib.hid (HJ.out.call hal)
      have HC := Lib.hid (HC.out.call hal)
      have HLC := Lib.hid (HLC.out.below hal)
      have HM8 := Lib.hid (HM8.out.below hal)
      have HB := Lib.hid (btrans HB.out HB.out.size hal); clear hal
      go_upto_region 21 with (fail)
      generalize hW : (w3.alloc (.cells #[.slice a6 d2.S.length c6, .slice a7 d2.P.length c7, .int .i64 d2.fuse, .int .i64 d2.ops, .bool d2.dead] 38)).alloc (.cells #[.int .i64 j2.x.g, .int .i64 j2.x.e, .int .i64 j2.x.a, .int .i64 j2.x.z, .int .i64 j2.x.p, .int .i64 j2.n, .int .i64 j2.r] 57) = v5 at HJ HC HLC HM8 HB HN HNJ ⊢
      clear hW
      have y0 : v5.cell? ⟨(w3.heap.size + 1), 0, none⟩ = some (.int .i64 j2.x.g) := HNJ.out.cell 0
      have y1 : v5.cell? ⟨(w3.heap.size + 1), 1, none⟩ = some (.int .i64 j2.x.e) := HNJ.out.cell 1
      have y2 : v5.cell? ⟨(w3.heap.size + 1), 2, none⟩ = some (.int .i64 j2.x.a) := HNJ.out.cell 2
      have y3 : v5.cell? ⟨(w3.heap.size + 1), 3, none⟩ = some (.int .i64 j2.x.z) := HNJ.out.cell 3
      have y4 : v5.cell? ⟨(w3.heap.size + 1), 4, none⟩ = some (.int .i64 j2.x.p) := HNJ.out.cell 4
      have y5 : v5.cell? ⟨(w3.heap.size + 1), 5, none⟩ = some (.int .i64 j2.n) := HNJ.out.cell 5
      have y6 : v5.cell? ⟨(w3.heap.size + 1), 6, none⟩ = some (.int .i64 j2.r) := HNJ.out.cell 6
      have z0 : v5.cell? ⟨v3.heap.size, 0, none⟩ = some (.string (bs c.image)) := HC.out.cell 0
      have z1 : v5.cell? ⟨v3.heap.size, 1, none⟩ = some (.int .i64 c.pos) := HC.out.cell 1
      have z2 : v5.cell? ⟨v3.heap.size, 2, none⟩ = some (.slice va c.recs.length vc) := HC.out.cell 2
      go_wp2_with fail
      refine (hasC_any va a8 vc c8 c c.image j2 c.recs _ HLC.out HM8.out (by omega) (by omega)).mono ?_
      rw [HH.out]
      rintro er w6 ⟨rfl, hb1⟩
      clear y0 y1 y2 y3 y4 y5 y6
      clear z0 z1 z2
      have HJ := Lib.hid (HJ.out.call hb1)
      have HNJ := Lib.hid (HNJ.out.call hb1)
      have HB := Lib.hid (btrans HB.out HB.out.size hb1); clear hb1
      have y5 : w6.cell? ⟨w3.heap.size + 1, 5, none⟩ = some (.int .i64 j2.n) := HNJ.out.cell 5
      have z5 : w6.cell? ⟨w2.heap.size, 5, none⟩ = some (.int .i64 j.n) := HJ.out.cell 5
      go_wp2_with fail
      refine (wexamples_any _).mono ?_
      rintro er w7 ⟨rfl, hb1⟩
      clear y5 z5
      go_wp2_with fail
      go_ret
      exact ⟨rfl, btrans HB.out HB.out.size hb1⟩
end Go.Proofs.Ytkpfkknldeafkaa
namespace Go.Proofs.Ytkpfkknldeafkaa
open Go.ChangeShapes Go.WideShapes Go.ChangeAt Go.RowKit

theorem bulk_one {H : Type} (d : DataW H) : 1 ≤ Rows.uptoBulk d := by
  cases d with
  | lit l => cases l <;> simp [Rows.uptoBulk]
  | _ => simp [Rows.uptoBulk]
theorem bulk_length {H : Type} (l : List (DataW H)) : l.length ≤ Rows.uptoBulkAll l := by
  induction l with
  | nil => simp [Rows.uptoBulkAll]
  | cons x r ih => have := bulk_one x; simp only [Rows.uptoBulkAll, List.length_cons]; omega
theorem bulk_part {H : Type} {d : DataW H} {l : List (DataW H)} (h : d ∈ l) : Rows.uptoBulk d ≤ Rows.uptoBulkAll l := by
  induction l with
  | nil => cases h
  | cons x r ih =>
    simp only [Rows.uptoBulkAll]
    cases List.mem_cons.1 h with
    | inl e => subst e; omega
    | inr e => have := ih e; omega
theorem bulk_bound {H : Type} {l : List (DataW H)} (hk : Rows.uptoSmall H l = true) : Rows.uptoBulkAll l ≤ 1048576 := of_decide_eq_true hk
theorem upto_len {H : Type} {d : DataW H} {l : List (DataW H)} (hk : Rows.uptoSmall H l = true) (hd : d ∈ l) {n : Nat} (hn : n ≤ Rows.uptoBulk d) : n ≤ 1048576 :=
  Nat.le_trans hn (Nat.le_trans (bulk_part hd) (bulk_bound hk))
section
variable {H : Type} {enc : TypeId × Value → H} {W : World} {base : Nat} {spare : Nat → Bool} {held : Bool}
set_option maxRecDepth 100000 in
theorem bulk_acts {r : Reach} {b0 : Nat} {a : Option Addr} {c n : Nat} {d : DataW H} {p : List MemPlace} (_hv : Value.okWide Try.prog W r b0 70 (.slice a n c)) (h : DataW.Trod enc Try.prog W base spare held 70 (.slice a n c) d p) : n ≤ Rows.uptoBulk d := by
  obtain ⟨fuel, hf⟩ := h
  rcases Deep.open_slice Try.underlying70 hf with ⟨hcs, _⟩ | ⟨a, len, cap, m, fu, D, Pl, hcs, _, hl, _, hm, hx, hi⟩
  · simp [Value.cells] at hcs
    obtain ⟨rfl, rfl, rfl⟩ := hcs
    exact Nat.zero_le _
  · simp [Value.cells] at hcs
    obtain ⟨rfl, rfl, rfl⟩ := hcs
    rw [Prod.mk.injEq] at hx
    rw [hx.1]
    have h1 := bulk_length ((List.range n).map D)
    rw [List.length_map, List.length_range] at h1
    simp only [Rows.uptoBulk]
    omega
end
theorem keepsLaw (a : Int) (wa : (Lit.int .u8 a).wf = true) (aa : Option Addr) (ac : Nat) (M : List Ac) {w0 : World} (hM : AcS w0 (.slice aa M.length ac) M) (hMs : ∀ q ∈ M, q.l.length ≤ 140737488351232) (hMl : M.length ≤ 1048576) (w : World) (hw : w0 = w := by rfl) :
    Calls Try.prog 14 #[.int .u8 a, .slice aa M.length ac] w fun e w' => e = .returned (.bool true) ∧ Below w.heap.size w w' := by
  subst hw
  have hs : 0 ≤ a ∧ a < 256 := by
    have h1 : IntKind.u8.min = 0 := by decide
    have h2 : IntKind.u8.max = 255 := by decide
    simp only [Lit.wf, Bool.and_eq_true, decide_eq_true_eq, h1, h2] at wa; omega
  obtain ⟨n, rfl⟩ : ∃ n : Nat, a = n := ⟨a.toNat, by omega⟩
  exact keepsWalk n (by omega) aa ac M w0 hM hMl hMs
end Go.Proofs.Ytkpfkknldeafkaa
