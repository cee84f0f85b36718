/- What the claim needs of: WalLs, WalUq. No conditions. -/
import Derived.Test.YtkpfkknldeafkaaZp5
import Derived.Test.YtkpfkknldeafkaaRows
import Derived.WalkKit
import Derived.WalkSpells
import Derived.WalkLawsBesides
import Derived.Lib.SlBytesRow
import Derived.Lib.Hide
import Derived.Laws.Bits64
import Derived.Laws.CopyOwn
import Derived.Lib.BufferWrite
import Derived.Deep.RegionLaw
import Derived.Deep.DeepCutAuto
import Derived.ChangeAlike
import Derived.RegionTactic
import Derived.Deep.RegionHeld3
import Derived.Laws.ResultCell
import Derived.RangeFuncNested
import Derived.RangeFuncBound
import Derived.RangeFuncCalls
import Derived.RangeFuncLeaves
import Derived.Shelf.Abstract
import Derived.Shelf.RegionOpen
import Derived.OwnWalkIn
import Derived.TacticsInMore
import Derived.LoopNIn
import Derived.LoopIn
import Derived.Laws.AppendOwnNone
import Derived.Deep.DeepAppendWide
import Derived.Laws.OwnMore
import Derived.Deep.AppendLies
import Derived.Outline
import Derived.Shelf.Bits.Mul64
import Derived.OrdersIn
import Derived.TacticsIn
import Derived.Deep.QuietTactic
import Derived.BigQuiet
import Derived.Deep.Cut
import Derived.Deep.CutRange
import Derived.ProofKit
import Derived.OpenShut
import Derived.Lib.SmallJoins
import Derived.SliceStrings
import Derived.Deep.Slices
import Derived.SizedLaws
import Derived.ArgAppend
import Derived.Lib.AppendStr
import Derived.Tactics
import Derived.Tactics2
import Derived.Defers
import Derived.Recover
import Derived.Laws.Pointers
namespace Go.Proofs.Ytkpfkknldeafkaa
open Go.RowKit

theorem rd_open2 {n : Nat} {d : Dk} {x : Sp} {c : Ct} (h : Rd n d x c) (hf : d.fuse = 0) (hg : x.g < 1099511627776) :
    ∃ d2 j2, openW d = ⟨d2, j2, c.image, c.recs, 0⟩ ∧ j2.r = (c.recs.length : Int) ∧ j2.x.p = c.pos ∧ d2.S.length ≤ 1024 ∧ d2.P.length ≤ 0 := by
  obtain ⟨n1, n2⟩ := qt_len h.q
  obtain ⟨d2, e, q1, q2⟩ := store_out h.q (next_spB h.v hg)
  have he : e = 0 := by
    rcases wr_zero q2 with he | he
    · exact he
    · exact absurd hf (died_len h.q (by simp) q2 he).2.1
  obtain ⟨w1, _, _⟩ := wr_put h.q (by simp only [List.length_cons, List.length_nil]; omega) q2 he
  have ho := open_rd h hg q1
  rw [if_pos he] at ho
  exact ⟨d2, _, ho, rfl, h.p.symm, by rw [w1.s]; exact n2, by rw [w1.p]; exact Nat.le_refl _⟩
/-- the disk between the acts: alive, with the journal's contents, or dead -/
def St (m k : Nat) (d : Dk) (j : Jn) (c c2 : Ct) : Prop :=
  d.P.length ≤ 4096 ∧ 2 ≤ d.S.length ∧ d.S.length ≤ 1024 ∧ c.recs.length ≤ 2048 ∧ c2.recs.length ≤ 2048 ∧
    ((Inv m d j c ∧ c2 = c ∧ j.x.g ≤ 1 + (k : Int)) ∨ (d.dead = true ∧ ∀ kb tear, Lst m (crashD d kb tear) (1 + (k : Int)) c c2))
theorem St.alive {m k : Nat} {d : Dk} {j : Jn} {c : Ct} (h : Inv m d j c) (hg : j.x.g ≤ 1 + (k : Int)) : St m k d j c c := by
  obtain ⟨h1, h2, h3⟩ := inv_lens h
  obtain ⟨n1, n2⟩ := qt_len h.q
  have hs := h.q.s
  exact ⟨by omega, by omega, by omega, by omega, by omega, .inl ⟨h, rfl, hg⟩⟩
theorem St.died {m k : Nat} {d d2 : Dk} {j : Jn} {c c2 : Ct} {top : Int} (h : Died m d d2 top c c2) (hm : 16 ≤ m) (hm2 : m ≤ 1024) (hc : c.recs.length ≤ 2048) (hc2 : c2.recs.length ≤ 2048) (ht : top ≤ 1 + (k : Int)) : St m k d2 j c c2 := by
  obtain ⟨_, h2, h3, h4, h5⟩ := h
  refine ⟨by omega, by omega, by omega, hc, hc2, .inr ⟨h2, fun kb tear => ?_⟩⟩
  obtain ⟨q1, x, q2, q3⟩ := h5 kb tear
  exact ⟨q1, x, by omega, q3⟩
theorem St.left {m k : Nat} {d : Dk} {j : Jn} {c c2 : Ct} (h : St m k d j c c2) (kb : List Bool) (tear : Int) : Lst m (crashD d kb tear) (1 + (k : Int)) c c2 := by
  obtain ⟨_, _, _, _, _, ⟨h1, h2, h3⟩ | ⟨_, h2⟩⟩ := h
  · obtain ⟨q1, x, q2, q3⟩ := h1.crash c2 kb tear
    exact ⟨q1, x, by omega, q3⟩
  · exact h2 kb tear
theorem aft_len (c : Ct) (a : Ac) : (aft c a.k a.l a.p).recs.length ≤ c.recs.length + 1 := by
  unfold aft
  split
  · unfold Ct.add; simp
  · split
    · simp
    · omega
/-- what an opening behind the crash finds -/
theorem left_open {m k : Nat} {d : Dk} {c c2 : Ct} (h : Lst m d (1 + (k : Int)) c c2) (hk : k ≤ 1048576) :
    ∃ cc d2 j2, (cc = c ∨ cc = c2) ∧ openW d = ⟨d2, j2, cc.image, cc.recs, 0⟩ ∧ hasC cc cc.image j2 cc.recs = true ∧ d2.S.length ≤ 1024 ∧ d2.P.length ≤ 0 ∧ d.S.length ≤ 1024 ∧ d.P.length ≤ 0 := by
  obtain ⟨q1, x, q2, q3⟩ := h
  rcases q3 with q3 | q3
  · obtain ⟨d2, j2, r1, r2, r3, r4, r5⟩ := rd_open2 q3 q1 (by omega)
    obtain ⟨n1, n2⟩ := qt_len q3.q
    exact ⟨c, d2, j2, .inl rfl, r1, (hasC_iff _ _ _ _).2 ⟨rfl, r3.symm, rfl, r2⟩, r4, r5, by rw [q3.q.s]; exact n2, by rw [q3.q.p]; exact Nat.le_refl _⟩
  · obtain ⟨d2, j2, r1, r2, r3, r4, r5⟩ := rd_open2 q3 q1 (by omega)
    obtain ⟨n1, n2⟩ := qt_len q3.q
    exact ⟨c2, d2, j2, .inr rfl, r1, (hasC_iff _ _ _ _).2 ⟨rfl, r3.symm, rfl, r2⟩, r4, r5, by rw [q3.q.s]; exact n2, by rw [q3.q.p]; exact Nat.le_refl _⟩

set_option maxRecDepth 100000 in
set_option maxHeartbeats 64000000 in
theorem survivesWalk (n : Nat) (hn : n < 256) (aa : Option Addr) (ac : Nat) (M : List Ac) (fu : Int) (ka : Option Addr) (kc : Nat) (kb : List Bool) (te : Int) (w : World) (hM : AcS w (.slice aa M.length ac) M) (hMl : M.length ≤ 1048576) (hMs : ∀ q ∈ M, q.l.length ≤ 140737488351232) (hK : BoS w.heap.size w (.slice ka kb.length kc) kb) :
    Calls Try.prog 15 #[.int .u8 (n : Int), .slice aa M.length ac, .agg #[.int .i64 fu, .slice ka kb.length kc, .int .i64 te]] w fun e w' => e = .returned (.bool true) ∧ Below w.heap.size w w' := by
  obtain ⟨m, hm⟩ : ∃ m : Nat, 18 + (n : Int) % 24 = m := ⟨18 + n % 24, by omega⟩
  have hmb : 18 ≤ m ∧ m ≤ 41 := by omega
  obtain ⟨hm1, hm2⟩ := hmb
  obtain ⟨d0, hd0, hq0, hf0, hz0⟩ := new_valid m (by omega) (by omega)
  obtain ⟨d1, ho1, hi1, hf1⟩ := start_out m (by omega) (by omega) hd0
  have hs0 : d0.S.length ≤ 64 := by rw [hq0.s]; omega
  have hp0 : d0.P.length ≤ 0 := by rw [hq0.p]; exact Nat.le_refl _
  obtain ⟨hs1, hp1, _⟩ := inv_lens hi1
  obtain ⟨j1, hj1⟩ : ∃ j, j = (⟨sp1, 0, 0⟩ : Jn) := ⟨_, rfl⟩
  have hg1 : j1.x.g ≤ 1 := by rw [hj1]; exact Int.le_refl _
  have hh1 : hasC ⟨[], 0, []⟩ [] j1 [] = true := by rw [hj1]; decide
  rw [← hj1] at ho1 hi1
  obtain ⟨c0, hc0⟩ : ∃ c, c = (⟨[], 0, []⟩ : Ct) := ⟨_, rfl⟩
  rw [← hc0] at hi1 hh1
  have E1 := Lib.hid (show newS (18 + (n : Int) % 24) = (d0, 0) by rw [hm]; exact hd0)
  have HO1 := Lib.hid ho1; have HI1 := Lib.hid hi1; have HG1 := Lib.hid hg1; have HM := Lib.hid hM; have HMM := Lib.hid hm; have HH1 := Lib.hid hh1; have HC0 := Lib.hid hc0; have HKB := Lib.hid hK; clear hd0 hf0 hz0 ho1 hi1 hj1 hg1 hM hm hq0 hf1 hh1 hc0 hK
  have hb0 := ((Below.refl w.heap.size w).alloc (Nat.le_refl _) (.cells #[.int .i64 fu, .slice ka kb.length kc, .int .i64 te] 79))
  have h_HK := (Bx.new w #[.int .i64 fu, .slice ka kb.length kc, .int .i64 te] 79)
  have HB := Lib.hid hb0; have HK := Lib.hid h_HK
  clear hb0 h_HK
  go_enter Try.func15, Try.ntmps15
  go_upto_region 1 with (fail)
  generalize hW0 : w.alloc (.cells #[.int .i64 fu, .slice ka kb.length kc, .int .i64 te] 79) = v0 at HB HK ⊢
  clear hW0
  go_wp2_with fail
  refine (New_any (18 + (n : Int) % 24) _).mono ?_
  rw [E1.out]
  rintro er w1 ⟨a1, c1, a2, c2, rfl, hO1, hb1⟩
  have HLD := Lib.hid (hO1.lists (d := d0) (by omega) (by omega)); have HK := Lib.hid (HK.out.call hb1); have HB := Lib.hid (btrans HB.out HB.out.size hb1); have zw1 := HK.out.lt; clear hO1 hb1
  have hal := (Below.refl w1.heap.size w1).alloc (Nat.le_refl _) (.cells #[.slice a1 d0.S.length c1, .slice a2 d0.P.length c2, .int .i64 d0.fuse, .int .i64 d0.ops, .bool d0.dead] 38)
  have HD := Lib.hid (Bx.new w1 #[.slice a1 d0.S.length c1, .slice a2 d0.P.length c2, .int .i64 d0.fuse, .int .i64 d0.ops, .bool d0.dead] 38)
  have HK := Lib.hid (HK.out.call hal)
  have HLD := Lib.hid (HLD.out.below hal)
  have HB := Lib.hid (btrans HB.out HB.out.size hal); clear hal
  go_upto_region 2 with (fail)
  generalize hW : w1.alloc (.cells #[.slice a1 d0.S.length c1, .slice a2 d0.P.length c2, .int .i64 d0.fuse, .int .i64 d0.ops, .bool d0.dead] 38) = v1 at HK HLD HB HD ⊢
  clear hW
  have x0 : v1.cell? ⟨w1.heap.size, 0, none⟩ = some (.slice a1 d0.S.length c1) := HD.out.cell 0
  have x1 : v1.cell? ⟨w1.heap.size, 1, none⟩ = some (.slice a2 d0.P.length c2) := HD.out.cell 1
  have x2 : v1.cell? ⟨w1.heap.size, 2, none⟩ = some (.int .i64 d0.fuse) := HD.out.cell 2
  have x3 : v1.cell? ⟨w1.heap.size, 3, none⟩ = some (.int .i64 d0.ops) := HD.out.cell 3
  have x4 : v1.cell? ⟨w1.heap.size, 4, none⟩ = some (.bool d0.dead) := HD.out.cell 4
  go_wp2_with fail
  refine (openW_use _ _ _ _ d0 d1 j1 [] [] 0 _ HLD.out (by omega) HO1.out (by omega) (by omega)).mono ?_
  simp only [jnV]
  rintro er w2 ⟨a3, c3, a4, c4, a5, c5, rfl, hL, hM5, hb1⟩
  clear x0 x1 x2 x3 x4
  have HD := Lib.hid (HD.out.call hb1); have HK := Lib.hid (HK.out.call hb1); have HB := Lib.hid (btrans HB.out HB.out.size hb1); have HLD := Lib.hid hL; have HM5 := Lib.hid (fun W => strs_nil hM5 W); clear hb1 hL hM5
  have zd2 := HD.out.lt
  have hac : ∀ (W : World) (o : Obj) (i : Nat), w1.heap.size < W.heap.size → (W.alloc o).cell? ⟨w1.heap.size, i, none⟩ = W.cell? ⟨w1.heap.size, i, none⟩ := fun W o i h => World.cell?_of_block (w := W) (a := ⟨w1.heap.size, i, none⟩) (Below.heap_alloc W o _ h)
  have haf : ∀ (W : World) (o : Obj) (i : Nat), w1.heap.size < W.heap.size → (W.alloc o).frozen? ⟨w1.heap.size, i, none⟩ = W.frozen? ⟨w1.heap.size, i, none⟩ := fun W o i h => frozen_past o i 0 h
  have r0 : w2.cell? ⟨w1.heap.size, 0, none⟩ = some (.slice a1 d0.S.length c1) := HD.out.cell 0
  have r1 : w2.cell? ⟨w1.heap.size, 1, none⟩ = some (.slice a2 d0.P.length c2) := HD.out.cell 1
  have r2 : w2.cell? ⟨w1.heap.size, 2, none⟩ = some (.int .i64 d0.fuse) := HD.out.cell 2
  have r3 : w2.cell? ⟨w1.heap.size, 3, none⟩ = some (.int .i64 d0.ops) := HD.out.cell 3
  have r4 : w2.cell? ⟨w1.heap.size, 4, none⟩ = some (.bool d0.dead) := HD.out.cell 4
  have f0 : w2.frozen? ⟨w1.heap.size, 0, none⟩ = false := HD.out.free 0
  have f1 : w2.frozen? ⟨w1.heap.size, 1, none⟩ = false := HD.out.free 1
  have f2 : w2.frozen? ⟨w1.heap.size, 2, none⟩ = false := HD.out.free 2
  have f3 : w2.frozen? ⟨w1.heap.size, 3, none⟩ = false := HD.out.free 3
  have f4 : w2.frozen? ⟨w1.heap.size, 4, none⟩ = false := HD.out.free 4
  go_upto_region 3 with (fail)
  clear hac haf
  clear r0 r1 r2 r3 r4
  clear f0 f1 f2 f3 f4
  have hsz : (((((w2.setCell ⟨w1.heap.size, 0, none⟩ (.slice a3 d1.S.length c3)).setCell ⟨w1.heap.size, 1, none⟩ (.slice a4 d1.P.length c4)).setCell ⟨w1.heap.size, 2, none⟩ (.int .i64 d1.fuse)).setCell ⟨w1.heap.size, 3, none⟩ (.int .i64 d1.ops)).setCell ⟨w1.heap.size, 4, none⟩ (.bool d1.dead)).heap.size = w2.heap.size := by simp
  have hJ := Bx.new (((((w2.setCell ⟨w1.heap.size, 0, none⟩ (.slice a3 d1.S.length c3)).setCell ⟨w1.heap.size, 1, none⟩ (.slice a4 d1.P.length c4)).setCell ⟨w1.heap.size, 2, none⟩ (.int .i64 d1.fuse)).setCell ⟨w1.heap.size, 3, none⟩ (.int .i64 d1.ops)).setCell ⟨w1.heap.size, 4, none⟩ (.bool d1.dead)) #[.int .i64 j1.x.g, .int .i64 j1.x.e, .int .i64 j1.x.a, .int .i64 j1.x.z, .int .i64 j1.x.p, .int .i64 j1.n, .int .i64 j1.r] 57
  rw [hsz] at hJ
  have hal := (Below.refl (((((w2.setCell ⟨w1.heap.size, 0, none⟩ (.slice a3 d1.S.length c3)).setCell ⟨w1.heap.size, 1, none⟩ (.slice a4 d1.P.length c4)).setCell ⟨w1.heap.size, 2, none⟩ (.int .i64 d1.fuse)).setCell ⟨w1.heap.size, 3, none⟩ (.int .i64 d1.ops)).setCell ⟨w1.heap.size, 4, none⟩ (.bool d1.dead)).heap.size (((((w2.setCell ⟨w1.heap.size, 0, none⟩ (.slice a3 d1.S.length c3)).setCell ⟨w1.heap.size, 1, none⟩ (.slice a4 d1.P.length c4)).setCell ⟨w1.heap.size, 2, none⟩ (.int .i64 d1.fuse)).setCell ⟨w1.heap.size, 3, none⟩ (.int .i64 d1.ops)).setCell ⟨w1.heap.size, 4, none⟩ (.bool d1.dead))).alloc (Nat.le_refl _) (.cells #[.int .i64 j1.x.g, .int .i64 j1.x.e, .int .i64 j1.x.a, .int .i64 j1.x.z, .int .i64 j1.x.p, .int .i64 j1.n, .int .i64 j1.r] 57)
  have HLD := Lib.hid ((HLD.out.sets_box HD.out (.slice a3 d1.S.length c3) (.slice a4 d1.P.length c4) (.int .i64 d1.fuse) (.int .i64 d1.ops) (.bool d1.dead)).below hal); have HB := Lib.hid ((below_sets HB.out w1.heap.size (by omega) (.slice a3 d1.S.length c3) (.slice a4 d1.P.length c4) (.int .i64 d1.fuse) (.int .i64 d1.ops) (.bool d1.dead)).alloc (by rw [hsz]; omega) (.cells #[.int .i64 j1.x.g, .int .i64 j1.x.e, .int .i64 j1.x.a, .int .i64 j1.x.z, .int .i64 j1.x.p, .int .i64 j1.n, .int .i64 j1.r] 57))
  have HK := Lib.hid ((HK.out.sets_ne (c := w1.heap.size) (by omega) (.slice a3 d1.S.length c3) (.slice a4 d1.P.length c4) (.int .i64 d1.fuse) (.int .i64 d1.ops) (.bool d1.dead)).call hal)
  have HD := Lib.hid ((HD.out.sets (.slice a3 d1.S.length c3) (.slice a4 d1.P.length c4) (.int .i64 d1.fuse) (.int .i64 d1.ops) (.bool d1.dead)).call hal); have HJ := Lib.hid hJ; clear hJ hal hsz
  generalize hW : (((((w2.setCell ⟨w1.heap.size, 0, none⟩ (.slice a3 d1.S.length c3)).setCell ⟨w1.heap.size, 1, none⟩ (.slice a4 d1.P.length c4)).setCell ⟨w1.heap.size, 2, none⟩ (.int .i64 d1.fuse)).setCell ⟨w1.heap.size, 3, none⟩ (.int .i64 d1.ops)).setCell ⟨w1.heap.size, 4, none⟩ (.bool d1.dead)).alloc (.cells #[.int .i64 j1.x.g, .int .i64 j1.x.e, .int .i64 j1.x.a, .int .i64 j1.x.z, .int .i64 j1.x.p, .int .i64 j1.n, .int .i64 j1.r] 57) = v3 at HD HLD HB HJ HK ⊢
  clear hW
  have zHJ := HJ.out.lt
  have hal := (Below.refl v3.heap.size v3).alloc (Nat.le_refl _) (.cells #[.string ⟨#[]⟩, .int .i64 0, .slice none 0 0] 74)
  have HC := Lib.hid (Bx.new v3 #[.string ⟨#[]⟩, .int .i64 0, .slice none 0 0] 74)
  have HD := Lib.hid (HD.out.call hal)
  have HJ := Lib.hid (HJ.out.call hal)
  have HK := Lib.hid (HK.out.call hal)
  have HLD := Lib.hid (HLD.out.below hal)
  have HB := Lib.hid (btrans HB.out HB.out.size hal); clear hal
  go_upto_region 4 with (fail)
  generalize hW : v3.alloc (.cells #[.string ⟨#[]⟩, .int .i64 0, .slice none 0 0] 74) = v4 at HD HJ HK HLD HB HC ⊢
  clear hW
  have HC := Lib.hid (show Bx v3.heap.size #[.string (bs c0.image), .int .i64 c0.pos, .slice none c0.recs.length 0] 74 v4 by rw [HC0.out]; exact HC.out)
  have HS0 := Lib.hid (show StrS v4 (.slice none c0.recs.length 0) c0.recs by rw [HC0.out]; exact ⟨none, 0, rfl, Nat.le_refl _, fun hne => absurd rfl hne⟩)
  have hcl0 : c0.recs.length ≤ 0 := by rw [HC0.out]; exact Nat.le_refl _
  have x0 : v4.cell? ⟨v3.heap.size, 0, none⟩ = some (.string (bs c0.image)) := HC.out.cell 0
  have x1 : v4.cell? ⟨v3.heap.size, 1, none⟩ = some (.int .i64 c0.pos) := HC.out.cell 1
  have x2 : v4.cell? ⟨v3.heap.size, 2, none⟩ = some (.slice none c0.recs.length 0) := HC.out.cell 2
  have y0 : v4.cell? ⟨w2.heap.size, 0, none⟩ = some (.int .i64 j1.x.g) := HJ.out.cell 0
  have y1 : v4.cell? ⟨w2.heap.size, 1, none⟩ = some (.int .i64 j1.x.e) := HJ.out.cell 1
  have y2 : v4.cell? ⟨w2.heap.size, 2, none⟩ = some (.int .i64 j1.x.a) := HJ.out.cell 2
  have y3 : v4.cell? ⟨w2.heap.size, 3, none⟩ = some (.int .i64 j1.x.z) := HJ.out.cell 3
  have y4 : v4.cell? ⟨w2.heap.size, 4, none⟩ = some (.int .i64 j1.x.p) := HJ.out.cell 4
  have y5 : v4.cell? ⟨w2.heap.size, 5, none⟩ = some (.int .i64 j1.n) := HJ.out.cell 5
  have y6 : v4.cell? ⟨w2.heap.size, 6, none⟩ = some (.int .i64 j1.r) := HJ.out.cell 6
  go_wp2_with fail
  refine (hasC_any none a5 0 c5 c0 [] j1 [] _ HS0.out (HM5.out _) (by omega) (by simp)).mono ?_
  rw [HH1.out]
  rintro er w4 ⟨rfl, hb1⟩
  clear x0 x1 x2
  clear y0 y1 y2 y3 y4 y5 y6
  have HD := Lib.hid (HD.out.call hb1)
  have HJ := Lib.hid (HJ.out.call hb1)
  have HC := Lib.hid (HC.out.call hb1)
  have HK := Lib.hid (HK.out.call hb1)
  have HLD := Lib.hid (HLD.out.below hb1)
  have HS0 := Lib.hid (HS0.out.below hb1)
  have HB := Lib.hid (btrans HB.out HB.out.size hb1); clear hb1
  obtain ⟨df, hdf⟩ : ∃ q, fuseS d1 fu = q := ⟨_, rfl⟩
  have hif := inv_fuse HI1.out fu
  rw [hdf] at hif
  obtain ⟨hsf, hpf, _⟩ := inv_lens hif
  have HIF := Lib.hid hif; have HDF := Lib.hid hdf; clear hif hdf
  have x0 : w4.cell? ⟨w1.heap.size, 0, none⟩ = some (.slice a3 d1.S.length c3) := HD.out.cell 0
  have x1 : w4.cell? ⟨w1.heap.size, 1, none⟩ = some (.slice a4 d1.P.length c4) := HD.out.cell 1
  have x2 : w4.cell? ⟨w1.heap.size, 2, none⟩ = some (.int .i64 d1.fuse) := HD.out.cell 2
  have x3 : w4.cell? ⟨w1.heap.size, 3, none⟩ = some (.int .i64 d1.ops) := HD.out.cell 3
  have x4 : w4.cell? ⟨w1.heap.size, 4, none⟩ = some (.bool d1.dead) := HD.out.cell 4
  have k0 : w4.cell? ⟨w.heap.size, 0, none⟩ = some (.int .i64 fu) := HK.out.cell 0
  go_wp2_with fail
  refine (Fuse_any _ _ _ _ d1 fu _ HLD.out).mono ?_
  rw [HDF.out]
  rintro er w5 ⟨a6, c6, a7, c7, rfl, hOF, hb1⟩
  clear x0 x1 x2 x3 x4
  clear k0
  have HLD := Lib.hid (hOF.lists (d := df) (by omega) (by omega)); clear hOF
  have HD := Lib.hid (HD.out.call hb1)
  have HJ := Lib.hid (HJ.out.call hb1)
  have HC := Lib.hid (HC.out.call hb1)
  have HK := Lib.hid (HK.out.call hb1)
  have HS0 := Lib.hid (HS0.out.below hb1)
  have HB := Lib.hid (btrans HB.out HB.out.size hb1); clear hb1
  have r0 : w5.cell? ⟨w1.heap.size, 0, none⟩ = some (.slice a3 d1.S.length c3) := HD.out.cell 0
  have r1 : w5.cell? ⟨w1.heap.size, 1, none⟩ = some (.slice a4 d1.P.length c4) := HD.out.cell 1
  have r2 : w5.cell? ⟨w1.heap.size, 2, none⟩ = some (.int .i64 d1.fuse) := HD.out.cell 2
  have r3 : w5.cell? ⟨w1.heap.size, 3, none⟩ = some (.int .i64 d1.ops) := HD.out.cell 3
  have r4 : w5.cell? ⟨w1.heap.size, 4, none⟩ = some (.bool d1.dead) := HD.out.cell 4
  have f0 := HD.out.free 0
  have f1 := HD.out.free 1
  have f2 := HD.out.free 2
  have f3 := HD.out.free 3
  have f4 := HD.out.free 4
  go_upto_region 7 with (fail)
  clear r0 r1 r2 r3 r4
  clear f0 f1 f2 f3 f4
  have HS0 := Lib.hid (HS0.out.kp ((KpB.refl w1.heap.size w5).sets (.slice a6 df.S.length c6) (.slice a7 df.P.length c7) (.int .i64 df.fuse) (.int .i64 df.ops) (.bool df.dead)) (none_disk HD.out))
  have HLD := Lib.hid (HLD.out.sets_box HD.out (.slice a6 df.S.length c6) (.slice a7 df.P.length c7) (.int .i64 df.fuse) (.int .i64 df.ops) (.bool df.dead))
  have HJ := Lib.hid (HJ.out.sets_ne (c := w1.heap.size) (by omega) (.slice a6 df.S.length c6) (.slice a7 df.P.length c7) (.int .i64 df.fuse) (.int .i64 df.ops) (.bool df.dead))
  have HC := Lib.hid (HC.out.sets_ne (c := w1.heap.size) (by omega) (.slice a6 df.S.length c6) (.slice a7 df.P.length c7) (.int .i64 df.fuse) (.int .i64 df.ops) (.bool df.dead))
  have HK := Lib.hid (HK.out.sets_ne (c := w1.heap.size) (by omega) (.slice a6 df.S.length c6) (.slice a7 df.P.length c7) (.int .i64 df.fuse) (.int .i64 df.ops) (.bool df.dead))
  have HD := Lib.hid (HD.out.sets (.slice a6 df.S.length c6) (.slice a7 df.P.length c7) (.int .i64 df.fuse) (.int .i64 df.ops) (.bool df.dead)); have HB := Lib.hid (below_sets HB.out w1.heap.size (by omega) (.slice a6 df.S.length c6) (.slice a7 df.P.length c7) (.int .i64 df.fuse) (.int .i64 df.ops) (.bool df.dead))
  generalize hW : (((((w5.setCell ⟨w1.heap.size, 0, none⟩ (.slice a6 df.S.length c6)).setCell ⟨w1.heap.size, 1, none⟩ (.slice a7 df.P.length c7)).setCell ⟨w1.heap.size, 2, none⟩ (.int .i64 df.fuse)).setCell ⟨w1.heap.size, 3, none⟩ (.int .i64 df.ops)).setCell ⟨w1.heap.size, 4, none⟩ (.bool df.dead)) = v5 at HS0 HLD HJ HC HK HD HB ⊢
  clear hW
  have x0 : v5.cell? ⟨v3.heap.size, 0, none⟩ = some (.string (bs c0.image)) := HC.out.cell 0
  have x1 : v5.cell? ⟨v3.heap.size, 1, none⟩ = some (.int .i64 c0.pos) := HC.out.cell 1
  have x2 : v5.cell? ⟨v3.heap.size, 2, none⟩ = some (.slice none c0.recs.length 0) := HC.out.cell 2
  have zc5 := HC.out.lt
  have hal := (Below.refl v5.heap.size v5).alloc (Nat.le_refl _) (.cells #[.string (bs c0.image), .int .i64 c0.pos, .slice none c0.recs.length 0] 74)
  have HX := Lib.hid (Bx.new v5 #[.string (bs c0.image), .int .i64 c0.pos, .slice none c0.recs.length 0] 74)
  have HD := Lib.hid (HD.out.call hal)
  have HJ := Lib.hid (HJ.out.call hal)
  have HC := Lib.hid (HC.out.call hal)
  have HK := Lib.hid (HK.out.call hal)
  have HLD := Lib.hid (HLD.out.below hal)
  have HS0 := Lib.hid (HS0.out.below hal)
  have HB := Lib.hid (btrans HB.out HB.out.size hal); clear hal
  go_upto_region 8 with (fail)
  generalize hW : v5.alloc (.cells #[.string (bs c0.image), .int .i64 c0.pos, .slice none c0.recs.length 0] 74) = v6 at HD HJ HC HK HLD HS0 HB HX ⊢
  clear hW
  clear x0 x1 x2
  go_wp2
  go_loopw [15] (fun i wr => ∃ (k : Nat) (d : Dk) (j : Jn) (c c2 : Ct) (sa : Option Addr) (sc : Nat) (pa : Option Addr) (pc : Nat) (va : Option Addr) (vc : Nat) (vb : Option Addr) (ve : Nat), k ≤ M.length ∧ i = .int .i64 k ∧ St m k d j c c2 ∧ Bx w1.heap.size #[.slice sa d.S.length sc, .slice pa d.P.length pc, .int .i64 d.fuse, .int .i64 d.ops, .bool d.dead] 38 wr ∧ Bx w2.heap.size #[.int .i64 j.x.g, .int .i64 j.x.e, .int .i64 j.x.a, .int .i64 j.x.z, .int .i64 j.x.p, .int .i64 j.n, .int .i64 j.r] 57 wr ∧ Bx v3.heap.size #[.string (bs c.image), .int .i64 c.pos, .slice va c.recs.length vc] 74 wr ∧ Bx v5.heap.size #[.string (bs c2.image), .int .i64 c2.pos, .slice vb c2.recs.length ve] 74 wr ∧ Bx w.heap.size #[.int .i64 fu, .slice ka kb.length kc, .int .i64 te] 79 wr ∧ Lists wr sa sc pa pc d ∧ StrS wr (.slice va c.recs.length vc) c.recs ∧ StrS wr (.slice vb c2.recs.length ve) c2.recs ∧ Off v3.heap.size va ∧ Off v5.heap.size va ∧ Off v3.heap.size vb ∧ Off v5.heap.size vb ∧ Below w.heap.size w wr) (fun i _ => M.length - (intOf i).toNat)
  case atStart => exact ⟨0, df, j1, c0, c0, a6, c6, a7, c7, none, 0, none, 0, Nat.zero_le _, rfl, St.alive HIF.out (by have := HG1.out; omega), HD.out, HJ.out, HC.out, HX.out, HK.out, HLD.out, HS0.out, HS0.out, (fun q hq => by cases hq), (fun q hq => by cases hq), (fun q hq => by cases hq), (fun q hq => by cases hq), HB.out⟩
  case round =>
    obtain ⟨k, d, j, c, c2, sa, sc, pa, pc, va, vc, vb, ve, hk, rfl, hst, hXD, hXJ, hXC, hXX, hXK, hLD, hLC, hLX, of1, of2, of3, of4, hbr⟩ := hrel
    clear HD HJ HC HX HK HLD HS0 HB hcl0
    have HD := Lib.hid hXD; have HJ := Lib.hid hXJ; have HC := Lib.hid hXC; have HX := Lib.hid hXX; have HK := Lib.hid hXK; have HLD := Lib.hid hLD; have HLC := Lib.hid hLC; have HLX := Lib.hid hLX; have HB := Lib.hid hbr; have HST := Lib.hid hst; have OF1 := Lib.hid of1; have OF2 := Lib.hid of2; have OF3 := Lib.hid of3; have OF4 := Lib.hid of4; clear hXD hXJ hXC hXX hXK hLD hLC hLX hbr hst of1 of2 of3 of4
    obtain ⟨hpl, hqs, hsl, hrl, hrl2, _⟩ := HST.out
    have zcr := HX.out.lt
    by_cases hlt : k < M.length
    rotate_left
    · have hlt' : ¬ (k : Int) < (M.length : Int) := by omega
      obtain ⟨cc, d9, j9, hcc, ho9, hh9, hs9, hp9, hs8, hp8⟩ := left_open (HST.out.left kb te) (by omega)
      obtain ⟨cr, hcr⟩ : ∃ q, crashD d kb te = q := ⟨_, rfl⟩
      rw [hcr] at ho9 hs8 hp8
      have HO9 := Lib.hid ho9; have HH9 := Lib.hid hh9; have HCR := Lib.hid hcr; have HCC := Lib.hid hcc; clear ho9 hh9 hcr hcc
      have hlc : cc.recs.length ≤ 2048 := by rcases HCC.out with h | h <;> rw [h] <;> assumption
      have x0 : wr.cell? ⟨w1.heap.size, 0, none⟩ = some (.slice sa d.S.length sc) := HD.out.cell 0
      have x1 : wr.cell? ⟨w1.heap.size, 1, none⟩ = some (.slice pa d.P.length pc) := HD.out.cell 1
      have x2 : wr.cell? ⟨w1.heap.size, 2, none⟩ = some (.int .i64 d.fuse) := HD.out.cell 2
      have x3 : wr.cell? ⟨w1.heap.size, 3, none⟩ = some (.int .i64 d.ops) := HD.out.cell 3
      have x4 : wr.cell? ⟨w1.heap.size, 4, none⟩ = some (.bool d.dead) := HD.out.cell 4
      have k1 : wr.cell? ⟨w.heap.size, 1, none⟩ = some (.slice ka kb.length kc) := HK.out.cell 1
      have k2 : wr.cell? ⟨w.heap.size, 2, none⟩ = some (.int .i64 te) := HK.out.cell 2
      go_wp2_with fail
      refine (Crash_any _ _ _ _ _ _ d kb te _ HLD.out ((HKB.out.below HB.out).mono HB.out.size)).mono ?_
      rw [HCR.out]
      rintro er w3 ⟨a6, c6, a7, c7, rfl, hOC, hb1⟩
      clear x0 x1 x2 x3 x4
      clear k1 k2
      have HLR := Lib.hid (hOC.lists (d := cr) (by omega) (by omega)); clear hOC
      have HD := Lib.hid (HD.out.call hb1)
      have HJ := Lib.hid (HJ.out.call hb1)
      have HC := Lib.hid (HC.out.call hb1)
      have HX := Lib.hid (HX.out.call hb1)
      have HLC := Lib.hid (HLC.out.below hb1)
      have HLX := Lib.hid (HLX.out.below hb1)
      have HB := Lib.hid (btrans HB.out HB.out.size hb1); clear hb1
      have r0 : w3.cell? ⟨w1.heap.size, 0, none⟩ = some (.slice sa d.S.length sc) := HD.out.cell 0
      have r1 : w3.cell? ⟨w1.heap.size, 1, none⟩ = some (.slice pa d.P.length pc) := HD.out.cell 1
      have r2 : w3.cell? ⟨w1.heap.size, 2, none⟩ = some (.int .i64 d.fuse) := HD.out.cell 2
      have r3 : w3.cell? ⟨w1.heap.size, 3, none⟩ = some (.int .i64 d.ops) := HD.out.cell 3
      have r4 : w3.cell? ⟨w1.heap.size, 4, none⟩ = some (.bool d.dead) := HD.out.cell 4
      have f0 := HD.out.free 0
      have f1 := HD.out.free 1
      have f2 := HD.out.free 2
      have f3 := HD.out.free 3
      have f4 := HD.out.free 4
      go_upto_region 24 with (fail)
      clear r0 r1 r2 r3 r4
      clear f0 f1 f2 f3 f4
      have HLC := Lib.hid (HLC.out.kp ((KpB.refl w1.heap.size w3).sets (.slice a6 cr.S.length c6) (.slice a7 cr.P.length c7) (.int .i64 cr.fuse) (.int .i64 cr.ops) (.bool cr.dead)) (none_disk HD.out))
      have HLX := Lib.hid (HLX.out.kp ((KpB.refl w1.heap.size w3).sets (.slice a6 cr.S.length c6) (.slice a7 cr.P.length c7) (.int .i64 cr.fuse) (.int .i64 cr.ops) (.bool cr.dead)) (none_disk HD.out))
      have HLR := Lib.hid (HLR.out.sets_box HD.out (.slice a6 cr.S.length c6) (.slice a7 cr.P.length c7) (.int .i64 cr.fuse) (.int .i64 cr.ops) (.bool cr.dead))
      have HJ := Lib.hid (HJ.out.sets_ne (c := w1.heap.size) (by omega) (.slice a6 cr.S.length c6) (.slice a7 cr.P.length c7) (.int .i64 cr.fuse) (.int .i64 cr.ops) (.bool cr.dead))
      have HC := Lib.hid (HC.out.sets_ne (c := w1.heap.size) (by omega) (.slice a6 cr.S.length c6) (.slice a7 cr.P.length c7) (.int .i64 cr.fuse) (.int .i64 cr.ops) (.bool cr.dead))
      have HX := Lib.hid (HX.out.sets_ne (c := w1.heap.size) (by omega) (.slice a6 cr.S.length c6) (.slice a7 cr.P.length c7) (.int .i64 cr.fuse) (.int .i64 cr.ops) (.bool cr.dead))
      have HD := Lib.hid (HD.out.sets (.slice a6 cr.S.length c6) (.slice a7 cr.P.length c7) (.int .i64 cr.fuse) (.int .i64 cr.ops) (.bool cr.dead)); have HB := Lib.hid (below_sets HB.out w1.heap.size (by omega) (.slice a6 cr.S.length c6) (.slice a7 cr.P.length c7) (.int .i64 cr.fuse) (.int .i64 cr.ops) (.bool cr.dead))
      generalize hW : (((((w3.setCell ⟨w1.heap.size, 0, none⟩ (.slice a6 cr.S.length c6)).setCell ⟨w1.heap.size, 1, none⟩ (.slice a7 cr.P.length c7)).setCell ⟨w1.heap.size, 2, none⟩ (.int .i64 cr.fuse)).setCell ⟨w1.heap.size, 3, none⟩ (.int .i64 cr.ops)).setCell ⟨w1.heap.size, 4, none⟩ (.bool cr.dead)) = v7 at HLC HLX HLR HJ HC HX HD HB ⊢
      clear hW
      have x0 : v7.cell? ⟨w1.heap.size, 0, none⟩ = some (.slice a6 cr.S.length c6) := HD.out.cell 0
      have x1 : v7.cell? ⟨w1.heap.size, 1, none⟩ = some (.slice a7 cr.P.length c7) := HD.out.cell 1
      have x2 : v7.cell? ⟨w1.heap.size, 2, none⟩ = some (.int .i64 cr.fuse) := HD.out.cell 2
      have x3 : v7.cell? ⟨w1.heap.size, 3, none⟩ = some (.int .i64 cr.ops) := HD.out.cell 3
      have x4 : v7.cell? ⟨w1.heap.size, 4, none⟩ = some (.bool cr.dead) := HD.out.cell 4
      go_wp2_with fail
      refine (openW_use _ _ _ _ cr d9 j9 cc.image cc.recs 0 _ HLR.out (by omega) HO9.out (by omega) (by omega)).mono ?_
      simp only [jnV]
      rintro er w8 ⟨a8, c8, a9, c9, a10, c10, rfl, hL9, hM9, hb1⟩
      clear x0 x1 x2 x3 x4
      have HM9 := Lib.hid hM9; clear hL9 hM9
      have HJ := Lib.hid (HJ.out.call hb1)
      have HC := Lib.hid (HC.out.call hb1)
      have HX := Lib.hid (HX.out.call hb1)
      have HLC := Lib.hid (HLC.out.below hb1)
      have HLX := Lib.hid (HLX.out.below hb1)
      have HB := Lib.hid (btrans HB.out HB.out.size hb1); clear hb1
      have r0 : w8.cell? ⟨w2.heap.size, 0, none⟩ = some (.int .i64 j.x.g) := HJ.out.cell 0
      have r1 : w8.cell? ⟨w2.heap.size, 1, none⟩ = some (.int .i64 j.x.e) := HJ.out.cell 1
      have r2 : w8.cell? ⟨w2.heap.size, 2, none⟩ = some (.int .i64 j.x.a) := HJ.out.cell 2
      have r3 : w8.cell? ⟨w2.heap.size, 3, none⟩ = some (.int .i64 j.x.z) := HJ.out.cell 3
      have r4 : w8.cell? ⟨w2.heap.size, 4, none⟩ = some (.int .i64 j.x.p) := HJ.out.cell 4
      have r5 : w8.cell? ⟨w2.heap.size, 5, none⟩ = some (.int .i64 j.n) := HJ.out.cell 5
      have r6 : w8.cell? ⟨w2.heap.size, 6, none⟩ = some (.int .i64 j.r) := HJ.out.cell 6
      have f0 := HJ.out.free 0
      have f1 := HJ.out.free 1
      have f2 := HJ.out.free 2
      have f3 := HJ.out.free 3
      have f4 := HJ.out.free 4
      have f5 := HJ.out.free 5
      have f6 := HJ.out.free 6
      go_upto_region 25 with (fail)
      clear r0 r1 r2 r3 r4 r5 r6
      clear f0 f1 f2 f3 f4 f5 f6
      have HLC := Lib.hid (HLC.out.kp (KpB.sets7 w2.heap.size w8 (.int .i64 j9.x.g) (.int .i64 j9.x.e) (.int .i64 j9.x.a) (.int .i64 j9.x.z) (.int .i64 j9.x.p) (.int .i64 j9.n) (.int .i64 j9.r)) (none_jn HJ.out))
      have HLX := Lib.hid (HLX.out.kp (KpB.sets7 w2.heap.size w8 (.int .i64 j9.x.g) (.int .i64 j9.x.e) (.int .i64 j9.x.a) (.int .i64 j9.x.z) (.int .i64 j9.x.p) (.int .i64 j9.n) (.int .i64 j9.r)) (none_jn HJ.out))
      have HM9 := Lib.hid (HM9.out.kp (KpB.sets7 w2.heap.size w8 (.int .i64 j9.x.g) (.int .i64 j9.x.e) (.int .i64 j9.x.a) (.int .i64 j9.x.z) (.int .i64 j9.x.p) (.int .i64 j9.n) (.int .i64 j9.r)) (none_jn HJ.out))
      have HC := Lib.hid (HC.out.sets7_ne (c := w2.heap.size) (by omega) (.int .i64 j9.x.g) (.int .i64 j9.x.e) (.int .i64 j9.x.a) (.int .i64 j9.x.z) (.int .i64 j9.x.p) (.int .i64 j9.n) (.int .i64 j9.r))
      have HX := Lib.hid (HX.out.sets7_ne (c := w2.heap.size) (by omega) (.int .i64 j9.x.g) (.int .i64 j9.x.e) (.int .i64 j9.x.a) (.int .i64 j9.x.z) (.int .i64 j9.x.p) (.int .i64 j9.n) (.int .i64 j9.r))
      have HJ := Lib.hid (HJ.out.sets7 (.int .i64 j9.x.g) (.int .i64 j9.x.e) (.int .i64 j9.x.a) (.int .i64 j9.x.z) (.int .i64 j9.x.p) (.int .i64 j9.n) (.int .i64 j9.r)); have HB := Lib.hid (below_sets7 HB.out w2.heap.size (by omega) (.int .i64 j9.x.g) (.int .i64 j9.x.e) (.int .i64 j9.x.a) (.int .i64 j9.x.z) (.int .i64 j9.x.p) (.int .i64 j9.n) (.int .i64 j9.r))
      generalize hW : (((((((w8.setCell ⟨w2.heap.size, 0, none⟩ (.int .i64 j9.x.g)).setCell ⟨w2.heap.size, 1, none⟩ (.int .i64 j9.x.e)).setCell ⟨w2.heap.size, 2, none⟩ (.int .i64 j9.x.a)).setCell ⟨w2.heap.size, 3, none⟩ (.int .i64 j9.x.z)).setCell ⟨w2.heap.size, 4, none⟩ (.int .i64 j9.x.p)).setCell ⟨w2.heap.size, 5, none⟩ (.int .i64 j9.n)).setCell ⟨w2.heap.size, 6, none⟩ (.int .i64 j9.r)) = v8 at HLC HLX HM9 HC HX HJ HB ⊢
      clear hW
      have y0 : v8.cell? ⟨w2.heap.size, 0, none⟩ = some (.int .i64 j9.x.g) := HJ.out.cell 0
      have y1 : v8.cell? ⟨w2.heap.size, 1, none⟩ = some (.int .i64 j9.x.e) := HJ.out.cell 1
      have y2 : v8.cell? ⟨w2.heap.size, 2, none⟩ = some (.int .i64 j9.x.a) := HJ.out.cell 2
      have y3 : v8.cell? ⟨w2.heap.size, 3, none⟩ = some (.int .i64 j9.x.z) := HJ.out.cell 3
      have y4 : v8.cell? ⟨w2.heap.size, 4, none⟩ = some (.int .i64 j9.x.p) := HJ.out.cell 4
      have y5 : v8.cell? ⟨w2.heap.size, 5, none⟩ = some (.int .i64 j9.n) := HJ.out.cell 5
      have y6 : v8.cell? ⟨w2.heap.size, 6, none⟩ = some (.int .i64 j9.r) := HJ.out.cell 6
      have z0 : v8.cell? ⟨v3.heap.size, 0, none⟩ = some (.string (bs c.image)) := HC.out.cell 0
      have z1 : v8.cell? ⟨v3.heap.size, 1, none⟩ = some (.int .i64 c.pos) := HC.out.cell 1
      have z2 : v8.cell? ⟨v3.heap.size, 2, none⟩ = some (.slice va c.recs.length vc) := HC.out.cell 2
      obtain ⟨t1, ht1⟩ : ∃ t, hasC c cc.image j9 cc.recs = t := ⟨_, rfl⟩
      have hor : t1 = false → hasC c2 cc.image j9 cc.recs = true := by
        intro h; rcases HCC.out with h1 | h1
        · rw [h1] at ht1; have h2 := HH9.out; rw [h1, ht1, h] at h2; cases h2
        · have h2 := HH9.out; rw [h1] at h2 ⊢; exact h2
      have HOR := Lib.hid hor; have HT1 := Lib.hid ht1; clear hor ht1
      go_wp2_with fail
      refine (hasC_any va a10 vc c10 c cc.image j9 cc.recs _ HLC.out HM9.out (by omega) (by omega)).mono ?_
      rw [HT1.out]
      rintro er w9 ⟨rfl, hb1⟩
      clear y0 y1 y2 y3 y4 y5 y6
      clear z0 z1 z2
      have HJ := Lib.hid (HJ.out.call hb1)
      have HX := Lib.hid (HX.out.call hb1)
      have HLX := Lib.hid (HLX.out.below hb1)
      have HM9 := Lib.hid (HM9.out.below hb1)
      have HB := Lib.hid (btrans HB.out HB.out.size hb1); clear hb1
      cases t1 with
      | true =>
        go_wp2_with fail
        refine (wexamples_any _).mono ?_
        rintro er w11 ⟨rfl, hb1⟩
        go_wp2_with fail
        go_ret
        exact ⟨rfl, btrans HB.out HB.out.size hb1⟩
      | false =>
        have h2 := HOR.out rfl
        have HH2 := Lib.hid h2; clear h2
        have y0 : w9.cell? ⟨w2.heap.size, 0, none⟩ = some (.int .i64 j9.x.g) := HJ.out.cell 0
        have y1 : w9.cell? ⟨w2.heap.size, 1, none⟩ = some (.int .i64 j9.x.e) := HJ.out.cell 1
        have y2 : w9.cell? ⟨w2.heap.size, 2, none⟩ = some (.int .i64 j9.x.a) := HJ.out.cell 2
        have y3 : w9.cell? ⟨w2.heap.size, 3, none⟩ = some (.int .i64 j9.x.z) := HJ.out.cell 3
        have y4 : w9.cell? ⟨w2.heap.size, 4, none⟩ = some (.int .i64 j9.x.p) := HJ.out.cell 4
        have y5 : w9.cell? ⟨w2.heap.size, 5, none⟩ = some (.int .i64 j9.n) := HJ.out.cell 5
        have y6 : w9.cell? ⟨w2.heap.size, 6, none⟩ = some (.int .i64 j9.r) := HJ.out.cell 6
        have z0 : w9.cell? ⟨v5.heap.size, 0, none⟩ = some (.string (bs c2.image)) := HX.out.cell 0
        have z1 : w9.cell? ⟨v5.heap.size, 1, none⟩ = some (.int .i64 c2.pos) := HX.out.cell 1
        have z2 : w9.cell? ⟨v5.heap.size, 2, none⟩ = some (.slice vb c2.recs.length ve) := HX.out.cell 2
        go_wp2_with fail
        refine (hasC_any vb a10 ve c10 c2 cc.image j9 cc.recs _ HLX.out HM9.out (by omega) (by omega)).mono ?_
        rw [HH2.out]
        rintro er w10 ⟨rfl, hb1⟩
        clear y0 y1 y2 y3 y4 y5 y6
        clear z0 z1 z2
        have HJ := Lib.hid (HJ.out.call hb1)
        have HB := Lib.hid (btrans HB.out HB.out.size hb1); clear hb1
        go_wp2_with fail
        refine (wexamples_any _).mono ?_
        rintro er w11 ⟨rfl, hb1⟩
        go_wp2_with fail
        go_ret
        exact ⟨rfl, btrans HB.out HB.out.size hb1⟩
    have hlt' : (k : Int) < (M.length : Int) := by omega
    cases hdd : d.dead with
    | true =>
      have x4 : wr.cell? ⟨w1.heap.size, 4, none⟩ = some (.bool true) := by rw [← hdd]; exact HD.out.cell 4
      have HDD := Lib.hid hdd; clear hdd
      go_upto_region 23 with (fail)
      clear x4
      obtain ⟨cc, d9, j9, hcc, ho9, hh9, hs9, hp9, hs8, hp8⟩ := left_open (HST.out.left kb te) (by omega)
      obtain ⟨cr, hcr⟩ : ∃ q, crashD d kb te = q := ⟨_, rfl⟩
      rw [hcr] at ho9 hs8 hp8
      have HO9 := Lib.hid ho9; have HH9 := Lib.hid hh9; have HCR := Lib.hid hcr; have HCC := Lib.hid hcc; clear ho9 hh9 hcr hcc
      have hlc : cc.recs.length ≤ 2048 := by rcases HCC.out with h | h <;> rw [h] <;> assumption
      have x0 : wr.cell? ⟨w1.heap.size, 0, none⟩ = some (.slice sa d.S.length sc) := HD.out.cell 0
      have x1 : wr.cell? ⟨w1.heap.size, 1, none⟩ = some (.slice pa d.P.length pc) := HD.out.cell 1
      have x2 : wr.cell? ⟨w1.heap.size, 2, none⟩ = some (.int .i64 d.fuse) := HD.out.cell 2
      have x3 : wr.cell? ⟨w1.heap.size, 3, none⟩ = some (.int .i64 d.ops) := HD.out.cell 3
      have x4 : wr.cell? ⟨w1.heap.size, 4, none⟩ = some (.bool d.dead) := HD.out.cell 4
      have k1 : wr.cell? ⟨w.heap.size, 1, none⟩ = some (.slice ka kb.length kc) := HK.out.cell 1
      have k2 : wr.cell? ⟨w.heap.size, 2, none⟩ = some (.int .i64 te) := HK.out.cell 2
      go_wp2_with fail
      refine (Crash_any _ _ _ _ _ _ d kb te _ HLD.out ((HKB.out.below HB.out).mono HB.out.size)).mono ?_
      rw [HCR.out]
      rintro er w3 ⟨a6, c6, a7, c7, rfl, hOC, hb1⟩
      clear x0 x1 x2 x3 x4
      clear k1 k2
      have HLR := Lib.hid (hOC.lists (d := cr) (by omega) (by omega)); clear hOC
      have HD := Lib.hid (HD.out.call hb1)
      have HJ := Lib.hid (HJ.out.call hb1)
      have HC := Lib.hid (HC.out.call hb1)
      have HX := Lib.hid (HX.out.call hb1)
      have HLC := Lib.hid (HLC.out.below hb1)
      have HLX := Lib.hid (HLX.out.below hb1)
      have HB := Lib.hid (btrans HB.out HB.out.size hb1); clear hb1
      have r0 : w3.cell? ⟨w1.heap.size, 0, none⟩ = some (.slice sa d.S.length sc) := HD.out.cell 0
      have r1 : w3.cell? ⟨w1.heap.size, 1, none⟩ = some (.slice pa d.P.length pc) := HD.out.cell 1
      have r2 : w3.cell? ⟨w1.heap.size, 2, none⟩ = some (.int .i64 d.fuse) := HD.out.cell 2
      have r3 : w3.cell? ⟨w1.heap.size, 3, none⟩ = some (.int .i64 d.ops) := HD.out.cell 3
      have r4 : w3.cell? ⟨w1.heap.size, 4, none⟩ = some (.bool d.dead) := HD.out.cell 4
      have f0 := HD.out.free 0
      have f1 := HD.out.free 1
      have f2 := HD.out.free 2
      have f3 := HD.out.free 3
      have f4 := HD.out.free 4
      go_upto_region 24 with (fail)
      clear r0 r1 r2 r3 r4
      clear f0 f1 f2 f3 f4
      have HLC := Lib.hid (HLC.out.kp ((KpB.refl w1.heap.size w3).sets (.slice a6 cr.S.length c6) (.slice a7 cr.P.length c7) (.int .i64 cr.fuse) (.int .i64 cr.ops) (.bool cr.dead)) (none_disk HD.out))
      have HLX := Lib.hid (HLX.out.kp ((KpB.refl w1.heap.size w3).sets (.slice a6 cr.S.length c6) (.slice a7 cr.P.length c7) (.int .i64 cr.fuse) (.int .i64 cr.ops) (.bool cr.dead)) (none_disk HD.out))
      have HLR := Lib.hid (HLR.out.sets_box HD.out (.slice a6 cr.S.length c6) (.slice a7 cr.P.length c7) (.int .i64 cr.fuse) (.int .i64 cr.ops) (.bool cr.dead))
      have HJ := Lib.hid (HJ.out.sets_ne (c := w1.heap.size) (by omega) (.slice a6 cr.S.length c6) (.slice a7 cr.P.length c7) (.int .i64 cr.fuse) (.int .i64 cr.ops) (.bool cr.dead))
      have HC := Lib.hid (HC.out.sets_ne (c := w1.heap.size) (by omega) (.slice a6 cr.S.length c6) (.slice a7 cr.P.length c7) (.int .i64 cr.fuse) (.int .i64 cr.ops) (.bool cr.dead))
      have HX := Lib.hid (HX.out.sets_ne (c := w1.heap.size) (by omega) (.slice a6 cr.S.length c6) (.slice a7 cr.P.length c7) (.int .i64 cr.fuse) (.int .i64 cr.ops) (.bool cr.dead))
      have HD := Lib.hid (HD.out.sets (.slice a6 cr.S.length c6) (.slice a7 cr.P.length c7) (.int .i64 cr.fuse) (.int .i64 cr.ops) (.bool cr.dead)); have HB := Lib.hid (below_sets HB.out w1.heap.size (by omega) (.slice a6 cr.S.length c6) (.slice a7 cr.P.length c7) (.int .i64 cr.fuse) (.int .i64 cr.ops) (.bool cr.dead))
      generalize hW : (((((w3.setCell ⟨w1.heap.size, 0, none⟩ (.slice a6 cr.S.length c6)).setCell ⟨w1.heap.size, 1, none⟩ (.slice a7 cr.P.length c7)).setCell ⟨w1.heap.size, 2, none⟩ (.int .i64 cr.fuse)).setCell ⟨w1.heap.size, 3, none⟩ (.int .i64 cr.ops)).setCell ⟨w1.heap.size, 4, none⟩ (.bool cr.dead)) = v7 at HLC HLX HLR HJ HC HX HD HB ⊢
      clear hW
      have x0 : v7.cell? ⟨w1.heap.size, 0, none⟩ = some (.slice a6 cr.S.length c6) := HD.out.cell 0
      have x1 : v7.cell? ⟨w1.heap.size, 1, none⟩ = some (.slice a7 cr.P.length c7) := HD.out.cell 1
      have x2 : v7.cell? ⟨w1.heap.size, 2, none⟩ = some (.int .i64 cr.fuse) := HD.out.cell 2
      have x3 : v7.cell? ⟨w1.heap.size, 3, none⟩ = some (.int .i64 cr.ops) := HD.out.cell 3
      have x4 : v7.cell? ⟨w1.heap.size, 4, none⟩ = some (.bool cr.dead) := HD.out.cell 4
      go_wp2_with fail
      refine (openW_use _ _ _ _ cr d9 j9 cc.image cc.recs 0 _ HLR.out (by omega) HO9.out (by omega) (by omega)).mono ?_
      simp only [jnV]
      rintro er w8 ⟨a8, c8, a9, c9, a10, c10, rfl, hL9, hM9, hb1⟩
      clear x0 x1 x2 x3 x4
      have HM9 := Lib.hid hM9; clear hL9 hM9
      have HJ := Lib.hid (HJ.out.call hb1)
      have HC := Lib.hid (HC.out.call hb1)
      have HX := Lib.hid (HX.out.call hb1)
      have HLC := Lib.hid (HLC.out.below hb1)
      have HLX := Lib.hid (HLX.out.below hb1)
      have HB := Lib.hid (btrans HB.out HB.out.size hb1); clear hb1
      have r0 : w8.cell? ⟨w2.heap.size, 0, none⟩ = some (.int .i64 j.x.g) := HJ.out.cell 0
      have r1 : w8.cell? ⟨w2.heap.size, 1, none⟩ = some (.int .i64 j.x.e) := HJ.out.cell 1
      have r2 : w8.cell? ⟨w2.heap.size, 2, none⟩ = some (.int .i64 j.x.a) := HJ.out.cell 2
      have r3 : w8.cell? ⟨w2.heap.size, 3, none⟩ = some (.int .i64 j.x.z) := HJ.out.cell 3
      have r4 : w8.cell? ⟨w2.heap.size, 4, none⟩ = some (.int .i64 j.x.p) := HJ.out.cell 4
      have r5 : w8.cell? ⟨w2.heap.size, 5, none⟩ = some (.int .i64 j.n) := HJ.out.cell 5
      have r6 : w8.cell? ⟨w2.heap.size, 6, none⟩ = some (.int .i64 j.r) := HJ.out.cell 6
      have f0 := HJ.out.free 0
      have f1 := HJ.out.free 1
      have f2 := HJ.out.free 2
      have f3 := HJ.out.free 3
      have f4 := HJ.out.free 4
      have f5 := HJ.out.free 5
      have f6 := HJ.out.free 6
      go_upto_region 25 with (fail)
      clear r0 r1 r2 r3 r4 r5 r6
      clear f0 f1 f2 f3 f4 f5 f6
      have HLC := Lib.hid (HLC.out.kp (KpB.sets7 w2.heap.size w8 (.int .i64 j9.x.g) (.int .i64 j9.x.e) (.int .i64 j9.x.a) (.int .i64 j9.x.z) (.int .i64 j9.x.p) (.int .i64 j9.n) (.int .i64 j9.r)) (none_jn HJ.out))
      have HLX := Lib.hid (HLX.out.kp (KpB.sets7 w2.heap.size w8 (.int .i64 j9.x.g) (.int .i64 j9.x.e) (.int .i64 j9.x.a) (.int .i64 j9.x.z) (.int .i64 j9.x.p) (.int .i64 j9.n) (.int .i64 j9.r)) (none_jn HJ.out))
      have HM9 := Lib.hid (HM9.out.kp (KpB.sets7 w2.heap.size w8 (.int .i64 j9.x.g) (.int .i64 j9.x.e) (.int .i64 j9.x.a) (.int .i64 j9.x.z) (.int .i64 j9.x.p) (.int .i64 j9.n) (.int .i64 j9.r)) (none_jn HJ.out))
      have HC := Lib.hid (HC.out.sets7_ne (c := w2.heap.size) (by omega) (.int .i64 j9.x.g) (.int .i64 j9.x.e) (.int .i64 j9.x.a) (.int .i64 j9.x.z) (.int .i64 j9.x.p) (.int .i64 j9.n) (.int .i64 j9.r))
      have HX := Lib.hid (HX.out.sets7_ne (c := w2.heap.size) (by omega) (.int .i64 j9.x.g) (.int .i64 j9.x.e) (.int .i64 j9.x.a) (.int .i64 j9.x.z) (.int .i64 j9.x.p) (.int .i64 j9.n) (.int .i64 j9.r))
      have HJ := Lib.hid (HJ.out.sets7 (.int .i64 j9.x.g) (.int .i64 j9.x.e) (.int .i64 j9.x.a) (.int .i64 j9.x.z) (.int .i64 j9.x.p) (.int .i64 j9.n) (.int .i64 j9.r)); have HB := Lib.hid (below_sets7 HB.out w2.heap.size (by omega) (.int .i64 j9.x.g) (.int .i64 j9.x.e) (.int .i64 j9.x.a) (.int .i64 j9.x.z) (.int .i64 j9.x.p) (.int .i64 j9.n) (.int .i64 j9.r))
      generalize hW : (((((((w8.setCell ⟨w2.heap.size, 0, none⟩ (.int .i64 j9.x.g)).setCell ⟨w2.heap.size, 1, none⟩ (.int .i64 j9.x.e)).setCell ⟨w2.heap.size, 2, none⟩ (.int .i64 j9.x.a)).setCell ⟨w2.heap.size, 3, none⟩ (.int .i64 j9.x.z)).setCell ⟨w2.heap.size, 4, none⟩ (.int .i64 j9.x.p)).setCell ⟨w2.heap.size, 5, none⟩ (.int .i64 j9.n)).setCell ⟨w2.heap.size, 6, none⟩ (.int .i64 j9.r)) = v8 at HLC HLX HM9 HC HX HJ HB ⊢
      clear hW
      have y0 : v8.cell? ⟨w2.heap.size, 0, none⟩ = some (.int .i64 j9.x.g) := HJ.out.cell 0
      have y1 : v8.cell? ⟨w2.heap.size, 1, none⟩ = some (.int .i64 j9.x.e) := HJ.out.cell 1
      have y2 : v8.cell? ⟨w2.heap.size, 2, none⟩ = some (.int .i64 j9.x.a) := HJ.out.cell 2
      have y3 : v8.cell? ⟨w2.heap.size, 3, none⟩ = some (.int .i64 j9.x.z) := HJ.out.cell 3
      have y4 : v8.cell? ⟨w2.heap.size, 4, none⟩ = some (.int .i64 j9.x.p) := HJ.out.cell 4
      have y5 : v8.cell? ⟨w2.heap.size, 5, none⟩ = some (.int .i64 j9.n) := HJ.out.cell 5
      have y6 : v8.cell? ⟨w2.heap.size, 6, none⟩ = some (.int .i64 j9.r) := HJ.out.cell 6
      have z0 : v8.cell? ⟨v3.heap.size, 0, none⟩ = some (.string (bs c.image)) := HC.out.cell 0
      have z1 : v8.cell? ⟨v3.heap.size, 1, none⟩ = some (.int .i64 c.pos) := HC.out.cell 1
      have z2 : v8.cell? ⟨v3.heap.size, 2, none⟩ = some (.slice va c.recs.length vc) := HC.out.cell 2
      obtain ⟨t1, ht1⟩ : ∃ t, hasC c cc.image j9 cc.recs = t := ⟨_, rfl⟩
      have hor : t1 = false → hasC c2 cc.image j9 cc.recs = true := by
        intro h; rcases HCC.out with h1 | h1
        · rw [h1] at ht1; have h2 := HH9.out; rw [h1, ht1, h] at h2; cases h2
        · have h2 := HH9.out; rw [h1] at h2 ⊢; exact h2
      have HOR := Lib.hid hor; have HT1 := Lib.hid ht1; clear hor ht1
      go_wp2_with fail
      refine (hasC_any va a10 vc c10 c cc.image j9 cc.recs _ HLC.out HM9.out (by omega) (by omega)).mono ?_
      rw [HT1.out]
      rintro er w9 ⟨rfl, hb1⟩
      clear y0 y1 y2 y3 y4 y5 y6
      clear z0 z1 z2
      have HJ := Lib.hid (HJ.out.call hb1)
      have HX := Lib.hid (HX.out.call hb1)
      have HLX := Lib.hid (HLX.out.below hb1)
      have HM9 := Lib.hid (HM9.out.below hb1)
      have HB := Lib.hid (btrans HB.out HB.out.size hb1); clear hb1
      cases t1 with
      | true =>
        go_wp2_with fail
        refine (wexamples_any _).mono ?_
        rintro er w11 ⟨rfl, hb1⟩
        go_wp2_with fail
        go_ret
        exact ⟨rfl, btrans HB.out HB.out.size hb1⟩
      | false =>
        have h2 := HOR.out rfl
        have HH2 := Lib.hid h2; clear h2
        have y0 : w9.cell? ⟨w2.heap.size, 0, none⟩ = some (.int .i64 j9.x.g) := HJ.out.cell 0
        have y1 : w9.cell? ⟨w2.heap.size, 1, none⟩ = some (.int .i64 j9.x.e) := HJ.out.cell 1
        have y2 : w9.cell? ⟨w2.heap.size, 2, none⟩ = some (.int .i64 j9.x.a) := HJ.out.cell 2
        have y3 : w9.cell? ⟨w2.heap.size, 3, none⟩ = some (.int .i64 j9.x.z) := HJ.out.cell 3
        have y4 : w9.cell? ⟨w2.heap.size, 4, none⟩ = some (.int .i64 j9.x.p) := HJ.out.cell 4
        have y5 : w9.cell? ⟨w2.heap.size, 5, none⟩ = some (.int .i64 j9.n) := HJ.out.cell 5
        have y6 : w9.cell? ⟨w2.heap.size, 6, none⟩ = some (.int .i64 j9.r) := HJ.out.cell 6
        have z0 : w9.cell? ⟨v5.heap.size, 0, none⟩ = some (.string (bs c2.image)) := HX.out.cell 0
        have z1 : w9.cell? ⟨v5.heap.size, 1, none⟩ = some (.int .i64 c2.pos) := HX.out.cell 1
        have z2 : w9.cell? ⟨v5.heap.size, 2, none⟩ = some (.slice vb c2.recs.length ve) := HX.out.cell 2
        go_wp2_with fail
        refine (hasC_any vb a10 ve c10 c2 cc.image j9 cc.recs _ HLX.out HM9.out (by omega) (by omega)).mono ?_
        rw [HH2.out]
        rintro er w10 ⟨rfl, hb1⟩
        clear y0 y1 y2 y3 y4 y5 y6
        clear z0 z1 z2
        have HJ := Lib.hid (HJ.out.call hb1)
        have HB := Lib.hid (btrans HB.out HB.out.size hb1); clear hb1
        go_wp2_with fail
        refine (wexamples_any _).mono ?_
        rintro er w11 ⟨rfl, hb1⟩
        go_wp2_with fail
        go_ret
        exact ⟨rfl, btrans HB.out HB.out.size hb1⟩
    | false =>
      obtain ⟨hI, hcc, hg⟩ : Inv m d j c ∧ c2 = c ∧ j.x.g ≤ 1 + (k : Int) := by
        rcases HST.out.2.2.2.2.2 with h | ⟨h, _⟩
        · exact h
        · rw [h] at hdd; cases hdd
      have x4 : wr.cell? ⟨w1.heap.size, 4, none⟩ = some (.bool false) := by rw [← hdd]; exact HD.out.cell 4
      have HDD := Lib.hid hdd; have HI := Lib.hid hI; have HC2 := Lib.hid hcc; clear hdd hI hcc
      obtain ⟨ob, ooff, rfl, hoc, p1, p2, p3⟩ := (HM.out.below HB.out).at k hlt
      have hxs := hMs _ (List.getElem_mem hlt)
      obtain ⟨x, hx⟩ : ∃ x, M[k] = x := ⟨_, rfl⟩
      rw [hx] at p1 p2 p3 hxs
      clear hx
      have hal := (Below.refl wr.heap.size wr).alloc (Nat.le_refl _) (.cells #[.int .i64 x.k, .string (bs x.l), .int .i64 x.p] 67)
      have HA := Lib.hid (Bx.new wr #[.int .i64 x.k, .string (bs x.l), .int .i64 x.p] 67)
      have HD := Lib.hid (HD.out.call hal)
      have HJ := Lib.hid (HJ.out.call hal)
      have HC := Lib.hid (HC.out.call hal)
      have HX := Lib.hid (HX.out.call hal)
      have HK := Lib.hid (HK.out.call hal)
      have HLD := Lib.hid (HLD.out.below hal)
      have HLC := Lib.hid (HLC.out.below hal)
      have HLX := Lib.hid (HLX.out.below hal)
      have HB := Lib.hid (btrans HB.out HB.out.size hal); clear hal
      go_upto_region 12 with (fail)
      generalize hW : wr.alloc (.cells #[.int .i64 x.k, .string (bs x.l), .int .i64 x.p] 67) = v7 at HD HJ HC HX HK HLD HLC HLX HB HA ⊢
      clear hW
      clear p1 p2 p3 x4
      generalize hab : wr.heap.size = ab at HA zcr ⊢
      clear hab
      obtain ⟨nd, nj, e, hout, _, hcall⟩ := do_out HI.out (by omega) x (by omega)
      have HOUT := Lib.hid hout; have HCA := Lib.hid hcall; clear hout hcall
      have x0 : v7.cell? ⟨w1.heap.size, 0, none⟩ = some (.slice sa d.S.length sc) := HD.out.cell 0
      have x1 : v7.cell? ⟨w1.heap.size, 1, none⟩ = some (.slice pa d.P.length pc) := HD.out.cell 1
      have x2 : v7.cell? ⟨w1.heap.size, 2, none⟩ = some (.int .i64 d.fuse) := HD.out.cell 2
      have x3 : v7.cell? ⟨w1.heap.size, 3, none⟩ = some (.int .i64 d.ops) := HD.out.cell 3
      have x4 : v7.cell? ⟨w1.heap.size, 4, none⟩ = some (.bool d.dead) := HD.out.cell 4
      have y0 : v7.cell? ⟨w2.heap.size, 0, none⟩ = some (.int .i64 j.x.g) := HJ.out.cell 0
      have y1 : v7.cell? ⟨w2.heap.size, 1, none⟩ = some (.int .i64 j.x.e) := HJ.out.cell 1
      have y2 : v7.cell? ⟨w2.heap.size, 2, none⟩ = some (.int .i64 j.x.a) := HJ.out.cell 2
      have y3 : v7.cell? ⟨w2.heap.size, 3, none⟩ = some (.int .i64 j.x.z) := HJ.out.cell 3
      have y4 : v7.cell? ⟨w2.heap.size, 4, none⟩ = some (.int .i64 j.x.p) := HJ.out.cell 4
      have y5 : v7.cell? ⟨w2.heap.size, 5, none⟩ = some (.int .i64 j.n) := HJ.out.cell 5
      have y6 : v7.cell? ⟨w2.heap.size, 6, none⟩ = some (.int .i64 j.r) := HJ.out.cell 6
      have z0 : v7.cell? ⟨v3.heap.size, 0, none⟩ = some (.string (bs c.image)) := HC.out.cell 0
      have z1 : v7.cell? ⟨v3.heap.size, 1, none⟩ = some (.int .i64 c.pos) := HC.out.cell 1
      have z2 : v7.cell? ⟨v3.heap.size, 2, none⟩ = some (.slice va c.recs.length vc) := HC.out.cell 2
      have t0 : v7.cell? ⟨ab, 0, none⟩ = some (.int .i64 x.k) := HA.out.cell 0
      have t1 : v7.cell? ⟨ab, 1, none⟩ = some (.string (bs x.l)) := HA.out.cell 1
      have t2 : v7.cell? ⟨ab, 2, none⟩ = some (.int .i64 x.p) := HA.out.cell 2
      go_wp2_with fail
      refine (HCA.out sa pa va sc pc vc _ HLD.out HLC.out).mono ?_
      unfold DOPost; simp only [jnV]
      rintro er w4 ⟨b1, c1, b2, c3, rfl, hLN, hb1⟩
      clear x0 x1 x2 x3 x4
      clear y0 y1 y2 y3 y4 y5 y6
      clear z0 z1 z2
      clear t0 t1 t2
      have HLN := Lib.hid hLN; clear hLN
      have HD := Lib.hid (HD.out.call hb1)
      have HJ := Lib.hid (HJ.out.call hb1)
      have HC := Lib.hid (HC.out.call hb1)
      have HX := Lib.hid (HX.out.call hb1)
      have HK := Lib.hid (HK.out.call hb1)
      have HA := Lib.hid (HA.out.call hb1)
      have HLC := Lib.hid (HLC.out.below hb1)
      have HLX := Lib.hid (HLX.out.below hb1)
      have HB := Lib.hid (btrans HB.out HB.out.size hb1); clear hb1
      have zc4 := HA.out.lt
      have hal := ((Below.refl w4.heap.size w4).alloc (Nat.le_refl _) (.cells #[.slice b1 nd.S.length c1, .slice b2 nd.P.length c3, .int .i64 nd.fuse, .int .i64 nd.ops, .bool nd.dead] 38)).alloc (by simp) (.cells #[.int .i64 nj.x.g, .int .i64 nj.x.e, .int .i64 nj.x.a, .int .i64 nj.x.z, .int .i64 nj.x.p, .int .i64 nj.n, .int .i64 nj.r] 57)
      have HN := Lib.hid ((Bx.new w4 #[.slice b1 nd.S.length c1, .slice b2 nd.P.length c3, .int .i64 nd.fuse, .int .i64 nd.ops, .bool nd.dead] 38).alloc (.cells #[.int .i64 nj.x.g, .int .i64 nj.x.e, .int .i64 nj.x.a, .int .i64 nj.x.z, .int .i64 nj.x.p, .int .i64 nj.n, .int .i64 nj.r] 57)); have HNJ := Lib.hid (Bx.new1 w4 (.cells #[.slice b1 nd.S.length c1, .slice b2 nd.P.length c3, .int .i64 nd.fuse, .int .i64 nd.ops, .bool nd.dead] 38) #[.int .i64 nj.x.g, .int .i64 nj.x.e, .int .i64 nj.x.a, .int .i64 nj.x.z, .int .i64 nj.x.p, .int .i64 nj.n, .int .i64 nj.r] 57)
      have HD := Lib.hid (HD.out.call hal)
      have HJ := Lib.hid (HJ.out.call hal)
      have HC := Lib.hid (HC.out.call hal)
      have HX := Lib.hid (HX.out.call hal)
      have HK := Lib.hid (HK.out.call hal)
      have HA := Lib.hid (HA.out.call hal)
      have HLN := Lib.hid (HLN.out.below hal)
      have HLC := Lib.hid (HLC.out.below hal)
      have HLX := Lib.hid (HLX.out.below hal)
      have HB := Lib.hid (btrans HB.out HB.out.size hal); clear hal
      go_upto_region 13 with (fail)
      generalize hW : (w4.alloc (.cells #[.slice b1 nd.S.length c1, .slice b2 nd.P.length c3, .int .i64 nd.fuse, .int .i64 nd.ops, .bool nd.dead] 38)).alloc (.cells #[.int .i64 nj.x.g, .int .i64 nj.x.e, .int .i64 nj.x.a, .int .i64 nj.x.z, .int .i64 nj.x.p, .int .i64 nj.n, .int .i64 nj.r] 57) = v8 at HD HJ HC HX HK HA HLN HLC HLX HB HN HNJ ⊢
      clear hW
      rcases HOUT.out with ⟨he, he18, hnd0⟩ | ⟨he, hI2, hf2, hg2⟩ | ⟨he, hdied⟩
      · have hnd : nd.dead = false := by rw [hnd0]; exact HDD.out
        have hn2 : 2 ≤ nd.S.length := by rw [hnd0]; exact hqs
        have te0 : (e == 0) = false := by rw [beq_eq_false_iff_ne]; exact he
        have te18 : (e == 18) = false := by rw [beq_eq_false_iff_ne]; exact he18
        have hstn : St m (k + 1) nd j c c := by rw [hnd0]; exact St.alive HI.out (by omega)
        have HSTN := Lib.hid hstn; clear hstn hnd0 he he18
        have n4 : v8.cell? ⟨w4.heap.size, 4, none⟩ = some (.bool false) := by rw [← hnd]; exact HN.out.cell 4
        have HND := Lib.hid hnd; clear hnd
        go_upto_region 15 with (fail)
        clear n4
        have n0 : v8.cell? ⟨w4.heap.size, 0, none⟩ = some (.slice b1 nd.S.length c1) := HN.out.cell 0
        have n1 : v8.cell? ⟨w4.heap.size, 1, none⟩ = some (.slice b2 nd.P.length c3) := HN.out.cell 1
        have n2 : v8.cell? ⟨w4.heap.size, 2, none⟩ = some (.int .i64 nd.fuse) := HN.out.cell 2
        have n3 : v8.cell? ⟨w4.heap.size, 3, none⟩ = some (.int .i64 nd.ops) := HN.out.cell 3
        have n4 : v8.cell? ⟨w4.heap.size, 4, none⟩ = some (.bool nd.dead) := HN.out.cell 4
        have r0 : v8.cell? ⟨w1.heap.size, 0, none⟩ = some (.slice sa d.S.length sc) := HD.out.cell 0
        have r1 : v8.cell? ⟨w1.heap.size, 1, none⟩ = some (.slice pa d.P.length pc) := HD.out.cell 1
        have r2 : v8.cell? ⟨w1.heap.size, 2, none⟩ = some (.int .i64 d.fuse) := HD.out.cell 2
        have r3 : v8.cell? ⟨w1.heap.size, 3, none⟩ = some (.int .i64 d.ops) := HD.out.cell 3
        have r4 : v8.cell? ⟨w1.heap.size, 4, none⟩ = some (.bool d.dead) := HD.out.cell 4
        have f0 := HD.out.free 0
        have f1 := HD.out.free 1
        have f2 := HD.out.free 2
        have f3 := HD.out.free 3
        have f4 := HD.out.free 4
        go_upto_region 16 with (fail)
        clear r0 r1 r2 r3 r4
        clear f0 f1 f2 f3 f4
        have HLC := Lib.hid (HLC.out.kp ((KpB.refl w1.heap.size v8).sets (.slice b1 nd.S.length c1) (.slice b2 nd.P.length c3) (.int .i64 nd.fuse) (.int .i64 nd.ops) (.bool nd.dead)) (none_disk HD.out))
        have HLX := Lib.hid (HLX.out.kp ((KpB.refl w1.heap.size v8).sets (.slice b1 nd.S.length c1) (.slice b2 nd.P.length c3) (.int .i64 nd.fuse) (.int .i64 nd.ops) (.bool nd.dead)) (none_disk HD.out))
        have HLN := Lib.hid (HLN.out.sets_box HD.out (.slice b1 nd.S.length c1) (.slice b2 nd.P.length c3) (.int .i64 nd.fuse) (.int .i64 nd.ops) (.bool nd.dead))
        have HJ := Lib.hid (HJ.out.sets_ne (c := w1.heap.size) (by omega) (.slice b1 nd.S.length c1) (.slice b2 nd.P.length c3) (.int .i64 nd.fuse) (.int .i64 nd.ops) (.bool nd.dead))
        have HC := Lib.hid (HC.out.sets_ne (c := w1.heap.size) (by omega) (.slice b1 nd.S.length c1) (.slice b2 nd.P.length c3) (.int .i64 nd.fuse) (.int .i64 nd.ops) (.bool nd.dead))
        have HX := Lib.hid (HX.out.sets_ne (c := w1.heap.size) (by omega) (.slice b1 nd.S.length c1) (.slice b2 nd.P.length c3) (.int .i64 nd.fuse) (.int .i64 nd.ops) (.bool nd.dead))
        have HK := Lib.hid (HK.out.sets_ne (c := w1.heap.size) (by omega) (.slice b1 nd.S.length c1) (.slice b2 nd.P.length c3) (.int .i64 nd.fuse) (.int .i64 nd.ops) (.bool nd.dead))
        have HA := Lib.hid (HA.out.sets_ne (c := w1.heap.size) (by omega) (.slice b1 nd.S.length c1) (.slice b2 nd.P.length c3) (.int .i64 nd.fuse) (.int .i64 nd.ops) (.bool nd.dead))
        have HNJ := Lib.hid (HNJ.out.sets_ne (c := w1.heap.size) (by omega) (.slice b1 nd.S.length c1) (.slice b2 nd.P.length c3) (.int .i64 nd.fuse) (.int .i64 nd.ops) (.bool nd.dead))
        have HD := Lib.hid (HD.out.sets (.slice b1 nd.S.length c1) (.slice b2 nd.P.length c3) (.int .i64 nd.fuse) (.int .i64 nd.ops) (.bool nd.dead)); have HB := Lib.hid (below_sets HB.out w1.heap.size (by omega) (.slice b1 nd.S.length c1) (.slice b2 nd.P.length c3) (.int .i64 nd.fuse) (.int .i64 nd.ops) (.bool nd.dead))
        generalize hW : (((((v8.setCell ⟨w1.heap.size, 0, none⟩ (.slice b1 nd.S.length c1)).setCell ⟨w1.heap.size, 1, none⟩ (.slice b2 nd.P.length c3)).setCell ⟨w1.heap.size, 2, none⟩ (.int .i64 nd.fuse)).setCell ⟨w1.heap.size, 3, none⟩ (.int .i64 nd.ops)).setCell ⟨w1.heap.size, 4, none⟩ (.bool nd.dead)) = v9 at HLC HLX HLN HJ HC HX HK HA HNJ HD HB ⊢
        clear hW
        clear n0 n1 n2 n3 n4
        have n0 : v9.cell? ⟨v3.heap.size, 0, none⟩ = some (.string (bs c.image)) := HC.out.cell 0
        have n1 : v9.cell? ⟨v3.heap.size, 1, none⟩ = some (.int .i64 c.pos) := HC.out.cell 1
        have n2 : v9.cell? ⟨v3.heap.size, 2, none⟩ = some (.slice va c.recs.length vc) := HC.out.cell 2
        have r0 : v9.cell? ⟨v5.heap.size, 0, none⟩ = some (.string (bs c2.image)) := HX.out.cell 0
        have r1 : v9.cell? ⟨v5.heap.size, 1, none⟩ = some (.int .i64 c2.pos) := HX.out.cell 1
        have r2 : v9.cell? ⟨v5.heap.size, 2, none⟩ = some (.slice vb c2.recs.length ve) := HX.out.cell 2
        have f0 := HX.out.free 0
        have f1 := HX.out.free 1
        have f2 := HX.out.free 2
        go_upto_region 17 with (fail)
        clear r0 r1 r2
        clear f0 f1 f2
        have HLC := Lib.hid (HLC.out.kpo (KpB.sets3 v5.heap.size v9 (.string (bs c.image)) (.int .i64 c.pos) (.slice va c.recs.length vc)) OF2.out)
        have HLN := Lib.hid (HLN.out.kpc HX.out (KpB.sets3 v5.heap.size v9 (.string (bs c.image)) (.int .i64 c.pos) (.slice va c.recs.length vc)) (by omega))
        have HD := Lib.hid (HD.out.sets3_ne (c := v5.heap.size) (by omega) (.string (bs c.image)) (.int .i64 c.pos) (.slice va c.recs.length vc))
        have HJ := Lib.hid (HJ.out.sets3_ne (c := v5.heap.size) (by omega) (.string (bs c.image)) (.int .i64 c.pos) (.slice va c.recs.length vc))
        have HC := Lib.hid (HC.out.sets3_ne (c := v5.heap.size) (by omega) (.string (bs c.image)) (.int .i64 c.pos) (.slice va c.recs.length vc))
        have HK := Lib.hid (HK.out.sets3_ne (c := v5.heap.size) (by omega) (.string (bs c.image)) (.int .i64 c.pos) (.slice va c.recs.length vc))
        have HA := Lib.hid (HA.out.sets3_ne (c := v5.heap.size) (by omega) (.string (bs c.image)) (.int .i64 c.pos) (.slice va c.recs.length vc))
        have HNJ := Lib.hid (HNJ.out.sets3_ne (c := v5.heap.size) (by omega) (.string (bs c.image)) (.int .i64 c.pos) (.slice va c.recs.length vc))
        have HX := Lib.hid (HX.out.sets3 (.string (bs c.image)) (.int .i64 c.pos) (.slice va c.recs.length vc)); have HB := Lib.hid (below_sets3 HB.out v5.heap.size (by omega) (.string (bs c.image)) (.int .i64 c.pos) (.slice va c.recs.length vc))
        generalize hW : (((v9.setCell ⟨v5.heap.size, 0, none⟩ (.string (bs c.image))).setCell ⟨v5.heap.size, 1, none⟩ (.int .i64 c.pos)).setCell ⟨v5.heap.size, 2, none⟩ (.slice va c.recs.length vc)) = v10 at HLC HLN HD HJ HC HK HA HNJ HX HB ⊢
        clear hW
        clear n0 n1 n2
        clear HLX HN
        go_wp2
        go_roundw
        case rel => exact ⟨k + 1, nd, j, c, c, b1, c1, b2, c3, va, vc, va, vc, by omega, by go_num, HSTN.out, HD.out, HJ.out, HC.out, HX.out, HK.out, HLN.out, HLC.out, HLC.out, OF1.out, OF2.out, OF1.out, OF2.out, HB.out⟩
        case measure => simp [intOf]; omega
      · subst he
        obtain ⟨c', hc'⟩ : ∃ c', aft c x.k x.l x.p = c' := ⟨_, rfl⟩
        rw [hc'] at hI2
        have hnd : nd.dead = false := hI2.q.a
        have hn2 : 2 ≤ nd.S.length := by rw [hI2.q.s]; omega
        have hstn : St m (k + 1) nd nj c' c' := St.alive hI2 (by omega)
        have HSTN := Lib.hid hstn; have HCN := Lib.hid hc'; clear hstn hI2 hc' hf2
        have n4 : v8.cell? ⟨w4.heap.size, 4, none⟩ = some (.bool false) := by rw [← hnd]; exact HN.out.cell 4
        have HND := Lib.hid hnd; clear hnd
        go_upto_region 15 with (fail)
        clear n4
        have n0 : v8.cell? ⟨w4.heap.size, 0, none⟩ = some (.slice b1 nd.S.length c1) := HN.out.cell 0
        have n1 : v8.cell? ⟨w4.heap.size, 1, none⟩ = some (.slice b2 nd.P.length c3) := HN.out.cell 1
        have n2 : v8.cell? ⟨w4.heap.size, 2, none⟩ = some (.int .i64 nd.fuse) := HN.out.cell 2
        have n3 : v8.cell? ⟨w4.heap.size, 3, none⟩ = some (.int .i64 nd.ops) := HN.out.cell 3
        have n4 : v8.cell? ⟨w4.heap.size, 4, none⟩ = some (.bool nd.dead) := HN.out.cell 4
        have r0 : v8.cell? ⟨w1.heap.size, 0, none⟩ = some (.slice sa d.S.length sc) := HD.out.cell 0
        have r1 : v8.cell? ⟨w1.heap.size, 1, none⟩ = some (.slice pa d.P.length pc) := HD.out.cell 1
        have r2 : v8.cell? ⟨w1.heap.size, 2, none⟩ = some (.int .i64 d.fuse) := HD.out.cell 2
        have r3 : v8.cell? ⟨w1.heap.size, 3, none⟩ = some (.int .i64 d.ops) := HD.out.cell 3
        have r4 : v8.cell? ⟨w1.heap.size, 4, none⟩ = some (.bool d.dead) := HD.out.cell 4
        have f0 := HD.out.free 0
        have f1 := HD.out.free 1
        have f2 := HD.out.free 2
        have f3 := HD.out.free 3
        have f4 := HD.out.free 4
        go_upto_region 16 with (fail)
        clear r0 r1 r2 r3 r4
        clear f0 f1 f2 f3 f4
        have HLC := Lib.hid (HLC.out.kp ((KpB.refl w1.heap.size v8).sets (.slice b1 nd.S.length c1) (.slice b2 nd.P.length c3) (.int .i64 nd.fuse) (.int .i64 nd.ops) (.bool nd.dead)) (none_disk HD.out))
        have HLX := Lib.hid (HLX.out.kp ((KpB.refl w1.heap.size v8).sets (.slice b1 nd.S.length c1) (.slice b2 nd.P.length c3) (.int .i64 nd.fuse) (.int .i64 nd.ops) (.bool nd.dead)) (none_disk HD.out))
        have HLN := Lib.hid (HLN.out.sets_box HD.out (.slice b1 nd.S.length c1) (.slice b2 nd.P.length c3) (.int .i64 nd.fuse) (.int .i64 nd.ops) (.bool nd.dead))
        have HJ := Lib.hid (HJ.out.sets_ne (c := w1.heap.size) (by omega) (.slice b1 nd.S.length c1) (.slice b2 nd.P.length c3) (.int .i64 nd.fuse) (.int .i64 nd.ops) (.bool nd.dead))
        have HC := Lib.hid (HC.out.sets_ne (c := w1.heap.size) (by omega) (.slice b1 nd.S.length c1) (.slice b2 nd.P.length c3) (.int .i64 nd.fuse) (.int .i64 nd.ops) (.bool nd.dead))
        have HX := Lib.hid (HX.out.sets_ne (c := w1.heap.size) (by omega) (.slice b1 nd.S.length c1) (.slice b2 nd.P.length c3) (.int .i64 nd.fuse) (.int .i64 nd.ops) (.bool nd.dead))
        have HK := Lib.hid (HK.out.sets_ne (c := w1.heap.size) (by omega) (.slice b1 nd.S.length c1) (.slice b2 nd.P.length c3) (.int .i64 nd.fuse) (.int .i64 nd.ops) (.bool nd.dead))
        have HA := Lib.hid (HA.out.sets_ne (c := w1.heap.size) (by omega) (.slice b1 nd.S.length c1) (.slice b2 nd.P.length c3) (.int .i64 nd.fuse) (.int .i64 nd.ops) (.bool nd.dead))
        have HNJ := Lib.hid (HNJ.out.sets_ne (c := w1.heap.size) (by omega) (.slice b1 nd.S.length c1) (.slice b2 nd.P.length c3) (.int .i64 nd.fuse) (.int .i64 nd.ops) (.bool nd.dead))
        have HD := Lib.hid (HD.out.sets (.slice b1 nd.S.length c1) (.slice b2 nd.P.length c3) (.int .i64 nd.fuse) (.int .i64 nd.ops) (.bool nd.dead)); have HB := Lib.hid (below_sets HB.out w1.heap.size (by omega) (.slice b1 nd.S.length c1) (.slice b2 nd.P.length c3) (.int .i64 nd.fuse) (.int .i64 nd.ops) (.bool nd.dead))
        generalize hW : (((((v8.setCell ⟨w1.heap.size, 0, none⟩ (.slice b1 nd.S.length c1)).setCell ⟨w1.heap.size, 1, none⟩ (.slice b2 nd.P.length c3)).setCell ⟨w1.heap.size, 2, none⟩ (.int .i64 nd.fuse)).setCell ⟨w1.heap.size, 3, none⟩ (.int .i64 nd.ops)).setCell ⟨w1.heap.size, 4, none⟩ (.bool nd.dead)) = v9 at HLC HLX HLN HJ HC HX HK HA HNJ HD HB ⊢
        clear hW
        clear n0 n1 n2 n3 n4
        have n0 : v9.cell? ⟨v3.heap.size, 0, none⟩ = some (.string (bs c.image)) := HC.out.cell 0
        have n1 : v9.cell? ⟨v3.heap.size, 1, none⟩ = some (.int .i64 c.pos) := HC.out.cell 1
        have n2 : v9.cell? ⟨v3.heap.size, 2, none⟩ = some (.slice va c.recs.length vc) := HC.out.cell 2
        have r0 : v9.cell? ⟨v5.heap.size, 0, none⟩ = some (.string (bs c2.image)) := HX.out.cell 0
        have r1 : v9.cell? ⟨v5.heap.size, 1, none⟩ = some (.int .i64 c2.pos) := HX.out.cell 1
        have r2 : v9.cell? ⟨v5.heap.size, 2, none⟩ = some (.slice vb c2.recs.length ve) := HX.out.cell 2
        have f0 := HX.out.free 0
        have f1 := HX.out.free 1
        have f2 := HX.out.free 2
        go_upto_region 17 with (fail)
        clear r0 r1 r2
        clear f0 f1 f2
        have HLC := Lib.hid (HLC.out.kpo (KpB.sets3 v5.heap.size v9 (.string (bs c.image)) (.int .i64 c.pos) (.slice va c.recs.length vc)) OF2.out)
        have HLN := Lib.hid (HLN.out.kpc HX.out (KpB.sets3 v5.heap.size v9 (.string (bs c.image)) (.int .i64 c.pos) (.slice va c.recs.length vc)) (by omega))
        have HD := Lib.hid (HD.out.sets3_ne (c := v5.heap.size) (by omega) (.string (bs c.image)) (.int .i64 c.pos) (.slice va c.recs.length vc))
        have HJ := Lib.hid (HJ.out.sets3_ne (c := v5.heap.size) (by omega) (.string (bs c.image)) (.int .i64 c.pos) (.slice va c.recs.length vc))
        have HC := Lib.hid (HC.out.sets3_ne (c := v5.heap.size) (by omega) (.string (bs c.image)) (.int .i64 c.pos) (.slice va c.recs.length vc))
        have HK := Lib.hid (HK.out.sets3_ne (c := v5.heap.size) (by omega) (.string (bs c.image)) (.int .i64 c.pos) (.slice va c.recs.length vc))
        have HA := Lib.hid (HA.out.sets3_ne (c := v5.heap.size) (by omega) (.string (bs c.image)) (.int .i64 c.pos) (.slice va c.recs.length vc))
        have HNJ := Lib.hid (HNJ.out.sets3_ne (c := v5.heap.size) (by omega) (.string (bs c.image)) (.int .i64 c.pos) (.slice va c.recs.length vc))
        have HX := Lib.hid (HX.out.sets3 (.string (bs c.image)) (.int .i64 c.pos) (.slice va c.recs.length vc)); have HB := Lib.hid (below_sets3 HB.out v5.heap.size (by omega) (.string (bs c.image)) (.int .i64 c.pos) (.slice va c.recs.length vc))
        generalize hW : (((v9.setCell ⟨v5.heap.size, 0, none⟩ (.string (bs c.image))).setCell ⟨v5.heap.size, 1, none⟩ (.int .i64 c.pos)).setCell ⟨v5.heap.size, 2, none⟩ (.slice va c.recs.length vc)) = v10 at HLC HLN HD HJ HC HK HA HNJ HX HB ⊢
        clear hW
        clear n0 n1 n2
        clear HLX HN
        go_upto_region 20 with (fail)
        have n0 : v10.cell? ⟨(w4.heap.size + 1), 0, none⟩ = some (.int .i64 nj.x.g) := HNJ.out.cell 0
        have n1 : v10.cell? ⟨(w4.heap.size + 1), 1, none⟩ = some (.int .i64 nj.x.e) := HNJ.out.cell 1
        have n2 : v10.cell? ⟨(w4.heap.size + 1), 2, none⟩ = some (.int .i64 nj.x.a) := HNJ.out.cell 2
        have n3 : v10.cell? ⟨(w4.heap.size + 1), 3, none⟩ = some (.int .i64 nj.x.z) := HNJ.out.cell 3
        have n4 : v10.cell? ⟨(w4.heap.size + 1), 4, none⟩ = some (.int .i64 nj.x.p) := HNJ.out.cell 4
        have n5 : v10.cell? ⟨(w4.heap.size + 1), 5, none⟩ = some (.int .i64 nj.n) := HNJ.out.cell 5
        have n6 : v10.cell? ⟨(w4.heap.size + 1), 6, none⟩ = some (.int .i64 nj.r) := HNJ.out.cell 6
        have r0 : v10.cell? ⟨w2.heap.size, 0, none⟩ = some (.int .i64 j.x.g) := HJ.out.cell 0
        have r1 : v10.cell? ⟨w2.heap.size, 1, none⟩ = some (.int .i64 j.x.e) := HJ.out.cell 1
        have r2 : v10.cell? ⟨w2.heap.size, 2, none⟩ = some (.int .i64 j.x.a) := HJ.out.cell 2
        have r3 : v10.cell? ⟨w2.heap.size, 3, none⟩ = some (.int .i64 j.x.z) := HJ.out.cell 3
        have r4 : v10.cell? ⟨w2.heap.size, 4, none⟩ = some (.int .i64 j.x.p) := HJ.out.cell 4
        have r5 : v10.cell? ⟨w2.heap.size, 5, none⟩ = some (.int .i64 j.n) := HJ.out.cell 5
        have r6 : v10.cell? ⟨w2.heap.size, 6, none⟩ = some (.int .i64 j.r) := HJ.out.cell 6
        have f0 := HJ.out.free 0
        have f1 := HJ.out.free 1
        have f2 := HJ.out.free 2
        have f3 := HJ.out.free 3
        have f4 := HJ.out.free 4
        have f5 := HJ.out.free 5
        have f6 := HJ.out.free 6
        go_upto_region 21 with (fail)
        clear r0 r1 r2 r3 r4 r5 r6
        clear f0 f1 f2 f3 f4 f5 f6
        have HLC := Lib.hid (HLC.out.kp (KpB.sets7 w2.heap.size v10 (.int .i64 nj.x.g) (.int .i64 nj.x.e) (.int .i64 nj.x.a) (.int .i64 nj.x.z) (.int .i64 nj.x.p) (.int .i64 nj.n) (.int .i64 nj.r)) (none_jn HJ.out))
        have HLN := Lib.hid (HLN.out.sets7i HJ.out (.int .i64 nj.x.g) (.int .i64 nj.x.e) (.int .i64 nj.x.a) (.int .i64 nj.x.z) (.int .i64 nj.x.p) (.int .i64 nj.n) (.int .i64 nj.r))
        have HD := Lib.hid (HD.out.sets7_ne (c := w2.heap.size) (by omega) (.int .i64 nj.x.g) (.int .i64 nj.x.e) (.int .i64 nj.x.a) (.int .i64 nj.x.z) (.int .i64 nj.x.p) (.int .i64 nj.n) (.int .i64 nj.r))
        have HC := Lib.hid (HC.out.sets7_ne (c := w2.heap.size) (by omega) (.int .i64 nj.x.g) (.int .i64 nj.x.e) (.int .i64 nj.x.a) (.int .i64 nj.x.z) (.int .i64 nj.x.p) (.int .i64 nj.n) (.int .i64 nj.r))
        have HX := Lib.hid (HX.out.sets7_ne (c := w2.heap.size) (by omega) (.int .i64 nj.x.g) (.int .i64 nj.x.e) (.int .i64 nj.x.a) (.int .i64 nj.x.z) (.int .i64 nj.x.p) (.int .i64 nj.n) (.int .i64 nj.r))
        have HK := Lib.hid (HK.out.sets7_ne (c := w2.heap.size) (by omega) (.int .i64 nj.x.g) (.int .i64 nj.x.e) (.int .i64 nj.x.a) (.int .i64 nj.x.z) (.int .i64 nj.x.p) (.int .i64 nj.n) (.int .i64 nj.r))
        have HA := Lib.hid (HA.out.sets7_ne (c := w2.heap.size) (by omega) (.int .i64 nj.x.g) (.int .i64 nj.x.e) (.int .i64 nj.x.a) (.int .i64 nj.x.z) (.int .i64 nj.x.p) (.int .i64 nj.n) (.int .i64 nj.r))
        have HJ := Lib.hid (HJ.out.sets7 (.int .i64 nj.x.g) (.int .i64 nj.x.e) (.int .i64 nj.x.a) (.int .i64 nj.x.z) (.int .i64 nj.x.p) (.int .i64 nj.n) (.int .i64 nj.r)); have HB := Lib.hid (below_sets7 HB.out w2.heap.size (by omega) (.int .i64 nj.x.g) (.int .i64 nj.x.e) (.int .i64 nj.x.a) (.int .i64 nj.x.z) (.int .i64 nj.x.p) (.int .i64 nj.n) (.int .i64 nj.r))
        generalize hW : (((((((v10.setCell ⟨w2.heap.size, 0, none⟩ (.int .i64 nj.x.g)).setCell ⟨w2.heap.size, 1, none⟩ (.int .i64 nj.x.e)).setCell ⟨w2.heap.size, 2, none⟩ (.int .i64 nj.x.a)).setCell ⟨w2.heap.size, 3, none⟩ (.int .i64 nj.x.z)).setCell ⟨w2.heap.size, 4, none⟩ (.int .i64 nj.x.p)).setCell ⟨w2.heap.size, 5, none⟩ (.int .i64 nj.n)).setCell ⟨w2.heap.size, 6, none⟩ (.int .i64 nj.r)) = v11 at HLC HLN HD HC HX HK HA HJ HB ⊢
        clear hW
        clear n0 n1 n2 n3 n4 n5 n6
        clear HNJ
        have z0 : v11.cell? ⟨v3.heap.size, 0, none⟩ = some (.string (bs c.image)) := HC.out.cell 0
        have z1 : v11.cell? ⟨v3.heap.size, 1, none⟩ = some (.int .i64 c.pos) := HC.out.cell 1
        have z2 : v11.cell? ⟨v3.heap.size, 2, none⟩ = some (.slice va c.recs.length vc) := HC.out.cell 2
        have t0 : v11.cell? ⟨ab, 0, none⟩ = some (.int .i64 x.k) := HA.out.cell 0
        have t1 : v11.cell? ⟨ab, 1, none⟩ = some (.string (bs x.l)) := HA.out.cell 1
        have t2 : v11.cell? ⟨ab, 2, none⟩ = some (.int .i64 x.p) := HA.out.cell 2
        go_wp2_with fail
        refine (after_any va vc c x.k x.l x.p _ HLC.out (by omega)).mono ?_
        rw [HCN.out]
        rintro er w12 ⟨g1, g2, rfl, hSN, hof, hb1⟩
        clear z0 z1 z2
        clear t0 t1 t2
        have hof1 : Off v3.heap.size g1 ∧ Off v5.heap.size g1 := by
          rcases hof with h | h
          · rw [h]; exact ⟨OF1.out, OF2.out⟩
          · have h2 := HC.out.lt; have h3 := HX.out.lt; exact ⟨fun q hq => by have h1 := h q hq; omega, fun q hq => by have h1 := h q hq; omega⟩
        have OG1 := Lib.hid hof1.1; have OG2 := Lib.hid hof1.2; have HSN := Lib.hid hSN; clear hof hof1 hSN
        have HD := Lib.hid (HD.out.call hb1)
        have HJ := Lib.hid (HJ.out.call hb1)
        have HC := Lib.hid (HC.out.call hb1)
        have HX := Lib.hid (HX.out.call hb1)
        have HK := Lib.hid (HK.out.call hb1)
        have HLN := Lib.hid (HLN.out.below hb1)
        have HLC := Lib.hid (HLC.out.below hb1)
        have HB := Lib.hid (btrans HB.out HB.out.size hb1); clear hb1
        have r0 : w12.cell? ⟨v3.heap.size, 0, none⟩ = some (.string (bs c.image)) := HC.out.cell 0
        have r1 : w12.cell? ⟨v3.heap.size, 1, none⟩ = some (.int .i64 c.pos) := HC.out.cell 1
        have r2 : w12.cell? ⟨v3.heap.size, 2, none⟩ = some (.slice va c.recs.length vc) := HC.out.cell 2
        have f0 := HC.out.free 0
        have f1 := HC.out.free 1
        have f2 := HC.out.free 2
        go_upto_region 22 with (fail)
        clear r0 r1 r2
        clear f0 f1 f2
        have HSN := Lib.hid (HSN.out.kpo (KpB.sets3 v3.heap.size w12 (.string (bs c'.image)) (.int .i64 c'.pos) (.slice g1 c'.recs.length g2)) OG1.out)
        have HLN := Lib.hid (HLN.out.kpc HC.out (KpB.sets3 v3.heap.size w12 (.string (bs c'.image)) (.int .i64 c'.pos) (.slice g1 c'.recs.length g2)) (by omega))
        have HD := Lib.hid (HD.out.sets3_ne (c := v3.heap.size) (by omega) (.string (bs c'.image)) (.int .i64 c'.pos) (.slice g1 c'.recs.length g2))
        have HJ := Lib.hid (HJ.out.sets3_ne (c := v3.heap.size) (by omega) (.string (bs c'.image)) (.int .i64 c'.pos) (.slice g1 c'.recs.length g2))
        have HX := Lib.hid (HX.out.sets3_ne (c := v3.heap.size) (by omega) (.string (bs c'.image)) (.int .i64 c'.pos) (.slice g1 c'.recs.length g2))
        have HK := Lib.hid (HK.out.sets3_ne (c := v3.heap.size) (by omega) (.string (bs c'.image)) (.int .i64 c'.pos) (.slice g1 c'.recs.length g2))
        have HC := Lib.hid (HC.out.sets3 (.string (bs c'.image)) (.int .i64 c'.pos) (.slice g1 c'.recs.length g2)); have HB := Lib.hid (below_sets3 HB.out v3.heap.size (by omega) (.string (bs c'.image)) (.int .i64 c'.pos) (.slice g1 c'.recs.length g2))
        generalize hW : (((w12.setCell ⟨v3.heap.size, 0, none⟩ (.string (bs c'.image))).setCell ⟨v3.heap.size, 1, none⟩ (.int .i64 c'.pos)).setCell ⟨v3.heap.size, 2, none⟩ (.slice g1 c'.recs.length g2)) = v12 at HSN HLN HD HJ HX HK HC HB ⊢
        clear hW
        clear HLC
        have n0 : v12.cell? ⟨v3.heap.size, 0, none⟩ = some (.string (bs c'.image)) := HC.out.cell 0
        have n1 : v12.cell? ⟨v3.heap.size, 1, none⟩ = some (.int .i64 c'.pos) := HC.out.cell 1
        have n2 : v12.cell? ⟨v3.heap.size, 2, none⟩ = some (.slice g1 c'.recs.length g2) := HC.out.cell 2
        have r0 : v12.cell? ⟨v5.heap.size, 0, none⟩ = some (.string (bs c.image)) := HX.out.cell 0
        have r1 : v12.cell? ⟨v5.heap.size, 1, none⟩ = some (.int .i64 c.pos) := HX.out.cell 1
        have r2 : v12.cell? ⟨v5.heap.size, 2, none⟩ = some (.slice va c.recs.length vc) := HX.out.cell 2
        have f0 := HX.out.free 0
        have f1 := HX.out.free 1
        have f2 := HX.out.free 2
        go_upto_region 10 with (fail)
        clear r0 r1 r2
        clear f0 f1 f2
        have HSN := Lib.hid (HSN.out.kpo (KpB.sets3 v5.heap.size v12 (.string (bs c'.image)) (.int .i64 c'.pos) (.slice g1 c'.recs.length g2)) OG2.out)
        have HLN := Lib.hid (HLN.out.kpc HX.out (KpB.sets3 v5.heap.size v12 (.string (bs c'.image)) (.int .i64 c'.pos) (.slice g1 c'.recs.length g2)) (by omega))
        have HD := Lib.hid (HD.out.sets3_ne (c := v5.heap.size) (by omega) (.string (bs c'.image)) (.int .i64 c'.pos) (.slice g1 c'.recs.length g2))
        have HJ := Lib.hid (HJ.out.sets3_ne (c := v5.heap.size) (by omega) (.string (bs c'.image)) (.int .i64 c'.pos) (.slice g1 c'.recs.length g2))
        have HC := Lib.hid (HC.out.sets3_ne (c := v5.heap.size) (by omega) (.string (bs c'.image)) (.int .i64 c'.pos) (.slice g1 c'.recs.length g2))
        have HK := Lib.hid (HK.out.sets3_ne (c := v5.heap.size) (by omega) (.string (bs c'.image)) (.int .i64 c'.pos) (.slice g1 c'.recs.length g2))
        have HX := Lib.hid (HX.out.sets3 (.string (bs c'.image)) (.int .i64 c'.pos) (.slice g1 c'.recs.length g2)); have HB := Lib.hid (below_sets3 HB.out v5.heap.size (by omega) (.string (bs c'.image)) (.int .i64 c'.pos) (.slice g1 c'.recs.length g2))
        generalize hW : (((v12.setCell ⟨v5.heap.size, 0, none⟩ (.string (bs c'.image))).setCell ⟨v5.heap.size, 1, none⟩ (.int .i64 c'.pos)).setCell ⟨v5.heap.size, 2, none⟩ (.slice g1 c'.recs.length g2)) = v13 at HSN HLN HD HJ HC HK HX HB ⊢
        clear hW
        clear n0 n1 n2
        go_wp2
        go_roundw
        case rel => exact ⟨k + 1, nd, nj, c', c', b1, c1, b2, c3, g1, g2, g1, g2, by omega, by go_num, HSTN.out, HD.out, HJ.out, HC.out, HX.out, HK.out, HLN.out, HSN.out, HSN.out, OG1.out, OG2.out, OG1.out, OG2.out, HB.out⟩
        case measure => simp [intOf]; omega
      · subst he
        obtain ⟨c', hc'⟩ : ∃ c', aft c x.k x.l x.p = c' := ⟨_, rfl⟩
        have hal9 := aft_len c x
        rw [hc'] at hdied hal9
        have hnd : nd.dead = true := hdied.2.1
        have hn2 : 2 ≤ nd.S.length := by rw [hdied.2.2.1]; omega
        obtain ⟨_, _, hrl9⟩ := inv_lens HI.out
        have hstn : St m (k + 1) nd j c c' := St.died hdied (by omega) (by omega) (by omega) (by omega) (by omega)
        have HSTN := Lib.hid hstn; have HCN := Lib.hid hc'; clear hstn hdied hc'
        have n4 : v8.cell? ⟨w4.heap.size, 4, none⟩ = some (.bool true) := by rw [← hnd]; exact HN.out.cell 4
        have HND := Lib.hid hnd; clear hnd
        go_upto_region 15 with (fail)
        clear n4
        have n0 : v8.cell? ⟨w4.heap.size, 0, none⟩ = some (.slice b1 nd.S.length c1) := HN.out.cell 0
        have n1 : v8.cell? ⟨w4.heap.size, 1, none⟩ = some (.slice b2 nd.P.length c3) := HN.out.cell 1
        have n2 : v8.cell? ⟨w4.heap.size, 2, none⟩ = some (.int .i64 nd.fuse) := HN.out.cell 2
        have n3 : v8.cell? ⟨w4.heap.size, 3, none⟩ = some (.int .i64 nd.ops) := HN.out.cell 3
        have n4 : v8.cell? ⟨w4.heap.size, 4, none⟩ = some (.bool nd.dead) := HN.out.cell 4
        have r0 : v8.cell? ⟨w1.heap.size, 0, none⟩ = some (.slice sa d.S.length sc) := HD.out.cell 0
        have r1 : v8.cell? ⟨w1.heap.size, 1, none⟩ = some (.slice pa d.P.length pc) := HD.out.cell 1
        have r2 : v8.cell? ⟨w1.heap.size, 2, none⟩ = some (.int .i64 d.fuse) := HD.out.cell 2
        have r3 : v8.cell? ⟨w1.heap.size, 3, none⟩ = some (.int .i64 d.ops) := HD.out.cell 3
        have r4 : v8.cell? ⟨w1.heap.size, 4, none⟩ = some (.bool d.dead) := HD.out.cell 4
        have f0 := HD.out.free 0
        have f1 := HD.out.free 1
        have f2 := HD.out.free 2
        have f3 := HD.out.free 3
        have f4 := HD.out.free 4
        go_upto_region 16 with (fail)
        clear r0 r1 r2 r3 r4
        clear f0 f1 f2 f3 f4
        have HLC := Lib.hid (HLC.out.kp ((KpB.refl w1.heap.size v8).sets (.slice b1 nd.S.length c1) (.slice b2 nd.P.length c3) (.int .i64 nd.fuse) (.int .i64 nd.ops) (.bool nd.dead)) (none_disk HD.out))
        have HLX := Lib.hid (HLX.out.kp ((KpB.refl w1.heap.size v8).sets (.slice b1 nd.S.length c1) (.slice b2 nd.P.length c3) (.int .i64 nd.fuse) (.int .i64 nd.ops) (.bool nd.dead)) (none_disk HD.out))
        have HLN := Lib.hid (HLN.out.sets_box HD.out (.slice b1 nd.S.length c1) (.slice b2 nd.P.length c3) (.int .i64 nd.fuse) (.int .i64 nd.ops) (.bool nd.dead))
        have HJ := Lib.hid (HJ.out.sets_ne (c := w1.heap.size) (by omega) (.slice b1 nd.S.length c1) (.slice b2 nd.P.length c3) (.int .i64 nd.fuse) (.int .i64 nd.ops) (.bool nd.dead))
        have HC := Lib.hid (HC.out.sets_ne (c := w1.heap.size) (by omega) (.slice b1 nd.S.length c1) (.slice b2 nd.P.length c3) (.int .i64 nd.fuse) (.int .i64 nd.ops) (.bool nd.dead))
        have HX := Lib.hid (HX.out.sets_ne (c := w1.heap.size) (by omega) (.slice b1 nd.S.length c1) (.slice b2 nd.P.length c3) (.int .i64 nd.fuse) (.int .i64 nd.ops) (.bool nd.dead))
        have HK := Lib.hid (HK.out.sets_ne (c := w1.heap.size) (by omega) (.slice b1 nd.S.length c1) (.slice b2 nd.P.length c3) (.int .i64 nd.fuse) (.int .i64 nd.ops) (.bool nd.dead))
        have HA := Lib.hid (HA.out.sets_ne (c := w1.heap.size) (by omega) (.slice b1 nd.S.length c1) (.slice b2 nd.P.length c3) (.int .i64 nd.fuse) (.int .i64 nd.ops) (.bool nd.dead))
        have HNJ := Lib.hid (HNJ.out.sets_ne (c := w1.heap.size) (by omega) (.slice b1 nd.S.length c1) (.slice b2 nd.P.length c3) (.int .i64 nd.fuse) (.int .i64 nd.ops) (.bool nd.dead))
        have HD := Lib.hid (HD.out.sets (.slice b1 nd.S.length c1) (.slice b2 nd.P.length c3) (.int .i64 nd.fuse) (.int .i64 nd.ops) (.bool nd.dead)); have HB := Lib.hid (below_sets HB.out w1.heap.size (by omega) (.slice b1 nd.S.length c1) (.slice b2 nd.P.length c3) (.int .i64 nd.fuse) (.int .i64 nd.ops) (.bool nd.dead))
        generalize hW : (((((v8.setCell ⟨w1.heap.size, 0, none⟩ (.slice b1 nd.S.length c1)).setCell ⟨w1.heap.size, 1, none⟩ (.slice b2 nd.P.length c3)).setCell ⟨w1.heap.size, 2, none⟩ (.int .i64 nd.fuse)).setCell ⟨w1.heap.size, 3, none⟩ (.int .i64 nd.ops)).setCell ⟨w1.heap.size, 4, none⟩ (.bool nd.dead)) = v9 at HLC HLX HLN HJ HC HX HK HA HNJ HD HB ⊢
        clear hW
        clear n0 n1 n2 n3 n4
        have n0 : v9.cell? ⟨v3.heap.size, 0, none⟩ = some (.string (bs c.image)) := HC.out.cell 0
        have n1 : v9.cell? ⟨v3.heap.size, 1, none⟩ = some (.int .i64 c.pos) := HC.out.cell 1
        have n2 : v9.cell? ⟨v3.heap.size, 2, none⟩ = some (.slice va c.recs.length vc) := HC.out.cell 2
        have r0 : v9.cell? ⟨v5.heap.size, 0, none⟩ = some (.string (bs c2.image)) := HX.out.cell 0
        have r1 : v9.cell? ⟨v5.heap.size, 1, none⟩ = some (.int .i64 c2.pos) := HX.out.cell 1
        have r2 : v9.cell? ⟨v5.heap.size, 2, none⟩ = some (.slice vb c2.recs.length ve) := HX.out.cell 2
        have f0 := HX.out.free 0
        have f1 := HX.out.free 1
        have f2 := HX.out.free 2
        go_upto_region 17 with (fail)
        clear r0 r1 r2
        clear f0 f1 f2
        have HLC := Lib.hid (HLC.out.kpo (KpB.sets3 v5.heap.size v9 (.string (bs c.image)) (.int .i64 c.pos) (.slice va c.recs.length vc)) OF2.out)
        have HLN := Lib.hid (HLN.out.kpc HX.out (KpB.sets3 v5.heap.size v9 (.string (bs c.image)) (.int .i64 c.pos) (.slice va c.recs.length vc)) (by omega))
        have HD := Lib.hid (HD.out.sets3_ne (c := v5.heap.size) (by omega) (.string (bs c.image)) (.int .i64 c.pos) (.slice va c.recs.length vc))
        have HJ := Lib.hid (HJ.out.sets3_ne (c := v5.heap.size) (by omega) (.string (bs c.image)) (.int .i64 c.pos) (.slice va c.recs.length vc))
        have HC := Lib.hid (HC.out.sets3_ne (c := v5.heap.size) (by omega) (.string (bs c.image)) (.int .i64 c.pos) (.slice va c.recs.length vc))
        have HK := Lib.hid (HK.out.sets3_ne (c := v5.heap.size) (by omega) (.string (bs c.image)) (.int .i64 c.pos) (.slice va c.recs.length vc))
        have HA := Lib.hid (HA.out.sets3_ne (c := v5.heap.size) (by omega) (.string (bs c.image)) (.int .i64 c.pos) (.slice va c.recs.length vc))
        have HNJ := Lib.hid (HNJ.out.sets3_ne (c := v5.heap.size) (by omega) (.string (bs c.image)) (.int .i64 c.pos) (.slice va c.recs.length vc))
        have HX := Lib.hid (HX.out.sets3 (.string (bs c.image)) (.int .i64 c.pos) (.slice va c.recs.length vc)); have HB := Lib.hid (below_sets3 HB.out v5.heap.size (by omega) (.string (bs c.image)) (.int .i64 c.pos) (.slice va c.recs.length vc))
        generalize hW : (((v9.setCell ⟨v5.heap.size, 0, none⟩ (.string (bs c.image))).setCell ⟨v5.heap.size, 1, none⟩ (.int .i64 c.pos)).setCell ⟨v5.heap.size, 2, none⟩ (.slice va c.recs.length vc)) = v10 at HLC HLN HD HJ HC HK HA HNJ HX HB ⊢
        clear hW
        clear n0 n1 n2
        clear HLX HN
        go_upto_region 18 with (fail)
        have z0 : v10.cell? ⟨v3.heap.size, 0, none⟩ = some (.string (bs c.image)) := HC.out.cell 0
        have z1 : v10.cell? ⟨v3.heap.size, 1, none⟩ = some (.int .i64 c.pos) := HC.out.cell 1
        have z2 : v10.cell? ⟨v3.heap.size, 2, none⟩ = some (.slice va c.recs.length vc) := HC.out.cell 2
        have t0 : v10.cell? ⟨ab, 0, none⟩ = some (.int .i64 x.k) := HA.out.cell 0
        have t1 : v10.cell? ⟨ab, 1, none⟩ = some (.string (bs x.l)) := HA.out.cell 1
        have t2 : v10.cell? ⟨ab, 2, none⟩ = some (.int .i64 x.p) := HA.out.cell 2
        go_wp2_with fail
        refine (after_any va vc c x.k x.l x.p _ HLC.out (by omega)).mono ?_
        rw [HCN.out]
        rintro er w12 ⟨g1, g2, rfl, hSN, hof, hb1⟩
        clear z0 z1 z2
        clear t0 t1 t2
        have hof1 : Off v3.heap.size g1 ∧ Off v5.heap.size g1 := by
          rcases hof with h | h
          · rw [h]; exact ⟨OF1.out, OF2.out⟩
          · have h2 := HC.out.lt; have h3 := HX.out.lt; exact ⟨fun q hq => by have h1 := h q hq; omega, fun q hq => by have h1 := h q hq; omega⟩
        have OG1 := Lib.hid hof1.1; have OG2 := Lib.hid hof1.2; have HSN := Lib.hid hSN; clear hof hof1 hSN
        have HD := Lib.hid (HD.out.call hb1)
        have HJ := Lib.hid (HJ.out.call hb1)
        have HC := Lib.hid (HC.out.call hb1)
        have HX := Lib.hid (HX.out.call hb1)
        have HK := Lib.hid (HK.out.call hb1)
        have HLN := Lib.hid (HLN.out.below hb1)
        have HLC := Lib.hid (HLC.out.below hb1)
        have HB := Lib.hid (btrans HB.out HB.out.size hb1); clear hb1
        have r0 : w12.cell? ⟨v5.heap.size, 0, none⟩ = some (.string (bs c.image)) := HX.out.cell 0
        have r1 : w12.cell? ⟨v5.heap.size, 1, none⟩ = some (.int .i64 c.pos) := HX.out.cell 1
        have r2 : w12.cell? ⟨v5.heap.size, 2, none⟩ = some (.slice va c.recs.length vc) := HX.out.cell 2
        have f0 := HX.out.free 0
        have f1 := HX.out.free 1
        have f2 := HX.out.free 2
        go_upto_region 19 with (fail)
        clear r0 r1 r2
        clear f0 f1 f2
        have HSN := Lib.hid (HSN.out.kpo (KpB.sets3 v5.heap.size w12 (.string (bs c'.image)) (.int .i64 c'.pos) (.slice g1 c'.recs.length g2)) OG2.out)
        have HLC := Lib.hid (HLC.out.kpo (KpB.sets3 v5.heap.size w12 (.string (bs c'.image)) (.int .i64 c'.pos) (.slice g1 c'.recs.length g2)) OF2.out)
        have HLN := Lib.hid (HLN.out.kpc HX.out (KpB.sets3 v5.heap.size w12 (.string (bs c'.image)) (.int .i64 c'.pos) (.slice g1 c'.recs.length g2)) (by omega))
        have HD := Lib.hid (HD.out.sets3_ne (c := v5.heap.size) (by omega) (.string (bs c'.image)) (.int .i64 c'.pos) (.slice g1 c'.recs.length g2))
        have HJ := Lib.hid (HJ.out.sets3_ne (c := v5.heap.size) (by omega) (.string (bs c'.image)) (.int .i64 c'.pos) (.slice g1 c'.recs.length g2))
        have HC := Lib.hid (HC.out.sets3_ne (c := v5.heap.size) (by omega) (.string (bs c'.image)) (.int .i64 c'.pos) (.slice g1 c'.recs.length g2))
        have HK := Lib.hid (HK.out.sets3_ne (c := v5.heap.size) (by omega) (.string (bs c'.image)) (.int .i64 c'.pos) (.slice g1 c'.recs.length g2))
        have HX := Lib.hid (HX.out.sets3 (.string (bs c'.image)) (.int .i64 c'.pos) (.slice g1 c'.recs.length g2)); have HB := Lib.hid (below_sets3 HB.out v5.heap.size (by omega) (.string (bs c'.image)) (.int .i64 c'.pos) (.slice g1 c'.recs.length g2))
        generalize hW : (((w12.setCell ⟨v5.heap.size, 0, none⟩ (.string (bs c'.image))).setCell ⟨v5.heap.size, 1, none⟩ (.int .i64 c'.pos)).setCell ⟨v5.heap.size, 2, none⟩ (.slice g1 c'.recs.length g2)) = v12 at HSN HLC HLN HD HJ HC HK HX HB ⊢
        clear hW
        go_wp2
        go_roundw
        case rel => exact ⟨k + 1, nd, j, c, c', b1, c1, b2, c3, va, vc, g1, g2, by omega, by go_num, HSTN.out, HD.out, HJ.out, HC.out, HX.out, HK.out, HLN.out, HLC.out, HSN.out, OF1.out, OF2.out, OG1.out, OG2.out, HB.out⟩
        case measure => simp [intOf]; omega
end Go.Proofs.Ytkpfkknldeafkaa
namespace Go.Proofs.Ytkpfkknldeafkaa
open Go.ChangeShapes Go.WideShapes Go.ChangeAt Go.RowKit

section
variable {H : Type} {enc : TypeId × Value → H} {W : World} {base : Nat} {spare : Nat → Bool} {held : Bool}
theorem trod_bos {fuel : Nat} {cs : List Value} {x : DataW H × List MemPlace} (h : DataW.trod enc Try.prog W base spare held fuel 50 cs = some x) :
    ∃ (a : Option Addr) (c : Nat) (kb : List Bool), cs = [.slice a kb.length c] ∧ BoS W.heap.size W (.slice a kb.length c) kb := by
  rcases Deep.open_slice Try.underlying50 h with ⟨hcs, _⟩ | ⟨a, len0, cap0, m, n, D, Pl, hcs, _, hl, _, hm, hx, hi⟩
  · exact ⟨none, 0, [], hcs, ⟨none, 0, rfl, Nat.le_refl _, fun hne => absurd rfl hne⟩⟩
  · have hlm : len0 ≤ m := by rw [hm]; split <;> omega
    have hel : ∀ i, i < len0 → ∃ q : Bool, W.cell? (a.add i) = some (.bool q) := by
      intro i hil
      obtain ⟨cs', hc, ht⟩ := hi i (by omega)
      rw [show Try.prog.cellsOf 4 = 1 by kernel_rfl] at hc
      obtain ⟨q, rfl, _⟩ := DataW.trod_bool Try.underlying4 ht
      obtain ⟨_, _, hat⟩ := World.cells?_some hc
      have h0 := hat 0 (by decide)
      rw [Nat.mul_one] at h0
      have : (a.add i).add 0 = a.add i := by unfold Addr.add; split <;> simp_all
      rw [this] at h0
      exact ⟨q, h0⟩
    obtain ⟨F, hF⟩ : ∃ F : Nat → Bool, ∀ i, i < len0 → W.cell? (a.add i) = some (.bool (F i)) :=
      ⟨fun i => if h : i < len0 then (hel i h).choose else false, fun i h => by simp only [dif_pos h]; exact (hel i h).choose_spec⟩
    have hML : ((List.range len0).map F).length = len0 := by simp
    refine ⟨some a, cap0, (List.range len0).map F, by rw [hML]; exact hcs, ⟨some a, cap0, rfl, by rw [hML]; exact hl, fun hne => ?_⟩⟩
    have h0 : 0 < len0 := by
      rcases Nat.eq_zero_or_pos len0 with h | h
      · subst h; simp at hne
      · exact h
    obtain ⟨b, off, spot⟩ := a
    have hspot : spot = none := by simpa [Addr.add] using World.cell?_spot (hF 0 h0)
    subst hspot
    refine ⟨b, off, rfl, ?_, fun i hi2 => ?_⟩
    · have := hF 0 h0
      rw [addr_add] at this
      exact World.block_lt_of_cell? W _ this
    · rw [hML] at hi2
      have := hF i hi2
      rw [addr_add] at this
      simp only [List.getElem_map, List.getElem_range]
      exact this
set_option maxRecDepth 100000 in
theorem open_crash47 {r : Reach} {b0 : Nat} {v : Value} {d : DataW H} {p : List MemPlace} (hv : Value.okWide Try.prog W r b0 79 v) (h : DataW.Trod enc Try.prog W base spare held 79 v d p) :
    ∃ (fu : Int) (ka : Option Addr) (kc : Nat) (kb : List Bool) (te : Int), v = .agg #[.int .i64 fu, .slice ka kb.length kc, .int .i64 te] ∧ BoS W.heap.size W (.slice ka kb.length kc) kb := by
  obtain ⟨cs, rfl, hsz⟩ := okWide_struct Try.underlying79 hv
  obtain ⟨l⟩ := cs
  have hC : Try.prog.cellsOf 79 = 3 := by kernel_rfl
  match l, hsz.trans hC with
  | [u0, u1, u2], _ =>
    obtain ⟨fuel, hf⟩ := h
    obtain ⟨ys, n, _, hx, _, hyl, hg⟩ := DataW.trod_struct Try.underlying79 hf
    match ys, hyl with
    | [y0, y1, y2], _ =>
      have g0 : DataW.trod enc Try.prog W base spare held n 3 (([u0, u1, u2].drop 0).take (Try.prog.cellsOf 3)) = some y0 := hg 0 _ rfl
      have g1 : DataW.trod enc Try.prog W base spare held n 50 (([u0, u1, u2].drop 1).take (Try.prog.cellsOf 50)) = some y1 := hg 1 _ rfl
      have g2 : DataW.trod enc Try.prog W base spare held n 3 (([u0, u1, u2].drop 2).take (Try.prog.cellsOf 3)) = some y2 := hg 2 _ rfl
      have c2 : Try.prog.cellsOf 50 = 1 := by kernel_rfl
      have c3 : Try.prog.cellsOf 3 = 1 := by kernel_rfl
      rw [c3] at g0 g2
      rw [c2] at g1
      obtain ⟨fu, e0, _⟩ := DataW.trod_int Try.underlying3 g0
      obtain ⟨ka, kc, kb, e1, hB⟩ := trod_bos g1
      obtain ⟨te, e2, _⟩ := DataW.trod_int Try.underlying3 g2
      simp at e0 e1 e2
      subst e0 e1 e2
      exact ⟨fu, ka, kc, kb, te, rfl, hB⟩
end
theorem survivesLaw (a : Int) (wa : (Lit.int .u8 a).wf = true) (aa : Option Addr) (ac : Nat) (M : List Ac) {w0 : World} (hM : AcS w0 (.slice aa M.length ac) M) (hMs : ∀ q ∈ M, q.l.length ≤ 140737488351232) (hMl : M.length ≤ 1048576)
    (fu : Int) (ka : Option Addr) (kc : Nat) (kb : List Bool) (te : Int) (hB : BoS w0.heap.size w0 (.slice ka kb.length kc) kb) (w : World) (hw : w0 = w := by rfl) :
    Calls Try.prog 15 #[.int .u8 a, .slice aa M.length ac, .agg #[.int .i64 fu, .slice ka kb.length kc, .int .i64 te]] w fun e w' => e = .returned (.bool true) ∧ Below w.heap.size w w' := by
  subst hw
  have hs : 0 ≤ a ∧ a < 256 := by
    have h1 : IntKind.u8.min = 0 := by decide
    have h2 : IntKind.u8.max = 255 := by decide
    simp only [Lit.wf, Bool.and_eq_true, decide_eq_true_eq, h1, h2] at wa; omega
  obtain ⟨n, rfl⟩ : ∃ n : Nat, a = n := ⟨a.toNat, by omega⟩
  exact survivesWalk n (by omega) aa ac M fu ka kc kb te w0 hM hMl hMs hB
end Go.Proofs.Ytkpfkknldeafkaa
