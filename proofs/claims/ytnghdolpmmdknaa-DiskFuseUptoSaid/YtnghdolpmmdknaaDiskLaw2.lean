/- The walk of DiskReads. No conditions. -/
import Derived.Test.YtnghdolpmmdknaaDiskGood
import Derived.Test.YtnghdolpmmdknaaBytes
import Derived.Deep.Cut
import Derived.Deep.CutRange
import Derived.Deep.DeepCutAuto
namespace Go.Proofs.Ytnghdolpmmdknaa
open Go.RowKit

/-- v is a slice whose elements are the operations M -/
def OpS (W : World) (v : Value) (M : List (Int × UInt8)) : Prop :=
  ∃ a cap, v = .slice a M.length cap ∧ M.length ≤ cap ∧ (M ≠ [] → ∃ b off, a = some ⟨b, off, none⟩ ∧ ∀ i (h : i < M.length), W.cell? ⟨b, off + i * 2, none⟩ = some (.int .i64 M[i].1) ∧ W.cell? ⟨b, off + i * 2 + 1, none⟩ = some (.int .u8 (M[i].2.toNat : Int)))
theorem OpS.at {W : World} {a : Option Addr} {c : Nat} {M : List (Int × UInt8)} (h : OpS W (.slice a M.length c) M) (k : Nat) (hk : k < M.length) :
    ∃ b off, a = some ⟨b, off, none⟩ ∧ M.length ≤ c ∧ W.cell? ⟨b, off + k * 2, none⟩ = some (.int .i64 M[k].1) ∧ W.cell? ⟨b, off + k * 2 + 1, none⟩ = some (.int .u8 (M[k].2.toNat : Int)) := by
  obtain ⟨a', cap, he, hc, hx⟩ := h
  cases he
  obtain ⟨b, off, rfl, hcell⟩ := hx (by intro h0; rw [h0] at hk; simp at hk)
  exact ⟨b, off, rfl, hc, hcell k hk⟩
theorem OpS.below {W W' : World} {v : Value} {M : List (Int × UInt8)} (h : OpS W v M) (hb : Below W.heap.size W W') : OpS W' v M := by
  obtain ⟨a, cap, rfl, hc, hM⟩ := h
  refine ⟨a, cap, rfl, hc, fun hne => ?_⟩
  obtain ⟨b, off, rfl, hcell⟩ := hM hne
  refine ⟨b, off, rfl, fun i hi => ?_⟩
  exact ⟨cell1_below (hcell i hi).1 hb, cell1_below (hcell i hi).2 hb⟩

/-- a disk in rows of the call's own, in none of two blocks -/
def OwnN (x y : Nat) (d : Dk) (w : World) (vs vp : Value) : Prop := (∃ B, Owned B d w vs vp) ∧ vs.ownBlock ≠ some x ∧ vs.ownBlock ≠ some y ∧ vp.ownBlock ≠ some x ∧ vp.ownBlock ≠ some y
theorem OwnN.of_owned {B x y : Nat} {d : Dk} {w : World} {vs vp : Value} (h : Owned B d w vs vp) (hx : x < B) (hy : y < B) : OwnN x y d w vs vp := by
  obtain ⟨B1, h1, h2, h3, h4, h5⟩ := h
  refine ⟨⟨B, B1, h1, h2, h3, h4, h5⟩, ?_, ?_, ?_, ?_⟩
  · intro e; have := (h3.lt _ e).1; omega
  · intro e; have := (h3.lt _ e).1; omega
  · intro e; have := (h4.lt _ e).1; omega
  · intro e; have := (h4.lt _ e).1; omega
theorem OwnN.of_new {B x y : Nat} {d : Dk} {w : World} {vs vp : Value} (h : Owned B d w vs vp) (hx : w.heap.size ≤ x) (hy : w.heap.size ≤ y) : OwnN x y d w vs vp := by
  obtain ⟨B1, h1, h2, h3, h4, h5⟩ := h
  refine ⟨⟨B, B1, h1, h2, h3, h4, h5⟩, ?_, ?_, ?_, ?_⟩
  · intro e; have := (h3.lt _ e).2; omega
  · intro e; have := (h3.lt _ e).2; omega
  · intro e; have := (h4.lt _ e).2; omega
  · intro e; have := (h4.lt _ e).2; omega
theorem OwnN.call {x y : Nat} {d : Dk} {w w' : World} {vs vp : Value} (h : OwnN x y d w vs vp) (hb : Below w.heap.size w w') : OwnN x y d w' vs vp := by
  obtain ⟨⟨B, h1⟩, h2⟩ := h
  exact ⟨⟨B, h1.call hb⟩, h2⟩
theorem OwnN.set {x y : Nat} {d : Dk} {w : World} {vs vp : Value} (h : OwnN x y d w vs vp) (b i : Nat) (hb : b = x ∨ b = y) (u : Value) : OwnN x y d (w.setCell ⟨b, i, none⟩ u) vs vp := by
  obtain ⟨⟨B, B1, h1, h2, h3, h4, h5⟩, g1, g2, g3, g4⟩ := h
  refine ⟨⟨B, B1, h1, h2, own_set2 h3 b i ?_ u, own_set2 h4 b i ?_ u, by simpa using h5⟩, g1, g2, g3, g4⟩
  · rcases hb with rfl | rfl
    · exact g1
    · exact g2
  · rcases hb with rfl | rfl
    · exact g3
    · exact g4
theorem OwnN.sets {x y : Nat} {d : Dk} {w : World} {vs vp : Value} (h : OwnN x y d w vs vp) (b : Nat) (hb : b = x ∨ b = y) (u0 u1 u2 u3 u4 : Value) :
    OwnN x y d (((((w.setCell ⟨b, 0, none⟩ u0).setCell ⟨b, 1, none⟩ u1).setCell ⟨b, 2, none⟩ u2).setCell ⟨b, 3, none⟩ u3).setCell ⟨b, 4, none⟩ u4) vs vp :=
  ((((h.set b 0 hb u0).set b 1 hb u1).set b 2 hb u2).set b 3 hb u3).set b 4 hb u4
theorem OwnN.lists {x y : Nat} {d : Dk} {w : World} {sa pa : Option Addr} {sc pc : Nat} (h : OwnN x y d w (.slice sa d.S.length sc) (.slice pa d.P.length pc)) (hp : d.P.length ≤ 8999999999999) (hs : d.S.length ≤ 16) : Lists w sa sc pa pc d := by
  obtain ⟨⟨B, h1⟩, _⟩ := h
  exact h1.lists (by omega) (by omega)

def wantA (l : List UInt8) : Array Value := (bcs l).toArray
theorem wantA_get (l : List UInt8) (k : Nat) (h : k < l.length) : (wantA l)[k]? = some (.int .u8 ((l.getD k 0).toNat : Int)) := by
  unfold wantA
  rw [List.getElem?_toArray, bcs_get, List.getElem?_eq_getElem h, List.getD_eq_getElem?_getD, List.getElem?_eq_getElem h]; rfl
theorem wantA_set (l : List UInt8) (k : Nat) (c : UInt8) : (wantA l).setIfInBounds k (.int .u8 (c.toNat : Int)) = wantA (l.set k c) := by
  unfold wantA bcs
  rw [List.setIfInBounds_toArray, List.map_set]
theorem wantA_zero : madeCells #[.int .u8 0] 16 = wantA (List.replicate 16 0) := by
  rw [← Array.toList_inj, toList_madeCells_one]; rfl
theorem infoU8 : (Try.prog.info? 5).map (fun i => (i.zero, i.size, i.bytes)) = some (some (.int .u8 0), 1, 1) := by kernel_rfl

set_option maxRecDepth 100000 in
set_option maxHeartbeats 16000000 in
theorem readsWalk (oa ka : Option Addr) (oc kc : Nat) (M : List (Int × UInt8)) (kb : List Bool) (tear : Int) (w : World) (hM : OpS w (.slice oa M.length oc) M) (hMl : M.length ≤ 8796093022208) (hS : BoS w.heap.size w (.slice ka kb.length kc) kb) :
    Calls Try.prog 14 #[.slice oa M.length oc, .slice ka kb.length kc, .int .i64 tear] w fun e w' => e = .returned (.bool true) ∧ Below w.heap.size w w' := by
  obtain ⟨d0, hd0⟩ : ∃ d, d = d16 := ⟨_, rfl⟩
  have hG0 : Good d0 (List.replicate 16 0) := by rw [hd0]; exact good_start
  have hp0 : d0.P.length = 0 := by rw [hd0]; rfl
  have E2 := Lib.hid (show newS 16 = (d0, 0) by rw [hd0]; exact ex2)
  clear hd0
  have HM := Lib.hid hM; have HS := Lib.hid hS; have HG := Lib.hid hG0; have HP0 := Lib.hid hp0; clear hM hS hG0 hp0
  obtain ⟨i0, hi, hz0, hz1, hz2⟩ := info_parts infoU8
  have hmk : ∀ w, (Instr.makeSlice 67 (.int .i64 16) (.int .i64 16)).run Try.prog w = .ok (.slice (some ⟨w.heap.size, 0, none⟩) 16 16) (w.alloc (.cells (madeCells #[.int .u8 0] 16) 5)) := by
    intro w
    have h := run_make (P := Try.prog) w 67 5 i0 (.int .u8 0) Try.underlying67 hi hz0 .i64 .i64 16 16 (by omega) (by omega) (by rw [hz2]; omega) (by omega)
    simpa [hz1, Value.cells] using h
  rw [wantA_zero] at hmk
  clear hi hz0 hz1 hz2
  go_enter Try.func14, Try.ntmps14
  go_wp2_with fail
  refine (New_any 16 _).mono ?_
  rw [E2.out]
  rintro e w1 ⟨a1, c1, a2, c2, rfl, hO1, hb1⟩
  have hbB := (hb1.alloc hb1.size (.cells #[.slice a1 d0.S.length c1, .slice a2 d0.P.length c2, .int .i64 d0.fuse, .int .i64 d0.ops, .bool d0.dead] 47)).alloc (by simp; have := hb1.size; omega) (.cells (wantA (List.replicate 16 0)) 5)
  have hXD := (Bx.new w1 #[.slice a1 d0.S.length c1, .slice a2 d0.P.length c2, .int .i64 d0.fuse, .int .i64 d0.ops, .bool d0.dead] 47).alloc (.cells (wantA (List.replicate 16 0)) 5)
  have hXW := Bx.new (w1.alloc (.cells #[.slice a1 d0.S.length c1, .slice a2 d0.P.length c2, .int .i64 d0.fuse, .int .i64 d0.ops, .bool d0.dead] 47)) (wantA (List.replicate 16 0)) 5
  rw [World.size_alloc] at hXW
  have hON := (OwnN.of_new (x := w1.heap.size) (y := w1.heap.size + 1) hO1 (Nat.le_refl _) (by omega)).call ((((Below.refl _ _).alloc (Nat.le_refl _) (.cells #[.slice a1 d0.S.length c1, .slice a2 d0.P.length c2, .int .i64 d0.fuse, .int .i64 d0.ops, .bool d0.dead] 47))).alloc (by simp) (.cells (wantA (List.replicate 16 0)) 5))
  have hsz1 := hb1.size
  clear hO1 hb1
  go_wp2
  go_loopw [10] (fun i wr => ∃ (k : Nat) (d : Dk) (want : List UInt8) (a : Option Addr) (c : Nat) (a' : Option Addr) (c' : Nat), k ≤ M.length ∧ i = .int .i64 k ∧ Good d want ∧ d.P.length ≤ k ∧ Bx w1.heap.size #[.slice a d.S.length c, .slice a' d.P.length c', .int .i64 d.fuse, .int .i64 d.ops, .bool d.dead] 47 wr ∧ Bx (w1.heap.size + 1) (wantA want) 5 wr ∧ OwnN w1.heap.size (w1.heap.size + 1) d wr (.slice a d.S.length c) (.slice a' d.P.length c') ∧ w1.heap.size + 2 ≤ wr.heap.size ∧ Below w.heap.size w wr) (fun i _ => M.length - (intOf i).toNat)
  case atStart => exact ⟨0, d0, _, _, _, _, _, Nat.zero_le _, rfl, HG.out, by rw [HP0.out]; exact Nat.le_refl _, hXD, hXW, hON, by simp, hbB⟩
  case round =>
    obtain ⟨k, d, want, a, c', a', c'', hk, rfl, hG, hpk, hXDr, hXWr, hOr, hszr, hbr⟩ := hrel
    clear hXD hXW hON hbB
    by_cases hlt : k < M.length
    · have hlt' : (k : Int) < (M.length : Int) := by omega
      obtain ⟨ob, ooff, rfl, hoc, p1, p2⟩ := (HM.out.below (hbr.mono (Nat.le_refl _))).at k hlt
      have hob1 : ob < w.heap.size := by
        obtain ⟨b2, o2, h2, _, q1, _⟩ := HM.out.at k hlt
        cases h2
        exact World.block_lt_of_cell? w _ q1
      obtain ⟨n, hn⟩ : ∃ n, M[k].1 = n := ⟨_, rfl⟩
      obtain ⟨c, hc⟩ : ∃ c, M[k].2 = c := ⟨_, rfl⟩
      rw [hn] at p1
      rw [hc] at p2
      have HN := Lib.hid hn; have HCC := Lib.hid hc; clear hn hc
      have hc0 : (0 : Int) ≤ (c.toNat : Int) := by omega
      have hc1 : (c.toNat : Int) < 256 := by have := c.toNat_lt; omega
      have hpl : d.P.length ≤ 8999999999999 := by omega
      have hsl : d.S.length ≤ 16 := by rw [hG.n]; exact Nat.le_refl _
      have HLW := Lib.hid (hOr.lists hpl hsl)
      obtain ⟨⟨d2, er⟩, hq⟩ : ∃ q, doS d n (byt (c.toNat : Int)) = q := ⟨_, rfl⟩
      have HQ := Lib.hid hq; clear hq
      have x0 : wr.cell? ⟨w1.heap.size, 0, none⟩ = some (.slice a d.S.length c') := hXDr.cell 0
      have x1 : wr.cell? ⟨w1.heap.size, 1, none⟩ = some (.slice a' d.P.length c'') := hXDr.cell 1
      have x2 : wr.cell? ⟨w1.heap.size, 2, none⟩ = some (.int .i64 d.fuse) := hXDr.cell 2
      have x3 : wr.cell? ⟨w1.heap.size, 3, none⟩ = some (.int .i64 d.ops) := hXDr.cell 3
      have x4 : wr.cell? ⟨w1.heap.size, 4, none⟩ = some (.bool d.dead) := hXDr.cell 4
      have HXD := Lib.hid hXDr; have HXW := Lib.hid hXWr; have HOR := Lib.hid hOr; have HBR := Lib.hid hbr; have HGD := Lib.hid hG; clear hXDr hXWr hOr hbr hG
      go_wp2_with fail
      have hs0 : wr.drew.cell? ⟨w1.heap.size, 0, none⟩ = some (.slice a d.S.length c') ∧ wr.drew.cell? ⟨w1.heap.size, 1, none⟩ = some (.slice a' d.P.length c'') ∧ wr.drew.cell? ⟨w1.heap.size, 2, none⟩ = some (.int .i64 d.fuse) ∧ wr.drew.cell? ⟨w1.heap.size, 3, none⟩ = some (.int .i64 d.ops) ∧ wr.drew.cell? ⟨w1.heap.size, 4, none⟩ = some (.bool d.dead) ∧ wr.drew.cell? ⟨ob, ooff + k * 2, none⟩ = some (.int .i64 n) ∧ wr.drew.cell? ⟨ob, ooff + k * 2 + 1, none⟩ = some (.int .u8 (c.toNat : Int)) := ⟨x0, x1, x2, x3, x4, p1, p2⟩
      go_cut [11, 12] from 28 to 77 (fun s11 s12 W => ∃ b a5 c5 a6 c6, s11 = .pointer (some ⟨b, 0, none⟩) ∧ s12 = .int .i64 er ∧ Bx b #[.slice a5 d2.S.length c5, .slice a6 d2.P.length c6, .int .i64 d2.fuse, .int .i64 d2.ops, .bool d2.dead] 47 W ∧ OwnN (w1.heap.size) (w1.heap.size + 1) d2 W (.slice a5 d2.S.length c5) (.slice a6 d2.P.length c6) ∧ wr.heap.size ≤ b ∧ Below wr.heap.size wr W)
      case first =>
        refine wp_region_held_drew (S := (fun w' => w'.cell? ⟨w1.heap.size, 0, none⟩ = some (.slice a d.S.length c') ∧ w'.cell? ⟨w1.heap.size, 1, none⟩ = some (.slice a' d.P.length c'') ∧ w'.cell? ⟨w1.heap.size, 2, none⟩ = some (.int .i64 d.fuse) ∧ w'.cell? ⟨w1.heap.size, 3, none⟩ = some (.int .i64 d.ops) ∧ w'.cell? ⟨w1.heap.size, 4, none⟩ = some (.bool d.dead) ∧ w'.cell? ⟨ob, ooff + k * 2, none⟩ = some (.int .i64 n) ∧ w'.cell? ⟨ob, ooff + k * 2 + 1, none⟩ = some (.int .u8 (c.toNat : Int)))) (by kernel_rfl) ?_ (fun hHeld => ?_)
        · exact hs0
        refine takeH (i := 0) (v := ?vv1) 35 rfl rfl (by kernel_rfl) (by kernel_rfl) (by kernel_rfl) (fun _ _ _ h => h) (Or.inl ⟨by kernel_rfl, ?yy1⟩) (by assumption) ?_
        case yy1 => intro w hSw; (try dsimp only at hSw); go_simp; (try with_reducible rfl)
        simp only [List.setIfInBounds_toArray, List.set_cons_zero, List.set_cons_succ]
        refine takeH (i := 1) (v := ?vv2) 36 rfl rfl (by kernel_rfl) (by kernel_rfl) (by kernel_rfl) (fun _ _ _ h => h) (Or.inl ⟨by kernel_rfl, ?yy2⟩) (by assumption) ?_
        case yy2 => intro w hSw; (try dsimp only at hSw); go_simp; (try with_reducible rfl)
        simp only [List.setIfInBounds_toArray, List.set_cons_zero, List.set_cons_succ]
        refine takeH (i := 2) (v := ?vv3) 37 rfl rfl (by kernel_rfl) (by kernel_rfl) (by kernel_rfl) (fun _ _ _ h => h) (Or.inl ⟨by kernel_rfl, ?yy3⟩) (by assumption) ?_
        case yy3 => intro w hSw; (try dsimp only at hSw); go_simp; (try with_reducible rfl)
        simp only [List.setIfInBounds_toArray, List.set_cons_zero, List.set_cons_succ]
        refine takeH (i := 3) (v := ?vv4) 38 rfl rfl (by kernel_rfl) (by kernel_rfl) (by kernel_rfl) (fun _ _ _ h => h) (Or.inl ⟨by kernel_rfl, ?yy4⟩) (by assumption) ?_
        case yy4 => intro w hSw; (try dsimp only at hSw); go_simp; (try with_reducible rfl)
        simp only [List.setIfInBounds_toArray, List.set_cons_zero, List.set_cons_succ]
        refine takeH (i := 4) (v := ?vv5) 39 rfl rfl (by kernel_rfl) (by kernel_rfl) (by kernel_rfl) (fun _ _ _ h => h) (Or.inl ⟨by kernel_rfl, ?yy5⟩) (by assumption) ?_
        case yy5 => intro w hSw; (try dsimp only at hSw); go_simp; (try with_reducible rfl)
        simp only [List.setIfInBounds_toArray, List.set_cons_zero, List.set_cons_succ]
        refine wpAnyH_ready (rs := [5, 9]) (by kernel_rfl) (by simp) ?_
        refine (AllReadyH.cons rfl (fun K hK => ?_) (AllReadyH.cons rfl (fun K hK => ?_) AllReadyH.nil))
        · skip
          go_simp
          (refine (do_any _ _ _ _ d n (c.toNat : Int) hc0 hc1 _ (HLW.out.below (Below.refl wr.heap.size wr).drew) hpl).mono ?_; rw [HQ.out]; rintro e w4 ⟨a5, c5, a6, c6, rfl, hO4, hb4⟩)
          (try go_wp2_with fail)
          refine hK.out _ _ ?_ (fun hHeld => ?_)
          · exact cells7_below hHeld hb4
          clear hK K
          (try simp only [Act.put, List.setIfInBounds_toArray, List.set_cons_zero, List.set_cons_succ])
          refine takeH (i := 6) (v := ?vv6) 34 rfl rfl (by kernel_rfl) (by kernel_rfl) (by kernel_rfl) (fun _ _ _ h => h) (Or.inl ⟨by kernel_rfl, ?yy6⟩) (by assumption) ?_
          case yy6 => intro w hSw; (try dsimp only at hSw); go_simp; (try with_reducible rfl)
          simp only [List.setIfInBounds_toArray, List.set_cons_zero, List.set_cons_succ]
          refine takeH (i := 7) (v := ?vv7) 41 rfl rfl (by kernel_rfl) (by kernel_rfl) (by kernel_rfl) (fun _ _ _ h => h) (Or.inl ⟨by kernel_rfl, ?yy7⟩) (by assumption) ?_
          case yy7 => intro w hSw; (try dsimp only at hSw); go_simp; (try with_reducible rfl)
          simp only [List.setIfInBounds_toArray, List.set_cons_zero, List.set_cons_succ]
          refine takeH (i := 8) (v := ?vv8) 42 rfl rfl (by kernel_rfl) (by kernel_rfl) (by kernel_rfl) (fun _ _ _ h => h) (Or.inl ⟨by kernel_rfl, ?yy8⟩) (by assumption) ?_
          case yy8 => intro w hSw; (try dsimp only at hSw); go_simp; (try with_reducible rfl)
          simp only [List.setIfInBounds_toArray, List.set_cons_zero, List.set_cons_succ]
          refine wpAnyH_ready (rs := [9]) (by kernel_rfl) (by simp) ?_
          refine (AllReadyH.cons rfl (fun K hK => ?_) AllReadyH.nil)
          go_simp
          skip
          (try go_wp2_with fail)
          refine hK.out _ _ ?_ (fun hHeld => ?_)
          · exact cells7_below hHeld ((Below.refl _ _).alloc (Nat.le_refl _) _)
          clear hK K
          (try simp only [Act.put, List.setIfInBounds_toArray, List.set_cons_zero, List.set_cons_succ])
          refine wpAnyH_ready (rs := [10]) (by kernel_rfl) (by simp) ?_
          refine (AllReadyH.cons rfl (fun K hK => ?_) AllReadyH.nil)
          go_simp
          skip
          (try go_wp2_with fail)
          refine hK.out _ _ ?_ (fun hHeld => ?_)
          · exact cells7_below (by assumption) (hb4.alloc hb4.size _)
          clear hK K
          (try simp only [Act.put, List.setIfInBounds_toArray, List.set_cons_zero, List.set_cons_succ])
          refine takeH (i := 11) (v := ?vv9) 12 rfl rfl (by kernel_rfl) (by kernel_rfl) (by kernel_rfl) (fun _ _ _ h => h) (Or.inl ⟨by kernel_rfl, ?yy9⟩) (by assumption) ?_
          case yy9 => intro w hSw; (try dsimp only at hSw); go_simp; (try with_reducible rfl)
          simp only [List.setIfInBounds_toArray, List.set_cons_zero, List.set_cons_succ]
          refine wpAnyH_done (by kernel_rfl) ?_ _
          go_wp2_with fail
          go_meet
          refine ⟨_, a5, c5, a6, c6, rfl, rfl, Bx.new w4 _ _, OwnN.of_owned (hO4.alloc _) (by first | omega | (simp; omega)) (by first | omega | (simp; omega)), hb4.size, (btrans ((Below.refl wr.heap.size wr).drew) (Nat.le_refl _) hb4).alloc hb4.size _⟩
        · skip
          go_simp
          skip
          (try go_wp2_with fail)
          refine hK.out _ _ ?_ (fun hHeld => ?_)
          · exact cells7_below hHeld ((Below.refl _ _).alloc (Nat.le_refl _) _)
          clear hK K
          (try simp only [Act.put, List.setIfInBounds_toArray, List.set_cons_zero, List.set_cons_succ])
          refine wpAnyH_ready (rs := [5]) (by kernel_rfl) (by simp) ?_
          refine (AllReadyH.cons rfl (fun K hK => ?_) AllReadyH.nil)
          go_simp
          (refine (do_any _ _ _ _ d n (c.toNat : Int) hc0 hc1 _ (HLW.out.below (((Below.refl wr.heap.size wr).alloc (Nat.le_refl _) _).drew)) hpl).mono ?_; rw [HQ.out]; rintro e w4 ⟨a5, c5, a6, c6, rfl, hO4, hb4⟩)
          (try go_wp2_with fail)
          refine hK.out _ _ ?_ (fun hHeld => ?_)
          · exact cells7_below hHeld hb4
          clear hK K
          (try simp only [Act.put, List.setIfInBounds_toArray, List.set_cons_zero, List.set_cons_succ])
          refine takeH (i := 6) (v := ?vv10) 34 rfl rfl (by kernel_rfl) (by kernel_rfl) (by kernel_rfl) (fun _ _ _ h => h) (Or.inl ⟨by kernel_rfl, ?yy10⟩) (by assumption) ?_
          case yy10 => intro w hSw; (try dsimp only at hSw); go_simp; (try with_reducible rfl)
          simp only [List.setIfInBounds_toArray, List.set_cons_zero, List.set_cons_succ]
          refine takeH (i := 7) (v := ?vv11) 41 rfl rfl (by kernel_rfl) (by kernel_rfl) (by kernel_rfl) (fun _ _ _ h => h) (Or.inl ⟨by kernel_rfl, ?yy11⟩) (by assumption) ?_
          case yy11 => intro w hSw; (try dsimp only at hSw); go_simp; (try with_reducible rfl)
          simp only [List.setIfInBounds_toArray, List.set_cons_zero, List.set_cons_succ]
          refine takeH (i := 8) (v := ?vv12) 42 rfl rfl (by kernel_rfl) (by kernel_rfl) (by kernel_rfl) (fun _ _ _ h => h) (Or.inl ⟨by kernel_rfl, ?yy12⟩) (by assumption) ?_
          case yy12 => intro w hSw; (try dsimp only at hSw); go_simp; (try with_reducible rfl)
          simp only [List.setIfInBounds_toArray, List.set_cons_zero, List.set_cons_succ]
          have hsz4 : wr.heap.size + 1 ≤ w4.heap.size := by have := hb4.size; simp at this; omega
          refine wpAnyH_ready (rs := [10]) (by kernel_rfl) (by simp) ?_
          refine (AllReadyH.cons rfl (fun K hK => ?_) AllReadyH.nil)
          have hBB : Bx wr.heap.size #[.slice none 0 0, .slice none 0 0, .int .i64 0, .int .i64 0, .bool false] 47 w4 := (Bx.new wr _ _).drew.call hb4
          have r0 : w4.cell? ⟨wr.heap.size, 0, none⟩ = some (.slice none 0 0) := hBB.cell 0
          have r1 : w4.cell? ⟨wr.heap.size, 1, none⟩ = some (.slice none 0 0) := hBB.cell 1
          have r2 : w4.cell? ⟨wr.heap.size, 2, none⟩ = some (.int .i64 0) := hBB.cell 2
          have r3 : w4.cell? ⟨wr.heap.size, 3, none⟩ = some (.int .i64 0) := hBB.cell 3
          have r4 : w4.cell? ⟨wr.heap.size, 4, none⟩ = some (.bool false) := hBB.cell 4
          have g0 := hBB.free 0
          have g1 := hBB.free 1
          have g2 := hBB.free 2
          have g3 := hBB.free 3
          have g4 := hBB.free 4
          go_simp
          skip
          (try go_wp2_with fail)
          refine hK.out _ _ ?_ (fun hHeld => ?_)
          · exact cells7_sets (by assumption) wr.heap.size (by omega) (by omega) _ _ _ _ _
          clear hK K
          (try simp only [Act.put, List.setIfInBounds_toArray, List.set_cons_zero, List.set_cons_succ])
          refine takeH (i := 11) (v := ?vv13) 12 rfl rfl (by kernel_rfl) (by kernel_rfl) (by kernel_rfl) (fun _ _ _ h => h) (Or.inl ⟨by kernel_rfl, ?yy13⟩) (by assumption) ?_
          case yy13 => intro w hSw; (try dsimp only at hSw); go_simp; (try with_reducible rfl)
          simp only [List.setIfInBounds_toArray, List.set_cons_zero, List.set_cons_succ]
          refine wpAnyH_done (by kernel_rfl) ?_ _
          go_wp2_with fail
          go_meet
          refine ⟨_, a5, c5, a6, c6, rfl, rfl, hBB.sets _ _ _ _ _, OwnN.of_owned ((hO4.mono (B' := wr.heap.size + 1) (by first | omega | simp)).sets wr.heap.size (by omega) _ _ _ _ _) (by omega) (by omega), Nat.le_refl _, below_sets (((((Below.refl wr.heap.size wr).alloc (Nat.le_refl _) _).drew)).trans (hb4.mono (by simp))) wr.heap.size (Nat.le_refl _) _ _ _ _ _⟩
      case rest =>
        obtain ⟨b, a5, c5, a6, c6, rfl, rfl, hXN, hON, hbn, hbc⟩ := hcut
        clear hs0 x0 x1 x2 x3 x4 p1 p2
        have hbl := btrans HBR.out HBR.out.size hbc
        have hXDc := HXD.out.below hbc (by omega)
        have hXWc := HXW.out.below hbc (by omega)
        have hORc := HOR.out.call hbc
        have hLc := HLW.out.below hbc
        have hszc := hbc.size
        have p1 : wc.cell? ⟨ob, ooff + k * 2, none⟩ = some (.int .i64 n) := by
          obtain ⟨b2, o2, h2, _, q1, _⟩ := (HM.out.below (hbl.mono (Nat.le_refl _))).at k hlt
          cases h2
          rw [HN.out] at q1; exact q1
        have p2 : wc.cell? ⟨ob, ooff + k * 2 + 1, none⟩ = some (.int .u8 (c.toNat : Int)) := by
          obtain ⟨b2, o2, h2, _, _, q2⟩ := (HM.out.below (hbl.mono (Nat.le_refl _))).at k hlt
          cases h2
          rw [HCC.out] at q2; exact q2
        have HXN := Lib.hid hXN; have HON := Lib.hid hON; have HXD := Lib.hid hXDc; have HXW := Lib.hid hXWc; have HOR := Lib.hid hORc; have HLC := Lib.hid hLc; have HBL := Lib.hid hbl; clear hXN hON hXDc hXWc hORc hLc hbl hbc
        by_cases hn16 : 16 ≤ n
        · have hinj := HQ.out.symm.trans (good_out HGD.out hn16 (byt (c.toNat : Int)))
          rw [Prod.mk.injEq] at hinj
          obtain ⟨e1, e2⟩ := hinj
          subst e1 e2
          have hLN := HON.out.lists hpl hsl
          have x0 : wc.cell? ⟨b, 0, none⟩ = some (.slice a5 d2.S.length c5) := HXN.out.cell 0
          have x1 : wc.cell? ⟨b, 1, none⟩ = some (.slice a6 d2.P.length c6) := HXN.out.cell 1
          have x2 : wc.cell? ⟨b, 2, none⟩ = some (.int .i64 d2.fuse) := HXN.out.cell 2
          have x3 : wc.cell? ⟨b, 3, none⟩ = some (.int .i64 d2.ops) := HXN.out.cell 3
          have x4 : wc.cell? ⟨b, 4, none⟩ = some (.bool d2.dead) := HXN.out.cell 4
          have z0 : wc.cell? ⟨w1.heap.size, 0, none⟩ = some (.slice a d2.S.length c') := HXD.out.cell 0
          have z1 : wc.cell? ⟨w1.heap.size, 1, none⟩ = some (.slice a' d2.P.length c'') := HXD.out.cell 1
          have z2 : wc.cell? ⟨w1.heap.size, 2, none⟩ = some (.int .i64 d2.fuse) := HXD.out.cell 2
          have z3 : wc.cell? ⟨w1.heap.size, 3, none⟩ = some (.int .i64 d2.ops) := HXD.out.cell 3
          have z4 : wc.cell? ⟨w1.heap.size, 4, none⟩ = some (.bool d2.dead) := HXD.out.cell 4
          have HLN := Lib.hid hLN; clear hLN
          go_wp2_with fail
          refine (RSame_any _ _ _ _ _ _ _ _ d2 _ HLN.out HLC.out).mono ?_
          rintro e w6 ⟨rfl, hb6⟩
          have H6 := Lib.hid hb6; clear hb6 x0 x1 x2 x3 x4 z0 z1 z2 z3 z4 p1 p2
          go_wp2
          go_roundw
          case rel => exact ⟨k + 1, d2, want, a, c', a', c'', by omega, by go_num, HGD.out, by omega, HXD.out.call H6.out, HXW.out.call H6.out, HOR.out.call H6.out, by have := H6.out.size; omega, btrans HBL.out HBL.out.size H6.out⟩
          case measure => simp [intOf]; omega
        · by_cases hn0 : n < 0
          · obtain ⟨d3, h1, h2, h3⟩ := good_do_sync HGD.out hn0 (byt (c.toNat : Int))
            have hinj := HQ.out.symm.trans h1
            rw [Prod.mk.injEq] at hinj
            obtain ⟨e1, e2⟩ := hinj
            subst e1 e2
            have HG2 := Lib.hid h2; have HP2 := Lib.hid h3; clear h1 h2 h3
            have t1 : decide (0 ≤ n) = false := by rw [decide_eq_false_iff_not]; omega
            have hXNw := HXN.out
            have hXDw := HXD.out
            have x0 : wc.cell? ⟨b, 0, none⟩ = some (.slice a5 d2.S.length c5) := hXNw.cell 0
            have x1 : wc.cell? ⟨b, 1, none⟩ = some (.slice a6 d2.P.length c6) := hXNw.cell 1
            have x2 : wc.cell? ⟨b, 2, none⟩ = some (.int .i64 d2.fuse) := hXNw.cell 2
            have x3 : wc.cell? ⟨b, 3, none⟩ = some (.int .i64 d2.ops) := hXNw.cell 3
            have x4 : wc.cell? ⟨b, 4, none⟩ = some (.bool d2.dead) := hXNw.cell 4
            have r0 : wc.cell? ⟨w1.heap.size, 0, none⟩ = some (.slice a d.S.length c') := hXDw.cell 0
            have r1 : wc.cell? ⟨w1.heap.size, 1, none⟩ = some (.slice a' d.P.length c'') := hXDw.cell 1
            have r2 : wc.cell? ⟨w1.heap.size, 2, none⟩ = some (.int .i64 d.fuse) := hXDw.cell 2
            have r3 : wc.cell? ⟨w1.heap.size, 3, none⟩ = some (.int .i64 d.ops) := hXDw.cell 3
            have r4 : wc.cell? ⟨w1.heap.size, 4, none⟩ = some (.bool d.dead) := hXDw.cell 4
            have g0 := hXDw.free 0
            have g1 := hXDw.free 1
            have g2 := hXDw.free 2
            have g3 := hXDw.free 3
            have g4 := hXDw.free 4
            clear hXNw hXDw
            go_wp2
            go_roundw
            case rel => exact ⟨k + 1, d2, want, a5, c5, a6, c6, by omega, by go_num, HG2.out, by rw [HP2.out]; simp, ((HXD.out).sets _ _ _ _ _), ((((HXW.out.other (by omega) _).other (by omega) _).other (by omega) _).other (by omega) _).other (by omega) _, ((HON.out).sets w1.heap.size (.inl rfl) _ _ _ _ _), by simp; omega, (below_sets (HBL.out) w1.heap.size (by omega) _ _ _ _ _)⟩
            case measure => simp [intOf]; omega
          · obtain ⟨m, rfl⟩ : ∃ m : Nat, n = m := ⟨n.toNat, by omega⟩
            have hm16 : m < 16 := by omega
            obtain ⟨d3, h1, h2, h3⟩ := good_write HGD.out hm16 (byt (c.toNat : Int))
            have hinj := HQ.out.symm.trans h1
            rw [Prod.mk.injEq] at hinj
            obtain ⟨e1, e2⟩ := hinj
            subst e1 e2
            rw [byt_of] at h2
            have HG2 := Lib.hid h2; have HP2 := Lib.hid h3; clear h1 h2 h3
            have hm0 : (0 : Int) ≤ (m : Int) := by omega
            have hm1 : (m : Int) < 16 := by omega
            have y0 : wc.cell? ⟨w1.heap.size + 1, m, none⟩ = some (.int .u8 ((want.getD m 0).toNat : Int)) := (HXW.out.cell m).trans (wantA_get _ _ (by rw [HGD.out.m]; exact hm16))
            have fy := HXW.out.free m
            have hs1 : wc.drew.cell? ⟨ob, ooff + k * 2, none⟩ = some (.int .i64 (m : Int)) ∧ wc.drew.cell? ⟨ob, ooff + k * 2 + 1, none⟩ = some (.int .u8 (c.toNat : Int)) := ⟨p1, p2⟩
            go_wp2
            refine wp_region_held_drew (S := (fun w' => w'.cell? ⟨ob, ooff + k * 2, none⟩ = some (.int .i64 (m : Int)) ∧ w'.cell? ⟨ob, ooff + k * 2 + 1, none⟩ = some (.int .u8 (c.toNat : Int)))) (by kernel_rfl) ?_ (fun hHeld => ?_)
            · exact hs1
            refine takeH (i := 0) (v := ?vv14) 65 rfl rfl (by kernel_rfl) (by kernel_rfl) (by kernel_rfl) (fun _ _ _ h => h) (Or.inl ⟨by kernel_rfl, ?yy14⟩) (by assumption) ?_
            case yy14 => intro w hSw; (try dsimp only at hSw); go_simp; (try with_reducible rfl)
            simp only [List.setIfInBounds_toArray, List.set_cons_zero, List.set_cons_succ]
            refine takeH (i := 1) (v := ?vv15) 66 rfl rfl (by kernel_rfl) (by kernel_rfl) (by kernel_rfl) (fun _ _ _ h => h) (Or.inl ⟨by kernel_rfl, ?yy15⟩) (by assumption) ?_
            case yy15 => intro w hSw; (try dsimp only at hSw); go_simp; (try with_reducible rfl)
            simp only [List.setIfInBounds_toArray, List.set_cons_zero, List.set_cons_succ]
            refine takeH (i := 2) (v := ?vv16) 67 rfl rfl (by kernel_rfl) (by kernel_rfl) (by kernel_rfl) (fun _ _ _ h => h) (Or.inl ⟨by kernel_rfl, ?yy16⟩) (by assumption) ?_
            case yy16 => intro w hSw; (try dsimp only at hSw); go_simp; (try with_reducible rfl)
            simp only [List.setIfInBounds_toArray, List.set_cons_zero, List.set_cons_succ]
            refine takeH (i := 3) (v := ?vv17) 68 rfl rfl (by kernel_rfl) (by kernel_rfl) (by kernel_rfl) (fun _ _ _ h => h) (Or.inl ⟨by kernel_rfl, ?yy17⟩) (by assumption) ?_
            case yy17 => intro w hSw; (try dsimp only at hSw); go_simp; (try with_reducible rfl)
            simp only [List.setIfInBounds_toArray, List.set_cons_zero, List.set_cons_succ]
            refine takeH (i := 4) (v := ?vv18) 69 rfl rfl (by kernel_rfl) (by kernel_rfl) (by kernel_rfl) (fun _ _ _ h => h) (Or.inl ⟨by kernel_rfl, ?yy18⟩) (by assumption) ?_
            case yy18 => intro w hSw; (try dsimp only at hSw); go_simp; (try with_reducible rfl)
            simp only [List.setIfInBounds_toArray, List.set_cons_zero, List.set_cons_succ]
            refine takeH (i := 5) (v := ?vv19) 70 rfl rfl (by kernel_rfl) (by kernel_rfl) (by kernel_rfl) (fun _ _ _ h => h) (Or.inl ⟨by kernel_rfl, ?yy19⟩) (by assumption) ?_
            case yy19 => intro w hSw; (try dsimp only at hSw); go_simp; (try with_reducible rfl)
            simp only [List.setIfInBounds_toArray, List.set_cons_zero, List.set_cons_succ]
            refine takeH (i := 6) (v := ?vv20) 71 rfl rfl (by kernel_rfl) (by kernel_rfl) (by kernel_rfl) (fun _ _ _ h => h) (Or.inl ⟨by kernel_rfl, ?yy20⟩) (by assumption) ?_
            case yy20 => intro w hSw; (try dsimp only at hSw); go_simp; (try with_reducible rfl)
            simp only [List.setIfInBounds_toArray, List.set_cons_zero, List.set_cons_succ]
            refine takeH (i := 7) (v := ?vv21) 72 rfl rfl (by kernel_rfl) (by kernel_rfl) (by kernel_rfl) (fun _ _ _ h => h) (Or.inl ⟨by kernel_rfl, ?yy21⟩) (by assumption) ?_
            case yy21 => intro w hSw; (try dsimp only at hSw); go_simp; (try with_reducible rfl)
            simp only [List.setIfInBounds_toArray, List.set_cons_zero, List.set_cons_succ]
            refine takeH (i := 8) (v := ?vv22) 73 rfl rfl (by kernel_rfl) (by kernel_rfl) (by kernel_rfl) (fun _ _ _ h => h) (Or.inl ⟨by kernel_rfl, ?yy22⟩) (by assumption) ?_
            case yy22 => intro w hSw; (try dsimp only at hSw); go_simp; (try with_reducible rfl)
            simp only [List.setIfInBounds_toArray, List.set_cons_zero, List.set_cons_succ]
            refine takeH (i := 9) (v := ?vv23) 74 rfl rfl (by kernel_rfl) (by kernel_rfl) (by kernel_rfl) (fun _ _ _ h => h) (Or.inl ⟨by kernel_rfl, ?yy23⟩) (by assumption) ?_
            case yy23 => intro w hSw; (try dsimp only at hSw); go_simp; (try with_reducible rfl)
            simp only [List.setIfInBounds_toArray, List.set_cons_zero, List.set_cons_succ]
            refine takeH (i := 10) (v := ?vv24) 75 rfl rfl (by kernel_rfl) (by kernel_rfl) (by kernel_rfl) (fun _ _ _ h => h) (Or.inl ⟨by kernel_rfl, ?yy24⟩) (by assumption) ?_
            case yy24 => intro w hSw; (try dsimp only at hSw); go_simp; (try with_reducible rfl)
            simp only [List.setIfInBounds_toArray, List.set_cons_zero, List.set_cons_succ]
            refine takeH (i := 11) (v := ?vv25) 76 rfl rfl (by kernel_rfl) (by kernel_rfl) (by kernel_rfl) (fun _ _ _ h => h) (Or.inl ⟨by kernel_rfl, ?yy25⟩) (by assumption) ?_
            case yy25 => intro w hSw; (try dsimp only at hSw); go_simp; (try with_reducible rfl)
            simp only [List.setIfInBounds_toArray, List.set_cons_zero, List.set_cons_succ]
            refine wpAnyH_ready (rs := [12]) (by kernel_rfl) (by simp) ?_
            refine (AllReadyH.cons rfl (fun K hK => ?_) AllReadyH.nil)
            go_simp
            skip
            (try go_wp2_with fail)
            refine hK.out _ _ ?_ (fun hHeld => ?_)
            · exact ⟨cell1_set _ (by omega) hHeld.1, cell1_set _ (by omega) hHeld.2⟩
            clear hK K
            (try simp only [Act.put, List.setIfInBounds_toArray, List.set_cons_zero, List.set_cons_succ])
            refine wpAnyH_done (by kernel_rfl) ?_ _
            clear hHeld hs1 y0 fy p1 p2
            have hXNw := HXN.out.other (i := m) (c := w1.heap.size + 1) (by omega) (.int .u8 (c.toNat : Int))
            have hXDw := HXD.out.other (i := m) (c := w1.heap.size + 1) (by omega) (.int .u8 (c.toNat : Int))
            have x0 : (wc.setCell ⟨w1.heap.size + 1, m, none⟩ (.int .u8 (c.toNat : Int))).cell? ⟨b, 0, none⟩ = some (.slice a5 d2.S.length c5) := hXNw.cell 0
            have x1 : (wc.setCell ⟨w1.heap.size + 1, m, none⟩ (.int .u8 (c.toNat : Int))).cell? ⟨b, 1, none⟩ = some (.slice a6 d2.P.length c6) := hXNw.cell 1
            have x2 : (wc.setCell ⟨w1.heap.size + 1, m, none⟩ (.int .u8 (c.toNat : Int))).cell? ⟨b, 2, none⟩ = some (.int .i64 d2.fuse) := hXNw.cell 2
            have x3 : (wc.setCell ⟨w1.heap.size + 1, m, none⟩ (.int .u8 (c.toNat : Int))).cell? ⟨b, 3, none⟩ = some (.int .i64 d2.ops) := hXNw.cell 3
            have x4 : (wc.setCell ⟨w1.heap.size + 1, m, none⟩ (.int .u8 (c.toNat : Int))).cell? ⟨b, 4, none⟩ = some (.bool d2.dead) := hXNw.cell 4
            have r0 : (wc.setCell ⟨w1.heap.size + 1, m, none⟩ (.int .u8 (c.toNat : Int))).cell? ⟨w1.heap.size, 0, none⟩ = some (.slice a d.S.length c') := hXDw.cell 0
            have r1 : (wc.setCell ⟨w1.heap.size + 1, m, none⟩ (.int .u8 (c.toNat : Int))).cell? ⟨w1.heap.size, 1, none⟩ = some (.slice a' d.P.length c'') := hXDw.cell 1
            have r2 : (wc.setCell ⟨w1.heap.size + 1, m, none⟩ (.int .u8 (c.toNat : Int))).cell? ⟨w1.heap.size, 2, none⟩ = some (.int .i64 d.fuse) := hXDw.cell 2
            have r3 : (wc.setCell ⟨w1.heap.size + 1, m, none⟩ (.int .u8 (c.toNat : Int))).cell? ⟨w1.heap.size, 3, none⟩ = some (.int .i64 d.ops) := hXDw.cell 3
            have r4 : (wc.setCell ⟨w1.heap.size + 1, m, none⟩ (.int .u8 (c.toNat : Int))).cell? ⟨w1.heap.size, 4, none⟩ = some (.bool d.dead) := hXDw.cell 4
            have g0 := hXDw.free 0
            have g1 := hXDw.free 1
            have g2 := hXDw.free 2
            have g3 := hXDw.free 3
            have g4 := hXDw.free 4
            clear hXNw hXDw
            go_wp2
            go_roundw
            case rel => exact ⟨k + 1, d2, want.set m c, a5, c5, a6, c6, by omega, by go_num, HG2.out, by rw [HP2.out]; omega, ((HXD.out.other (i := m) (c := w1.heap.size + 1) (by omega) (.int .u8 (c.toNat : Int))).sets _ _ _ _ _).drew, by have h := ((((((HXW.out.set m (.int .u8 (c.toNat : Int))).other (c := w1.heap.size) (i := 0) (by omega) (.slice a5 d2.S.length c5)).other (c := w1.heap.size) (i := 1) (by omega) (.slice a6 d2.P.length c6)).other (c := w1.heap.size) (i := 2) (by omega) (.int .i64 d2.fuse)).other (c := w1.heap.size) (i := 3) (by omega) (.int .i64 d2.ops)).other (c := w1.heap.size) (i := 4) (by omega) (.bool d2.dead)); rw [wantA_set] at h; exact h.drew, ((HON.out.set (w1.heap.size + 1) m (.inr rfl) _).sets w1.heap.size (.inl rfl) _ _ _ _ _).call ((Below.refl _ _).drew), by simp; omega, (below_sets (below_set HBL.out (w1.heap.size + 1) m (by omega) _) w1.heap.size (by omega) _ _ _ _ _).drew⟩
            case measure => simp [intOf]; omega
    · obtain rfl : k = M.length := by omega
      clear hlt hk
      have hpl : d.P.length ≤ 8999999999999 := by omega
      have hsl : d.S.length ≤ 16 := by rw [hG.n]; exact Nat.le_refl _
      have HLW := Lib.hid (hOr.lists hpl hsl)
      obtain ⟨ds, hs1, hs2, hs3⟩ := good_sync hG
      have HSY := Lib.hid hs1; have HGS := Lib.hid hs2; have HPS := Lib.hid hs3; have HGD := Lib.hid hG; clear hs1 hs2 hs3 hG
      have x0 : wr.cell? ⟨w1.heap.size, 0, none⟩ = some (.slice a d.S.length c') := hXDr.cell 0
      have x1 : wr.cell? ⟨w1.heap.size, 1, none⟩ = some (.slice a' d.P.length c'') := hXDr.cell 1
      have x2 : wr.cell? ⟨w1.heap.size, 2, none⟩ = some (.int .i64 d.fuse) := hXDr.cell 2
      have x3 : wr.cell? ⟨w1.heap.size, 3, none⟩ = some (.int .i64 d.ops) := hXDr.cell 3
      have x4 : wr.cell? ⟨w1.heap.size, 4, none⟩ = some (.bool d.dead) := hXDr.cell 4
      have HXD := Lib.hid hXDr; have HXW := Lib.hid hXWr; have HBR := Lib.hid hbr; clear hXDr hXWr hOr hbr
      go_wp2_with fail
      refine (Sync_any _ _ _ _ _ _ HLW.out).mono ?_
      rw [HSY.out]
      rintro e w2 ⟨a3, c3, a4, c4, rfl, hO2, hb2⟩
      clear x0 x1 x2 x3 x4
      have hps0 : ds.P.length = 0 := by rw [HPS.out]; rfl
      have hss0 : ds.S.length ≤ 16 := by rw [HGS.out.n]; exact Nat.le_refl _
      have hal := (Below.refl w2.heap.size w2).alloc (Nat.le_refl _) (.cells #[.slice a3 ds.S.length c3, .slice a4 ds.P.length c4, .int .i64 ds.fuse, .int .i64 ds.ops, .bool ds.dead] 47)
      have HXS := Lib.hid (Bx.new w2 #[.slice a3 ds.S.length c3, .slice a4 ds.P.length c4, .int .i64 ds.fuse, .int .i64 ds.ops, .bool ds.dead] 47); have HLS := Lib.hid (((hO2.lists (d := ds) (by omega) (by omega)).below hal))
      have HXD1 := Lib.hid ((HXD.out.call hb2).alloc (.cells #[.slice a3 ds.S.length c3, .slice a4 ds.P.length c4, .int .i64 ds.fuse, .int .i64 ds.ops, .bool ds.dead] 47)); have HXW1 := Lib.hid ((HXW.out.call hb2).alloc (.cells #[.slice a3 ds.S.length c3, .slice a4 ds.P.length c4, .int .i64 ds.fuse, .int .i64 ds.ops, .bool ds.dead] 47)); have HLW1 := Lib.hid ((HLW.out.below hb2).below hal); have HB1 := Lib.hid ((btrans HBR.out HBR.out.size hb2).alloc (btrans HBR.out HBR.out.size hb2).size (.cells #[.slice a3 ds.S.length c3, .slice a4 ds.P.length c4, .int .i64 ds.fuse, .int .i64 ds.ops, .bool ds.dead] 47)); have hsz2 := hb2.size; clear hal hO2 hb2 HXD HXW HLW HBR
      have y0 : (w2.alloc (.cells #[.slice a3 ds.S.length c3, .slice a4 ds.P.length c4, .int .i64 ds.fuse, .int .i64 ds.ops, .bool ds.dead] 47)).cell? ⟨w2.heap.size, 0, none⟩ = some (.slice a3 ds.S.length c3) := HXS.out.cell 0
      have y1 : (w2.alloc (.cells #[.slice a3 ds.S.length c3, .slice a4 ds.P.length c4, .int .i64 ds.fuse, .int .i64 ds.ops, .bool ds.dead] 47)).cell? ⟨w2.heap.size, 1, none⟩ = some (.slice a4 ds.P.length c4) := HXS.out.cell 1
      have y2 : (w2.alloc (.cells #[.slice a3 ds.S.length c3, .slice a4 ds.P.length c4, .int .i64 ds.fuse, .int .i64 ds.ops, .bool ds.dead] 47)).cell? ⟨w2.heap.size, 2, none⟩ = some (.int .i64 ds.fuse) := HXS.out.cell 2
      have y3 : (w2.alloc (.cells #[.slice a3 ds.S.length c3, .slice a4 ds.P.length c4, .int .i64 ds.fuse, .int .i64 ds.ops, .bool ds.dead] 47)).cell? ⟨w2.heap.size, 3, none⟩ = some (.int .i64 ds.ops) := HXS.out.cell 3
      have y4 : (w2.alloc (.cells #[.slice a3 ds.S.length c3, .slice a4 ds.P.length c4, .int .i64 ds.fuse, .int .i64 ds.ops, .bool ds.dead] 47)).cell? ⟨w2.heap.size, 4, none⟩ = some (.bool ds.dead) := HXS.out.cell 4
      have t1 : ((ds.P.length : Int) != 0) = false := by rw [hps0]; rfl
      have HPS0 := Lib.hid hps0; clear hps0
      have HSS0 := Lib.hid hss0; clear hss0
      have hSw := (HS.out.below (HB1.out.mono (Nat.le_refl _))).mono HB1.out.size
      have HSW := Lib.hid hSw; clear hSw
      obtain ⟨dc, hdc⟩ : ∃ dc, crashD ds kb tear = dc := ⟨_, rfl⟩
      have hgc := good_crash HGS.out HPS.out kb tear
      rw [hdc] at hgc
      have hl12 := crash_len ds kb tear
      rw [hdc, HPS0.out] at hl12
      have HDC := Lib.hid hdc; have HGC := Lib.hid hgc; have HLC := Lib.hid hl12; clear hdc hgc hl12
      go_wp2_with fail
      refine (Crash_any _ _ _ _ _ _ ds kb tear _ HLS.out HSW.out).mono ?_
      rw [HDC.out]
      rintro e w3 ⟨a7, c7, a8, c8, rfl, hO3, hb3⟩
      clear y0 y1 y2 y3 y4 t1
      have hal := (Below.refl w3.heap.size w3).alloc (Nat.le_refl _) (.cells #[.slice a7 dc.S.length c7, .slice a8 dc.P.length c8, .int .i64 dc.fuse, .int .i64 dc.ops, .bool dc.dead] 47)
      have hcs : dc.S.length ≤ 16 := by rw [HLC.out.1]; exact HSS0.out
      have hcp : dc.P.length ≤ 16 := by have := HLC.out.2; omega
      have hXC := Bx.new w3 #[.slice a7 dc.S.length c7, .slice a8 dc.P.length c8, .int .i64 dc.fuse, .int .i64 dc.ops, .bool dc.dead] 47
      have hLC := (hO3.lists (d := dc) (by omega) (by omega)).below hal
      have hXD := (HXD1.out.call hb3).alloc (.cells #[.slice a7 dc.S.length c7, .slice a8 dc.P.length c8, .int .i64 dc.fuse, .int .i64 dc.ops, .bool dc.dead] 47)
      have hXW := (HXW1.out.call hb3).alloc (.cells #[.slice a7 dc.S.length c7, .slice a8 dc.P.length c8, .int .i64 dc.fuse, .int .i64 dc.ops, .bool dc.dead] 47)
      have hLW := (HLW1.out.below hb3).below hal
      have hB := (btrans HB1.out HB1.out.size hb3).alloc (btrans HB1.out HB1.out.size hb3).size (.cells #[.slice a7 dc.S.length c7, .slice a8 dc.P.length c8, .int .i64 dc.fuse, .int .i64 dc.ops, .bool dc.dead] 47)
      have hcsz : w2.heap.size < w3.heap.size := by have := hb3.size; simp at this; omega
      clear hal hO3 hb3 HXD1 HXW1 HLW1 HB1 HXS HLS HSW hcs hcp
      go_wp2
      go_loopw [16] (fun i wr => ∃ k : Nat, k ≤ 16 ∧ i = .int .i64 k ∧ Bx w1.heap.size #[.slice a d.S.length c', .slice a' d.P.length c'', .int .i64 d.fuse, .int .i64 d.ops, .bool d.dead] 47 wr ∧ Bx (w1.heap.size + 1) (wantA want) 5 wr ∧ Bx w3.heap.size #[.slice a7 dc.S.length c7, .slice a8 dc.P.length c8, .int .i64 dc.fuse, .int .i64 dc.ops, .bool dc.dead] 47 wr ∧ Lists wr a c' a' c'' d ∧ Lists wr a7 c7 a8 c8 dc ∧ Below w.heap.size w wr) (fun i _ => 16 - (intOf i).toNat)
      case atStart => exact ⟨0, Nat.zero_le _, rfl, hXD, hXW, hXC, hLW, hLC, hB⟩
      case round =>
        obtain ⟨j, hj, rfl, hXDq, hXWq, hXCq, hLDq, hLCq, hbq⟩ := hrel
        clear hXD hXW hXC hLW hLC hB
        by_cases hjt : j < 16
        · have hjt' : (j : Int) < 16 := by omega
          have HR1 := Lib.hid (good_read HGD.out hjt); have HR2 := Lib.hid (good_read HGC.out hjt)
          obtain ⟨c, hc⟩ : ∃ c, want.getD j 0 = c := ⟨_, rfl⟩
          rw [hc] at HR1 HR2
          have hwc := (hXWq.cell j).trans (wantA_get want j (by rw [HGD.out.m]; exact hjt))
          rw [hc] at hwc
          clear hc
          obtain ⟨F, hF⟩ : ∃ F, List.replicate 64 c = F := ⟨_, rfl⟩
          rw [hF] at HR1 HR2
          have hc0 : (0 : Int) ≤ (c.toNat : Int) := by omega
          have hc1 : (c.toNat : Int) < 256 := by have := c.toNat_lt; omega
          have HF := Lib.hid (show List.replicate 64 (byt (c.toNat : Int)) = F by rw [byt_of]; exact hF)
          clear hF
          have x0 : wr.cell? ⟨w1.heap.size, 0, none⟩ = some (.slice a d.S.length c') := hXDq.cell 0
          have x1 : wr.cell? ⟨w1.heap.size, 1, none⟩ = some (.slice a' d.P.length c'') := hXDq.cell 1
          have x2 : wr.cell? ⟨w1.heap.size, 2, none⟩ = some (.int .i64 d.fuse) := hXDq.cell 2
          have x3 : wr.cell? ⟨w1.heap.size, 3, none⟩ = some (.int .i64 d.ops) := hXDq.cell 3
          have x4 : wr.cell? ⟨w1.heap.size, 4, none⟩ = some (.bool d.dead) := hXDq.cell 4
          have HXD := Lib.hid hXDq; have HXW := Lib.hid hXWq; have HXC := Lib.hid hXCq; have HLD := Lib.hid hLDq; have HLC2 := Lib.hid hLCq; have HBQ := Lib.hid hbq; have HWC := Lib.hid hwc; clear hXDq hXWq hXCq hLDq hLCq hbq hwc
          go_wp2_with fail
          refine (Read_any _ _ _ _ _ _ _ HLD.out).mono ?_
          rw [HR1.out]
          rintro e w4 ⟨rfl, hb4⟩
          clear x0 x1 x2 x3 x4
          have H4 := Lib.hid hb4; clear hb4
          have x0 : w4.cell? ⟨w3.heap.size, 0, none⟩ = some (.slice a7 dc.S.length c7) := (HXC.out.call H4.out).cell 0
          have x1 : w4.cell? ⟨w3.heap.size, 1, none⟩ = some (.slice a8 dc.P.length c8) := (HXC.out.call H4.out).cell 1
          have x2 : w4.cell? ⟨w3.heap.size, 2, none⟩ = some (.int .i64 dc.fuse) := (HXC.out.call H4.out).cell 2
          have x3 : w4.cell? ⟨w3.heap.size, 3, none⟩ = some (.int .i64 dc.ops) := (HXC.out.call H4.out).cell 3
          have x4 : w4.cell? ⟨w3.heap.size, 4, none⟩ = some (.bool dc.dead) := (HXC.out.call H4.out).cell 4
          go_wp2_with fail
          refine (Read_any _ _ _ _ _ _ _ (HLC2.out.below H4.out)).mono ?_
          rw [HR2.out]
          rintro e w5 ⟨rfl, hb5⟩
          clear x0 x1 x2 x3 x4
          have H5 := Lib.hid (btrans H4.out H4.out.size hb5); clear hb5 H4
          have wc5 : w5.cell? ⟨w1.heap.size + 1, j, none⟩ = some (.int .u8 (c.toNat : Int)) := cell1_below HWC.out H5.out
          go_wp2_with fail
          refine (sector_any _ hc0 hc1 _).mono ?_
          rw [HF.out]
          rintro e w6 ⟨rfl, hb6⟩
          clear wc5
          have H6 := Lib.hid (btrans H5.out H5.out.size hb6); clear hb6 H5
          go_wp2
          go_roundw
          case rel => exact ⟨j + 1, by omega, by go_num, HXD.out.call H6.out, HXW.out.call H6.out, HXC.out.call H6.out, HLD.out.below H6.out, HLC2.out.below H6.out, btrans HBQ.out HBQ.out.size H6.out⟩
          case measure => simp [intOf]; omega
        · obtain rfl : j = 16 := by omega
          have HBQ := Lib.hid hbq
          clear hjt hj hXDq hXWq hXCq hLDq hLCq hbq
          go_wp2_with fail
          refine (examples_any _).mono ?_
          rintro e w7 ⟨rfl, hb7⟩
          have H7 := Lib.hid hb7; clear hb7
          go_wp2_with fail
          go_ret
          exact ⟨rfl, btrans HBQ.out HBQ.out.size H7.out⟩
theorem readsLaw (oa : Option Addr) (oc : Nat) (M : List (Int × UInt8)) {w0 : World} (hM : OpS w0 (.slice oa M.length oc) M) (hMl : M.length ≤ 8796093022208) (ka : Option Addr) (kc : Nat) (kb : List Bool) (hS : BoS w0.heap.size w0 (.slice ka kb.length kc) kb) (_hkl : kb.length ≤ 140737488355328) (tear : Int) (_wl : (Lit.int .i64 tear).wf = true) (w : World) (hw : w0 = w := by rfl) :
    Calls Try.prog 14 #[.slice oa M.length oc, .slice ka kb.length kc, .int .i64 tear] w fun e w' => e = .returned (.bool true) ∧ Below w.heap.size w w' := by
  subst hw; exact readsWalk oa ka oc kc M kb tear w0 hM hMl hS
end Go.Proofs.Ytnghdolpmmdknaa
