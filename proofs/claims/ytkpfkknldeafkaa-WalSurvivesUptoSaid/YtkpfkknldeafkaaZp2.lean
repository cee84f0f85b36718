/- What the claim needs of: DiskCrash, DiskRef6, DiskRef7, DiskRef8, DiskArgs, DiskGood, WireWalk, SecSplit, SecJoinP, SecRAll, DiskLaw3, SupOne. No conditions. -/
import Derived.Test.YtkpfkknldeafkaaZp1
import Derived.Test.YtkpfkknldeafkaaRows
import Derived.WalkKit
import Derived.WalkSpells
import Derived.WalkLawsBesides
import Derived.Lib.SlBytesRow
import Derived.Lib.Hide
import Derived.Laws.Bits64
import Derived.Laws.CopyOwn
import Derived.Lib.BufferWrite
import Derived.Deep.RegionLaw
import Derived.Deep.DeepCutAuto
import Derived.ChangeAlike
import Derived.RegionTactic
import Derived.Deep.RegionHeld3
import Derived.Laws.ResultCell
import Derived.RangeFuncNested
import Derived.RangeFuncBound
import Derived.RangeFuncCalls
import Derived.RangeFuncLeaves
import Derived.Shelf.Abstract
import Derived.Shelf.RegionOpen
import Derived.OwnWalkIn
import Derived.TacticsInMore
import Derived.LoopNIn
import Derived.LoopIn
import Derived.Laws.AppendOwnNone
import Derived.Deep.DeepAppendWide
import Derived.Laws.OwnMore
import Derived.Deep.AppendLies
import Derived.Outline
import Derived.Shelf.Bits.Mul64
import Derived.OrdersIn
import Derived.TacticsIn
import Derived.Deep.QuietTactic
import Derived.BigQuiet
import Derived.Deep.Cut
import Derived.Deep.CutRange
import Derived.ProofKit
import Derived.OpenShut
import Derived.Lib.SmallJoins
import Derived.SliceStrings
import Derived.Deep.Slices
import Derived.SizedLaws
import Derived.ArgAppend
import Derived.Lib.AppendStr
import Derived.Tactics
import Derived.Tactics2
import Derived.Defers
import Derived.Recover
import Derived.Laws.Pointers
namespace Go.Proofs.Ytkpfkknldeafkaa
open Go.RowKit Go.Shelf
attribute [local go_sem] Oper.semAt_some

def lastI {K : Nat} (pre : List (Fin K)) : Int := match pre.getLast? with | some x => (x.1 : Int) | none => -1
theorem lastI_snoc {K : Nat} (pre : List (Fin K)) (x : Fin K) : lastI (pre ++ [x]) = (x.1 : Int) := by unfold lastI; simp
def cutW (data sec : List UInt8) (tear : Int) : List UInt8 := data.take tear.toNat ++ sec.drop tear.toNat
def stepC (P : List (Int × List UInt8)) (last tear : Int) (S : List (List UInt8)) (i : Fin P.length) : List (List UInt8) :=
  S.set P[i.1].1.toNat (if (i.1 : Int) = last ∧ 1 ≤ tear ∧ tear < 64 then cutW P[i.1].2 (S.getD P[i.1].1.toNat []) tear else P[i.1].2)
def foldC (P : List (Int × List UInt8)) (S : List (List UInt8)) (last tear : Int) (pre : List (Fin P.length)) : List (List UInt8) := pre.foldl (stepC P last tear) S
theorem foldC_snoc (P : List (Int × List UInt8)) (S : List (List UInt8)) (last tear : Int) (pre : List (Fin P.length)) (x : Fin P.length) : foldC P S last tear (pre ++ [x]) = stepC P last tear (foldC P S last tear pre) x := by
  unfold foldC; rw [List.foldl_append]; rfl
def crashD (d : Dk) (kb : List Bool) (tear : Int) : Dk :=
  if validB d = true then { d with S := foldC d.P d.S (lastI (kf d.P.length kb d.P.length)) tear (kf d.P.length kb d.P.length), P := [], fuse := 0, dead := false } else d
theorem crash_off {d : Dk} (kb : List Bool) (tear : Int) (h : validB d = false) : crashD d kb tear = d := by unfold crashD; rw [h]; rfl
theorem crash_on {d : Dk} (kb : List Bool) (tear : Int) (h : validB d = true) : crashD d kb tear = { d with S := foldC d.P d.S (lastI (kf d.P.length kb d.P.length)) tear (kf d.P.length kb d.P.length), P := [], fuse := 0, dead := false } := by unfold crashD; rw [if_pos h]
set_option maxRecDepth 100000 in
theorem foldC_inv {P : List (Int × List UInt8)} {S : List (List UInt8)} (last tear : Int) (hP : ∀ x ∈ P, x.2.length = 64) (hS : ∀ s ∈ S, s.length = 64) (pre : List (Fin P.length)) :
    (foldC P S last tear pre).length = S.length ∧ ∀ s ∈ foldC P S last tear pre, s.length = 64 := by
  unfold foldC
  induction pre generalizing S with
  | nil => exact ⟨rfl, hS⟩
  | cons x r ih =>
    rw [List.foldl_cons]
    have hx := hP _ (List.getElem_mem x.2)
    have h1 : ∀ s ∈ stepC P last tear S x, s.length = 64 := by
      intro s hs
      unfold stepC at hs
      rcases List.mem_or_eq_of_mem_set hs with h | h
      · exact hS s h
      · rw [h]
        split
        · rename_i hc
          rcases Nat.lt_or_ge P[x.1].1.toNat S.length with h3 | h3
          · unfold cutW
            rw [List.getD_eq_getElem?_getD, List.getElem?_eq_getElem h3, Option.getD_some]
            have := hS _ (List.getElem_mem h3)
            simp [hx, this]; omega
          · rw [List.set_eq_of_length_le h3] at hs
            rw [if_pos hc] at h
            rw [← h]
            exact hS s hs
        · exact hx
    have h2 := ih h1
    rw [show (stepC P last tear S x).length = S.length by unfold stepC; rw [List.length_set]] at h2
    exact h2

theorem bx_from {β : Type} (B b : Nat) (T : TypeId) (f : β → Array Value) : OwnFrom B (fun (x : β) W => Bx b (f x) T W) := by
  intro s W W' row hs hg hr
  refine grownBy_bx hg hs (fun e => ?_)
  obtain ⟨_, o, ho, hc⟩ := hr b e.symm
  unfold Bx at hs
  rw [hs] at ho; cases ho; cases hc
set_option maxRecDepth 100000 in
theorem row_from {β : Type} (B n₀ n : Nat) (T : TypeId) (v : Value) (f : β → List Value) : OwnFrom B (fun (x : β) W => W.ownsRow n₀ T 1 v n (f x)) := by
  intro s W W' row hs hg hr
  refine ⟨hs.1, ?_⟩
  rcases hs.2 with h | ⟨g, cap, cur, h1, h2, h3, h4⟩
  · exact .inl h
  · refine .inr ⟨g, cap, cur, h1, h2, (hg.block g (lt_heap h3) (fun e => ?_)).trans h3, h4⟩
    obtain ⟨_, o, ho, hc⟩ := hr g e.symm
    rw [h3] at ho; cases ho; cases hc
theorem dfr_from {β : Type} (B D : Nat) (o : Obj) (h : D < B) : OwnFrom B (fun (_ : β) W => W.heap[D]? = some o) := by
  intro s W W' row hs hg hr
  exact (hg.block D (lt_heap hs) (fun e => by have := (hr D e.symm).1; omega)).trans hs
theorem kpc_b {n₀ b1 b2 : Nat} {w : World} (hn : n₀ ≤ w.heap.size) (h1 : b1 < w.heap.size) (h2 : b2 < w.heap.size) (W : World) (l : Nat) (o o' : Obj) (hl : w.heap.size ≤ l) (h : W.heap[l]? = some o) (hc : o.isCells = false) (hw : o.isWalk = false) : KpC n₀ b1 b2 W (W.putObj l o') :=
  ⟨belowK_b hn W l o o' hl h hc hw, World.putObj_heap_other (by omega), World.putObj_heap_other (by omega)⟩
theorem kpc_alloc {n₀ b1 b2 : Nat} {W : World} (hn : n₀ ≤ W.heap.size) (h1 : b1 < W.heap.size) (h2 : b2 < W.heap.size) (o : Obj) : KpC n₀ b1 b2 W (W.alloc o) :=
  ⟨(Below.refl n₀ W).alloc hn o, Below.heap_alloc W o b1 h1, Below.heap_alloc W o b2 h2⟩
theorem kpc_set {n₀ b1 b2 b i : Nat} {W : World} (hn : n₀ ≤ b) (h1 : b1 ≠ b) (h2 : b2 ≠ b) (v : Value) : KpC n₀ b1 b2 W (W.setCell ⟨b, i, none⟩ v) :=
  ⟨(Below.refl n₀ W).setCell (p := ⟨b, i, none⟩) hn v, heap_setCell_other _ _ _ _ h1, heap_setCell_other _ _ _ _ h2⟩

set_option maxRecDepth 100000 in
set_option maxHeartbeats 8000000 in
theorem Crash_any (sa pa ka : Option Addr) (sc pc kc : Nat) (d : Dk) (kb : List Bool) (tear : Int) (w : World) (hD : Lists w sa sc pa pc d) (hS : BoS w.heap.size w (.slice ka kb.length kc) kb) :
    Calls Try.prog 34 #[.agg #[.slice sa d.S.length sc, .slice pa d.P.length pc, .int .i64 d.fuse, .int .i64 d.ops, .bool d.dead], .slice ka kb.length kc, .int .i64 tear] w (ClonePost (crashD d kb tear) w) := by
  have hb0 := (((Below.refl w.heap.size w).alloc (Nat.le_refl _) (.cells #[.slice sa d.S.length sc, .slice pa d.P.length pc, .int .i64 d.fuse, .int .i64 d.ops, .bool d.dead] 38)).alloc (by simp) (.cells #[.int .i64 tear] 3)).alloc (by simp; omega) (.cells #[.slice none 0 0, .slice none 0 0, .int .i64 0, .int .i64 0, .bool false] 38)
  have hX : Bx w.heap.size #[.slice sa d.S.length sc, .slice pa d.P.length pc, .int .i64 d.fuse, .int .i64 d.ops, .bool d.dead] 38 (((w.alloc (.cells #[.slice sa d.S.length sc, .slice pa d.P.length pc, .int .i64 d.fuse, .int .i64 d.ops, .bool d.dead] 38)).alloc (.cells #[.int .i64 tear] 3)).alloc (.cells #[.slice none 0 0, .slice none 0 0, .int .i64 0, .int .i64 0, .bool false] 38)) := by
    have h := (Bx.new w #[.slice sa d.S.length sc, .slice pa d.P.length pc, .int .i64 d.fuse, .int .i64 d.ops, .bool d.dead] 38)
    have h := h.alloc (.cells #[.int .i64 tear] 3)
    have h := h.alloc (.cells #[.slice none 0 0, .slice none 0 0, .int .i64 0, .int .i64 0, .bool false] 38)
    simpa using h
  have HX := Lib.hid hX; clear hX
  have hA : Bx (w.heap.size + 1) #[.int .i64 tear] 3 (((w.alloc (.cells #[.slice sa d.S.length sc, .slice pa d.P.length pc, .int .i64 d.fuse, .int .i64 d.ops, .bool d.dead] 38)).alloc (.cells #[.int .i64 tear] 3)).alloc (.cells #[.slice none 0 0, .slice none 0 0, .int .i64 0, .int .i64 0, .bool false] 38)) := by
    have h := (Bx.new (w.alloc (.cells #[.slice sa d.S.length sc, .slice pa d.P.length pc, .int .i64 d.fuse, .int .i64 d.ops, .bool d.dead] 38)) #[.int .i64 tear] 3)
    have h := h.alloc (.cells #[.slice none 0 0, .slice none 0 0, .int .i64 0, .int .i64 0, .bool false] 38)
    simpa using h
  have HA := Lib.hid hA; clear hA
  have hR : Bx (w.heap.size + 2) #[.slice none 0 0, .slice none 0 0, .int .i64 0, .int .i64 0, .bool false] 38 (((w.alloc (.cells #[.slice sa d.S.length sc, .slice pa d.P.length pc, .int .i64 d.fuse, .int .i64 d.ops, .bool d.dead] 38)).alloc (.cells #[.int .i64 tear] 3)).alloc (.cells #[.slice none 0 0, .slice none 0 0, .int .i64 0, .int .i64 0, .bool false] 38)) := by
    have h := (Bx.new ((w.alloc (.cells #[.slice sa d.S.length sc, .slice pa d.P.length pc, .int .i64 d.fuse, .int .i64 d.ops, .bool d.dead] 38)).alloc (.cells #[.int .i64 tear] 3)) #[.slice none 0 0, .slice none 0 0, .int .i64 0, .int .i64 0, .bool false] 38)
    simpa using h
  have HR := Lib.hid hR; clear hR
  have hD0 := hD.below hb0
  refine (callsIn_wide (n := 3)).1 ?_
  refine callsIn_of_wp_marks Try.func34 rfl trivial ?_ rfl
  simp only [Try.ntmps34, List.size_toArray, List.length_cons, List.length_nil, Nat.reduceAdd, Nat.reduceSub, Array.replicate_succ, Array.replicate_zero, List.push_toArray, List.append_toArray, List.nil_append, List.cons_append]
  gi_wp2_with fail
  refine ⟨trivial, callsIn_wide.2 ((clone_any _ _ _ _ _ _ hD0).mono ?_)⟩
  rintro e w1 ⟨a1, c1, a2, c2, rfl, hO, hb1⟩
  have hX := HX.out.call hb1; clear HX; have HX := Lib.hid hX; clear hX
  have hA := HA.out.call hb1; clear HA; have HA := Lib.hid hA; clear hA
  have hR := HR.out.call hb1; clear HR; have HR := Lib.hid hR; clear hR
  have hbl1 := btrans hb0 hb0.size hb1
  have hbl2 := hbl1.alloc hbl1.size (.cells #[.slice a1 d.S.length c1, .slice a2 d.P.length c2, .int .i64 d.fuse, .int .i64 d.ops, .bool d.dead] 38)
  have hX := HX.out.alloc (.cells #[.slice a1 d.S.length c1, .slice a2 d.P.length c2, .int .i64 d.fuse, .int .i64 d.ops, .bool d.dead] 38)
  have hA := HA.out.alloc (.cells #[.slice a1 d.S.length c1, .slice a2 d.P.length c2, .int .i64 d.fuse, .int .i64 d.ops, .bool d.dead] 38)
  have hR := HR.out.alloc (.cells #[.slice a1 d.S.length c1, .slice a2 d.P.length c2, .int .i64 d.fuse, .int .i64 d.ops, .bool d.dead] 38)
  have hY := Bx.new w1 #[.slice a1 d.S.length c1, .slice a2 d.P.length c2, .int .i64 d.fuse, .int .i64 d.ops, .bool d.dead] 38
  have hO1 := (hO.alloc (.cells #[.slice a1 d.S.length c1, .slice a2 d.P.length c2, .int .i64 d.fuse, .int .i64 d.ops, .bool d.dead] 38)).mono (B' := w.heap.size + 3) (by simp)
  have hne := hO.sne
  have hzz : w.heap.size + 3 ≤ w1.heap.size := by have := hb1.size; simp at this; omega
  have x0 : (w1.alloc (.cells #[.slice a1 d.S.length c1, .slice a2 d.P.length c2, .int .i64 d.fuse, .int .i64 d.ops, .bool d.dead] 38)).cell? ⟨w.heap.size, 0, none⟩ = some (.slice sa d.S.length sc) := hX.cell 0
  have x1 : (w1.alloc (.cells #[.slice a1 d.S.length c1, .slice a2 d.P.length c2, .int .i64 d.fuse, .int .i64 d.ops, .bool d.dead] 38)).cell? ⟨w.heap.size, 1, none⟩ = some (.slice pa d.P.length pc) := hX.cell 1
  have x2 : (w1.alloc (.cells #[.slice a1 d.S.length c1, .slice a2 d.P.length c2, .int .i64 d.fuse, .int .i64 d.ops, .bool d.dead] 38)).cell? ⟨w.heap.size, 2, none⟩ = some (.int .i64 d.fuse) := hX.cell 2
  have x3 : (w1.alloc (.cells #[.slice a1 d.S.length c1, .slice a2 d.P.length c2, .int .i64 d.fuse, .int .i64 d.ops, .bool d.dead] 38)).cell? ⟨w.heap.size, 3, none⟩ = some (.int .i64 d.ops) := hX.cell 3
  have x4 : (w1.alloc (.cells #[.slice a1 d.S.length c1, .slice a2 d.P.length c2, .int .i64 d.fuse, .int .i64 d.ops, .bool d.dead] 38)).cell? ⟨w.heap.size, 4, none⟩ = some (.bool d.dead) := hX.cell 4
  have hD1 := hD.below hbl2
  have HX := Lib.hid hX; have HY := Lib.hid hY; have HR := Lib.hid hR; have HA := Lib.hid hA; have HO := Lib.hid hO1; have HNE := Lib.hid hne
  clear hX hY hR hA hO hO1 hne hb1 hbl1 hb0 hD0
  gi_wp2_with fail
  refine ⟨trivial, callsIn_wide.2 ((Valid_any _ _ _ _ _ _ hD1).mono ?_)⟩
  cases hv : validB d with
  | false =>
    have HF := Lib.hid (crash_off kb tear hv)
    rintro e w2 ⟨rfl, hb2⟩
    have hY := HY.out.call hb2
    have hR := HR.out.call hb2
    have hO := HO.out.call hb2
    have hbl3 := btrans hbl2 hbl2.size hb2
    clear x0 x1 x2 x3 x4 hv hb2 HY HR HO HX HA
    have y0 : w2.cell? ⟨w1.heap.size, 0, none⟩ = some (.slice a1 d.S.length c1) := hY.cell 0
    have y1 : w2.cell? ⟨w1.heap.size, 1, none⟩ = some (.slice a2 d.P.length c2) := hY.cell 1
    have y2 : w2.cell? ⟨w1.heap.size, 2, none⟩ = some (.int .i64 d.fuse) := hY.cell 2
    have y3 : w2.cell? ⟨w1.heap.size, 3, none⟩ = some (.int .i64 d.ops) := hY.cell 3
    have y4 : w2.cell? ⟨w1.heap.size, 4, none⟩ = some (.bool d.dead) := hY.cell 4
    have r0 : w2.cell? ⟨w.heap.size + 2, 0, none⟩ = some (.slice none 0 0) := hR.cell 0
    have r1 : w2.cell? ⟨w.heap.size + 2, 1, none⟩ = some (.slice none 0 0) := hR.cell 1
    have r2 : w2.cell? ⟨w.heap.size + 2, 2, none⟩ = some (.int .i64 0) := hR.cell 2
    have r3 : w2.cell? ⟨w.heap.size + 2, 3, none⟩ = some (.int .i64 0) := hR.cell 3
    have r4 : w2.cell? ⟨w.heap.size + 2, 4, none⟩ = some (.bool false) := hR.cell 4
    have g0 := hR.free 0
    have g1 := hR.free 1
    have g2 := hR.free 2
    have g3 := hR.free 3
    have g4 := hR.free 4
    have kk := (hR.sets (.slice a1 d.S.length c1) (.slice a2 d.P.length c2) (.int .i64 d.fuse) (.int .i64 d.ops) (.bool d.dead))
    have k0 := kk.cell 0
    have k1 := kk.cell 1
    have k2 := kk.cell 2
    have k3 := kk.cell 3
    have k4 := kk.cell 4
    simp only [List.getElem?_toArray, List.getElem?_cons_zero, List.getElem?_cons_succ] at k0 k1 k2 k3 k4
    clear kk
    have HO := Lib.hid hO; have HB := Lib.hid hbl3
    clear hO hR hY hbl3
    gi_wp2
    refine ⟨.agg #[.slice a1 d.S.length c1, .slice a2 d.P.length c2, .int .i64 d.fuse, .int .i64 d.ops, .bool d.dead], by simp [results, Try.results34, go_sem, k0, k1, k2, k3, k4], ?_⟩
    rw [HF.out]
    refine ⟨a1, c1, a2, c2, rfl, ?_, ?_⟩
    · exact (HO.out.sets (w.heap.size + 2) (by omega) _ _ _ _ _).mono (by omega)
    · exact below_sets HB.out (w.heap.size + 2) (by omega) _ _ _ _ _
  | true =>
    have HF := Lib.hid (crash_on kb tear hv)
    have HV := Lib.hid hv
    rintro e w2 ⟨rfl, hb2⟩
    have hX := HX.out.call hb2; clear HX; have HX := Lib.hid hX; clear hX
    have hY := HY.out.call hb2; clear HY; have HY := Lib.hid hY; clear hY
    have hR := HR.out.call hb2; clear HR; have HR := Lib.hid hR; clear hR
    have hA := HA.out.call hb2; clear HA; have HA := Lib.hid hA; clear hA
    have hO := HO.out.call hb2
    clear HO
    have HO := Lib.hid hO
    have hbl3 := btrans hbl2 hbl2.size hb2
    have hz1 : w1.heap.size < w2.heap.size := HY.out.lt
    clear x0 x1 x2 x3 x4 hv hb2 hO
    have hX := HX.out.alloc (.cells #[.int .i64 (-1)] 3)
    have x0 : (w2.alloc (.cells #[.int .i64 (-1)] 3)).cell? ⟨w.heap.size, 0, none⟩ = some (.slice sa d.S.length sc) := hX.cell 0
    have x1 : (w2.alloc (.cells #[.int .i64 (-1)] 3)).cell? ⟨w.heap.size, 1, none⟩ = some (.slice pa d.P.length pc) := hX.cell 1
    have x2 : (w2.alloc (.cells #[.int .i64 (-1)] 3)).cell? ⟨w.heap.size, 2, none⟩ = some (.int .i64 d.fuse) := hX.cell 2
    have x3 : (w2.alloc (.cells #[.int .i64 (-1)] 3)).cell? ⟨w.heap.size, 3, none⟩ = some (.int .i64 d.ops) := hX.cell 3
    have x4 : (w2.alloc (.cells #[.int .i64 (-1)] 3)).cell? ⟨w.heap.size, 4, none⟩ = some (.bool d.dead) := hX.cell 4
    clear hX
    gi_wp2_with fail
    refine ⟨trivial, callsIn_wide.2 ((kept_any _ _ _ _ _ _ _ _ _).mono ?_)⟩
    rintro e w4 ⟨rfl, hw4⟩
    have hb4 : Below (w2.heap.size + 1) (w2.alloc (.cells #[.int .i64 (-1)] 3)) w4 := by rw [← hw4]; exact ((Below.refl _ _).alloc (by simp) _).alloc (by simp) _
    have hsz4 : w4.heap.size = w2.heap.size + 3 := by rw [← hw4]; simp
    have hbd : w4.cell? ⟨w2.heap.size + 1, 1, none⟩ = some (.slice pa d.P.length pc) := by
      have h := ((Bx.new (w2.alloc (.cells #[.int .i64 (-1)] 3)) #[.slice sa d.S.length sc, .slice pa d.P.length pc, .int .i64 d.fuse, .int .i64 d.ops, .bool d.dead] 38).alloc (.cells #[.slice ka kb.length kc] 50)).cell 1
      rw [hw4] at h; simpa using h
    have hbk : Bx (w2.heap.size + 1 + 1) #[.slice ka kb.length kc] 50 w4 := by
      have h := Bx.new ((w2.alloc (.cells #[.int .i64 (-1)] 3)).alloc (.cells #[.slice sa d.S.length sc, .slice pa d.P.length pc, .int .i64 d.fuse, .int .i64 d.ops, .bool d.dead] 38)) #[.slice ka kb.length kc] 50
      rw [hw4] at h; simpa using h
    have hL4 : Bx w2.heap.size #[.int .i64 (-1)] 3 w4 := (Bx.new w2 _ _).below hb4 (by omega)
    have hb24 : Below w2.heap.size w2 w4 := ((Below.refl _ _).alloc (Nat.le_refl _) _).trans (hb4.mono (by omega))
    have hS4 : BoS w.heap.size w4 (.slice ka kb.length kc) kb := hS.below (hbl3.trans (hb24.mono (by omega)))
    clear hw4 hb4 x0 x1 x2 x3 x4
    rw [show (w2.alloc (.cells #[.int .i64 (-1)] 3)).heap.size = w2.heap.size + 1 by simp]
    gi_wp2_with fail
    have hsz24 : w.heap.size + 3 ≤ w2.heap.size := by omega
    refine wpIn_rangeFunc_ownF rfl (by omega) (gf := 107) (lb := #[.pointer (some ⟨w2.heap.size + 1, 0, none⟩), .pointer (some ⟨w2.heap.size + 1 + 1, 0, none⟩)]) rfl trivial (enters_of Try.func107 (by kernel_rfl) rfl)
      (kept_stops Fence.wide (3 - 1) trivial rfl (by omega) (w2.heap.size + 1) (w2.heap.size + 1 + 1) w.heap.size d.P.length hD.2.2.1 kb pa ka pc kc w4 (by omega) (by omega) (by omega) hbd hbk hS4) KpC.trans (kpc_b (by omega) (by omega) (by omega)) (Below.refl _ _) (fun _ => rfl)
      (fun pre W => Bx w2.heap.size #[.int .i64 (lastI pre)] 3 W ∧ Below w2.heap.size w2 W)
      (fun _ _ _ => False)
      (OwnFrom.and (bx_from _ _ _ _) (ownFrom_below (Nat.le_refl _) (by omega)))
      (fun _ _ _ _ _ hs _ _ => hs)
      ⟨hL4, hb24⟩ ?pa ?passign ?pbody ?pdone ?pstop
    case passign =>
      intro l x W K hK
      gi_wp2
      exact hK
    case pbody =>
      rintro l pre x W ⟨hL, hB⟩ _
      have l0 : W.cell? ⟨w2.heap.size, 0, none⟩ = some (.int .i64 (lastI pre)) := hL.cell 0
      have g0 := hL.free 0
      gi_wp2
      exact ⟨KeepsOthers.setCell _ _ _, kpc_set (by omega) (by omega) (by omega) _, by rw [lastI_snoc]; exact hL.set 0 _, below_set hB _ 0 (Nat.le_refl _) _⟩
    case pstop =>
      rintro D c pre W _ _ h _
      exact h.elim
    case pdone =>
      rintro D xs W5 hD5 hxs ⟨hL, hB5⟩ hK
      obtain ⟨B1, o1, o2, o3, o4, o5⟩ := HO.out
      have hX := HX.out.below hB5 HX.out.lt
      have hA := HA.out.below hB5 HA.out.lt
      have hR := HR.out.below hB5 HR.out.lt
      have hY := HY.out.below hB5 HY.out.lt
      have hlt1 := HR.out.lt
      have hown := own_below o3 hB5
      have hbl5 := hbl3.trans (hB5.mono (by omega))
      obtain ⟨hn, hsec, hpen⟩ := (validB_iff d).1 HV.out
      obtain ⟨n1, n2, n3, n4, n5, n6⟩ := (numsB_iff d).1 hn
      obtain ⟨g, rfl, hgc, hgB⟩ : ∃ g, a1 = some ⟨g, 0, none⟩ ∧ d.S.length ≤ c1 ∧ w.heap.size + 3 ≤ g := by
        rcases own_form o3 with ⟨h, h0⟩ | ⟨g, cap, h, h3, h4⟩
        · omega
        · cases h; exact ⟨g, rfl, h3, h4⟩
      have hg2 : g < w2.heap.size := (o3.lt g rfl).2
      have hg1 : g ≠ w1.heap.size := fun e => HNE.out.1 (by rw [← e]; rfl)
      have HNE2 := Lib.hid HNE.out.1
      obtain ⟨la, hla⟩ : ∃ la, la = lastI xs := ⟨_, rfl⟩
      rw [← hla] at hL
      rw [hxs] at hla
      have HLA := Lib.hid hla; have HSEC := Lib.hid hsec; have HPEN := Lib.hid hpen
      clear o1 o2 o3 o4 o5 hn hsec hpen hla hxs hbd hbk hL4 hb24 hS4
      have x0 : W5.cell? ⟨w.heap.size, 0, none⟩ = some (.slice sa d.S.length sc) := hX.cell 0
      have x1 : W5.cell? ⟨w.heap.size, 1, none⟩ = some (.slice pa d.P.length pc) := hX.cell 1
      have x2 : W5.cell? ⟨w.heap.size, 2, none⟩ = some (.int .i64 d.fuse) := hX.cell 2
      have x3 : W5.cell? ⟨w.heap.size, 3, none⟩ = some (.int .i64 d.ops) := hX.cell 3
      have x4 : W5.cell? ⟨w.heap.size, 4, none⟩ = some (.bool d.dead) := hX.cell 4
      gi_wp2_with fail
      refine ⟨trivial, callsIn_wide.2 ((kept_any _ _ _ _ _ _ _ _ _).mono ?_)⟩
      rintro e w6 ⟨rfl, hw6⟩
      have hb6 : Below W5.heap.size W5 w6 := by rw [← hw6]; exact ((Below.refl _ _).alloc (Nat.le_refl _) _).alloc (by simp) _
      have hsz6 : w6.heap.size = W5.heap.size + 2 := by rw [← hw6]; simp
      have hbd : w6.cell? ⟨W5.heap.size, 1, none⟩ = some (.slice pa d.P.length pc) := by
        have h := ((Bx.new W5 #[.slice sa d.S.length sc, .slice pa d.P.length pc, .int .i64 d.fuse, .int .i64 d.ops, .bool d.dead] 38).alloc (.cells #[.slice ka kb.length kc] 50)).cell 1
        rw [hw6] at h; simpa using h
      have hbk : Bx (W5.heap.size + 1) #[.slice ka kb.length kc] 50 w6 := by
        have h := Bx.new (W5.alloc (.cells #[.slice sa d.S.length sc, .slice pa d.P.length pc, .int .i64 d.fuse, .int .i64 d.ops, .bool d.dead] 38)) #[.slice ka kb.length kc] 50
        rw [hw6] at h; simpa using h
      have hbl6 := hbl5.trans (hb6.mono (hbl5.size))
      have hS6 : BoS w.heap.size w6 (.slice ka kb.length kc) kb := hS.below hbl6
      have hX6 := hX.call hb6
      have hA6 := hA.call hb6
      have hR6 := hR.call hb6
      have hY6 := hY.call hb6
      have hL6 := hL.call hb6
      have hown6 := own_below hown hb6
      have hDlt : D < W5.heap.size := lt_heap hK
      have hK6 := (hb6.block D hDlt).trans hK
      have hs5 : w2.heap.size < W5.heap.size := hL.lt
      clear hw6 hb6 hX hA hR hY hL hown x0 x1 x2 x3 x4 hK hB5
      gi_wp2_with fail
      refine wpIn_rangeFunc_ownF rfl (by omega) (gf := 107) (lb := #[.pointer (some ⟨W5.heap.size, 0, none⟩), .pointer (some ⟨W5.heap.size + 1, 0, none⟩)]) rfl trivial (enters_of Try.func107 (by kernel_rfl) rfl)
        (kept_stops Fence.wide (3 - 1) trivial rfl (by omega) (W5.heap.size) (W5.heap.size + 1) w.heap.size d.P.length hD.2.2.1 kb pa ka pc kc w6 (by omega) (by omega) (by omega) hbd hbk hS6) KpC.trans (kpc_b (by omega) (by omega) (by omega)) (Below.refl _ _) (fun _ => rfl)
        (fun pre W => (Bx w1.heap.size #[.slice (some ⟨g, 0, none⟩) d.S.length c1, .slice a2 d.P.length c2, .int .i64 d.fuse, .int .i64 d.ops, .bool d.dead] 38 W ∧ W.ownsRow (w.heap.size + 3) 9 1 (.slice (some ⟨g, 0, none⟩) d.S.length c1) d.S.length ((foldC d.P d.S la tear pre).map strV)) ∧ (Bx w.heap.size #[.slice sa d.S.length sc, .slice pa d.P.length pc, .int .i64 d.fuse, .int .i64 d.ops, .bool d.dead] 38 W ∧ Bx (w.heap.size + 1) #[.int .i64 tear] 3 W ∧ Bx (w.heap.size + 2) #[.slice none 0 0, .slice none 0 0, .int .i64 0, .int .i64 0, .bool false] 38 W ∧ Bx w2.heap.size #[.int .i64 la] 3 W) ∧ W.heap[D]? = some (.deferred (some [])) ∧ Below w.heap.size w6 W)
        (fun _ _ _ => False)
        (OwnFrom.and (OwnFrom.and (bx_from _ _ _ (fun _ => _)) (row_from _ _ _ _ _ _)) (OwnFrom.and (OwnFrom.and (bx_from _ _ _ (fun _ => _)) (OwnFrom.and (bx_from _ _ _ (fun _ => _)) (OwnFrom.and (bx_from _ _ _ (fun _ => _)) (bx_from _ _ _ (fun _ => _))))) (OwnFrom.and (dfr_from _ _ _ (by omega)) (ownFrom_below (by omega) (by omega)))))
        (fun _ _ _ _ _ hs _ _ => hs)
        ⟨⟨hY6, hown6⟩, ⟨hX6, hA6, hR6, hL6⟩, hK6, Below.refl _ _⟩ ?qa ?qassign ?qbody ?qdone ?qstop
      case qassign =>
        intro l x W K hK
        gi_wp2
        exact hK
      case qstop =>
        rintro D2 c pre W _ _ h _
        exact h.elim
      case qdone =>
        rintro D2 ys W7 hD7 hys ⟨⟨hY, hown⟩, ⟨hX, hA, hR, hL⟩, hKd, hB6⟩ hK2
        have hD2l : D2 < W7.heap.size := lt_heap hK2
        have hDl : D < W7.heap.size := lt_heap hKd
        have hszW := hB6.size
        have hlg : g < W7.heap.size := (hown.lt g rfl).2
        have y0 : W7.cell? ⟨w1.heap.size, 0, none⟩ = some (.slice (some ⟨g, 0, none⟩) d.S.length c1) := hY.cell 0
        have y1 : W7.cell? ⟨w1.heap.size, 1, none⟩ = some (.slice a2 d.P.length c2) := hY.cell 1
        have y2 : W7.cell? ⟨w1.heap.size, 2, none⟩ = some (.int .i64 d.fuse) := hY.cell 2
        have y3 : W7.cell? ⟨w1.heap.size, 3, none⟩ = some (.int .i64 d.ops) := hY.cell 3
        have y4 : W7.cell? ⟨w1.heap.size, 4, none⟩ = some (.bool d.dead) := hY.cell 4
        have fy1 := hY.free 1
        have fy2 := hY.free 2
        have fy4 := hY.free 4
        have hY8 := ((hY.set 1 (.slice none 0 0)).set 4 (.bool false)).set 2 (.int .i64 0)
        have hR8 := ((hR.other (i := 1) (c := w1.heap.size) (by omega) (.slice none 0 0)).other (i := 4) (c := w1.heap.size) (by omega) (.bool false)).other (i := 2) (c := w1.heap.size) (by omega) (.int .i64 0)
        have z0 : (((W7.setCell ⟨w1.heap.size, 1, none⟩ (.slice none 0 0)).setCell ⟨w1.heap.size, 4, none⟩ (.bool false)).setCell ⟨w1.heap.size, 2, none⟩ (.int .i64 0)).cell? ⟨w1.heap.size, 0, none⟩ = some (.slice (some ⟨g, 0, none⟩) d.S.length c1) := hY8.cell 0
        have z1 : (((W7.setCell ⟨w1.heap.size, 1, none⟩ (.slice none 0 0)).setCell ⟨w1.heap.size, 4, none⟩ (.bool false)).setCell ⟨w1.heap.size, 2, none⟩ (.int .i64 0)).cell? ⟨w1.heap.size, 1, none⟩ = some (.slice none 0 0) := hY8.cell 1
        have z2 : (((W7.setCell ⟨w1.heap.size, 1, none⟩ (.slice none 0 0)).setCell ⟨w1.heap.size, 4, none⟩ (.bool false)).setCell ⟨w1.heap.size, 2, none⟩ (.int .i64 0)).cell? ⟨w1.heap.size, 2, none⟩ = some (.int .i64 0) := hY8.cell 2
        have z3 : (((W7.setCell ⟨w1.heap.size, 1, none⟩ (.slice none 0 0)).setCell ⟨w1.heap.size, 4, none⟩ (.bool false)).setCell ⟨w1.heap.size, 2, none⟩ (.int .i64 0)).cell? ⟨w1.heap.size, 3, none⟩ = some (.int .i64 d.ops) := hY8.cell 3
        have z4 : (((W7.setCell ⟨w1.heap.size, 1, none⟩ (.slice none 0 0)).setCell ⟨w1.heap.size, 4, none⟩ (.bool false)).setCell ⟨w1.heap.size, 2, none⟩ (.int .i64 0)).cell? ⟨w1.heap.size, 4, none⟩ = some (.bool false) := hY8.cell 4
        have r0 : (((W7.setCell ⟨w1.heap.size, 1, none⟩ (.slice none 0 0)).setCell ⟨w1.heap.size, 4, none⟩ (.bool false)).setCell ⟨w1.heap.size, 2, none⟩ (.int .i64 0)).cell? ⟨w.heap.size + 2, 0, none⟩ = some (.slice none 0 0) := hR8.cell 0
        have r1 : (((W7.setCell ⟨w1.heap.size, 1, none⟩ (.slice none 0 0)).setCell ⟨w1.heap.size, 4, none⟩ (.bool false)).setCell ⟨w1.heap.size, 2, none⟩ (.int .i64 0)).cell? ⟨w.heap.size + 2, 1, none⟩ = some (.slice none 0 0) := hR8.cell 1
        have r2 : (((W7.setCell ⟨w1.heap.size, 1, none⟩ (.slice none 0 0)).setCell ⟨w1.heap.size, 4, none⟩ (.bool false)).setCell ⟨w1.heap.size, 2, none⟩ (.int .i64 0)).cell? ⟨w.heap.size + 2, 2, none⟩ = some (.int .i64 0) := hR8.cell 2
        have r3 : (((W7.setCell ⟨w1.heap.size, 1, none⟩ (.slice none 0 0)).setCell ⟨w1.heap.size, 4, none⟩ (.bool false)).setCell ⟨w1.heap.size, 2, none⟩ (.int .i64 0)).cell? ⟨w.heap.size + 2, 3, none⟩ = some (.int .i64 0) := hR8.cell 3
        have r4 : (((W7.setCell ⟨w1.heap.size, 1, none⟩ (.slice none 0 0)).setCell ⟨w1.heap.size, 4, none⟩ (.bool false)).setCell ⟨w1.heap.size, 2, none⟩ (.int .i64 0)).cell? ⟨w.heap.size + 2, 4, none⟩ = some (.bool false) := hR8.cell 4
        have h0 := hR8.free 0
        have h1 := hR8.free 1
        have h2 := hR8.free 2
        have h3 := hR8.free 3
        have h4 := hR8.free 4
        have kk := hR8.sets (.slice (some ⟨g, 0, none⟩) d.S.length c1) (.slice none 0 0) (.int .i64 0) (.int .i64 d.ops) (.bool false)
        have hO8 := own_set2 (own_set2 (own_set2 hown w1.heap.size 1 HNE2.out (.slice none 0 0)) w1.heap.size 4 HNE2.out (.bool false)) w1.heap.size 2 HNE2.out (.int .i64 0)
        have hO9 := own_set (own_set (own_set (own_set (own_set hO8 (w.heap.size + 2) 0 (by omega) (.slice (some ⟨g, 0, none⟩) d.S.length c1)) (w.heap.size + 2) 1 (by omega) (.slice none 0 0)) (w.heap.size + 2) 2 (by omega) (.int .i64 0)) (w.heap.size + 2) 3 (by omega) (.int .i64 d.ops)) (w.heap.size + 2) 4 (by omega) (.bool false)
        have hB8 := below_set (below_set (below_set (hbl6.trans hB6) w1.heap.size 1 (by omega) (.slice none 0 0)) w1.heap.size 4 (by omega) (.bool false)) w1.heap.size 2 (by omega) (.int .i64 0)
        have hB9 := below_sets hB8 (w.heap.size + 2) (by omega) (.slice (some ⟨g, 0, none⟩) d.S.length c1) (.slice none 0 0) (.int .i64 0) (.int .i64 d.ops) (.bool false)
        have hne1 : D2 ≠ w1.heap.size := by omega
        have hne2 : D2 ≠ w.heap.size + 2 := by omega
        have hne3 : D ≠ w1.heap.size := by omega
        have hne4 : D ≠ w.heap.size + 2 := by omega
        have hne5 : D ≠ D2 := by omega
        have hK92 : ((((((((W7.setCell ⟨w1.heap.size, 1, none⟩ (.slice none 0 0)).setCell ⟨w1.heap.size, 4, none⟩ (.bool false)).setCell ⟨w1.heap.size, 2, none⟩ (.int .i64 0)).setCell ⟨w.heap.size + 2, 0, none⟩ (.slice (some ⟨g, 0, none⟩) d.S.length c1)).setCell ⟨w.heap.size + 2, 1, none⟩ (.slice none 0 0)).setCell ⟨w.heap.size + 2, 2, none⟩ (.int .i64 0)).setCell ⟨w.heap.size + 2, 3, none⟩ (.int .i64 d.ops)).setCell ⟨w.heap.size + 2, 4, none⟩ (.bool false)).heap[D2]? = some (.deferred (some [])) := by
          rw [heap_setCell_other _ _ D2 _ hne2, heap_setCell_other _ _ D2 _ hne2, heap_setCell_other _ _ D2 _ hne2, heap_setCell_other _ _ D2 _ hne2, heap_setCell_other _ _ D2 _ hne2, heap_setCell_other _ _ D2 _ hne1, heap_setCell_other _ _ D2 _ hne1, heap_setCell_other _ _ D2 _ hne1]; exact hK2
        have hK91 : ((((((((W7.setCell ⟨w1.heap.size, 1, none⟩ (.slice none 0 0)).setCell ⟨w1.heap.size, 4, none⟩ (.bool false)).setCell ⟨w1.heap.size, 2, none⟩ (.int .i64 0)).setCell ⟨w.heap.size + 2, 0, none⟩ (.slice (some ⟨g, 0, none⟩) d.S.length c1)).setCell ⟨w.heap.size + 2, 1, none⟩ (.slice none 0 0)).setCell ⟨w.heap.size + 2, 2, none⟩ (.int .i64 0)).setCell ⟨w.heap.size + 2, 3, none⟩ (.int .i64 d.ops)).setCell ⟨w.heap.size + 2, 4, none⟩ (.bool false)).heap[D]? = some (.deferred (some [])) := by
          rw [heap_setCell_other _ _ D _ hne4, heap_setCell_other _ _ D _ hne4, heap_setCell_other _ _ D _ hne4, heap_setCell_other _ _ D _ hne4, heap_setCell_other _ _ D _ hne4, heap_setCell_other _ _ D _ hne3, heap_setCell_other _ _ D _ hne3, heap_setCell_other _ _ D _ hne3]; exact hKd
        obtain ⟨W9, hW9⟩ : ∃ W9, W9 = ((((((((W7.setCell ⟨w1.heap.size, 1, none⟩ (.slice none 0 0)).setCell ⟨w1.heap.size, 4, none⟩ (.bool false)).setCell ⟨w1.heap.size, 2, none⟩ (.int .i64 0)).setCell ⟨w.heap.size + 2, 0, none⟩ (.slice (some ⟨g, 0, none⟩) d.S.length c1)).setCell ⟨w.heap.size + 2, 1, none⟩ (.slice none 0 0)).setCell ⟨w.heap.size + 2, 2, none⟩ (.int .i64 0)).setCell ⟨w.heap.size + 2, 3, none⟩ (.int .i64 d.ops)).setCell ⟨w.heap.size + 2, 4, none⟩ (.bool false)) := ⟨_, rfl⟩
        rw [← hW9] at kk hO9 hB9 hK92 hK91
        have hK93 : (W9.putObj D2 (.deferred none)).heap[D]? = some (.deferred (some [])) := (World.putObj_heap_other hne5).trans hK91
        have kf : Bx (w.heap.size + 2) #[.slice (some ⟨g, 0, none⟩) d.S.length c1, .slice none 0 0, .int .i64 0, .int .i64 d.ops, .bool false] 38 ((W9.putObj D2 (.deferred none)).putObj D (.deferred none)) := (World.putObj_heap_other (by omega)).trans ((World.putObj_heap_other (by omega)).trans kk)
        have k0 := kf.cell 0
        have k1 := kf.cell 1
        have k2 := kf.cell 2
        have k3 := kf.cell 3
        have k4 := kf.cell 4
        simp only [List.getElem?_toArray, List.getElem?_cons_zero, List.getElem?_cons_succ] at k0 k1 k2 k3 k4
        have hO10 := (row_from (β := Unit) 0 _ _ _ _ (fun _ => _)).putObj (s := ()) (.deferred none) ((row_from (β := Unit) 0 _ _ _ _ (fun _ => _)).putObj (s := ()) (.deferred none) hO9 (Nat.zero_le _) hK92 rfl) (Nat.zero_le _) hK93 rfl
        have hB10 := (hB9.trans (belowK_b (w := w) (Nat.le_refl _) W9 D2 _ (.deferred none) (by omega) hK92 rfl rfl)).trans (belowK_b (w := w) (Nat.le_refl _) _ D _ (.deferred none) (by omega) hK93 rfl rfl)
        have HOF := Lib.hid hO10; have HBF := Lib.hid hB10; have HK2 := Lib.hid hK92; have HK1 := Lib.hid hK93; have HY9 := Lib.hid hys; have HW9 := Lib.hid hW9
        clear hO10 hB10 hK92 hK93 hK91 hY hown hX hA hR hL hKd hB6 hK2 hY8 hR8 kk hO8 hO9 hB8 hB9 kf hys hW9
        gi_wp2
        rw [← HW9.out]
        refine ⟨by simp, .inl ⟨_, _, rfl, run_takeDeferred HK2.out, ⟨by simp, .inl ⟨_, _, rfl, run_takeDeferred HK1.out, ?_⟩⟩⟩⟩
        refine ⟨.agg #[.slice (some ⟨g, 0, none⟩) d.S.length c1, .slice none 0 0, .int .i64 0, .int .i64 d.ops, .bool false], by simp [results, Try.results34, go_sem, k0, k1, k2, k3, k4], ?_⟩
        have hlen := (foldC_inv la tear (fun x hx => (HPEN.out x hx).2.2) HSEC.out ys).1
        rw [HF.out, ← HLA.out, ← HY9.out]
        refine ⟨some ⟨g, 0, none⟩, c1, none, 0, ?_, ?_, HBF.out⟩
        · rw [hlen]; rfl
        · unfold Owned
          dsimp only
          rw [hlen]
          exact ⟨_, by have := HBF.out.size; exact Nat.le_trans this (Nat.le_refl _), fun g2 hg2 => (HOF.out.lt g2 hg2).2, own_mono HOF.out (show w.heap.size ≤ w.heap.size + 3 by omega), World.ownsRow_nil _ _ _ _, Nat.le_refl _⟩
      case qbody =>
        rintro l pre x W ⟨⟨hY, hown⟩, ⟨hX, hA, hR, hL⟩, hKd, hB6⟩ _
        have hB := hbl6.trans hB6
        have hszW := hB6.size
        obtain ⟨bp, op, rfl, p1, p2⟩ := (hD.below hB).pen x.1 x.2
        obtain ⟨q1, q2, q3⟩ := HPEN.out _ (List.getElem_mem x.2)
        obtain ⟨⟨at_, data⟩, hy⟩ : ∃ y, d.P[x.1] = y := ⟨_, rfl⟩
        rw [hy] at p1 p2 q1 q2 q3
        simp only at p1 p2 q1 q2 q3
        obtain ⟨m, rfl⟩ := Int.eq_ofNat_of_zero_le q1
        have hstep := foldC_snoc d.P d.S la tear pre x
        unfold stepC at hstep
        rw [hy] at hstep
        simp only [Int.toNat_natCast] at hstep
        have hinv := foldC_inv la tear (fun x hx => (HPEN.out x hx).2.2) HSEC.out pre
        obtain ⟨S1, hS1⟩ : ∃ S1, S1 = foldC d.P d.S la tear pre := ⟨_, rfl⟩
        rw [← hS1] at hown hstep hinv
        obtain ⟨i1, i2⟩ := hinv
        have hm : m < S1.length := by omega
        have hm64 : S1[m].length = 64 := i2 _ (List.getElem_mem hm)
        have hx2 : (m : Int) < (d.S.length : Int) := q2
        have hm0 : (0 : Int) ≤ (m : Int) := by omega
        have hxl : (x.1 : Int) < (d.P.length : Int) := by have := x.2; omega
        have hownA := hown.alloc (.cells #[.int .i64 m, .string (bs data)] 94)
        have s0 : (W.alloc (.cells #[.int .i64 m, .string (bs data)] 94)).cell? ⟨g, m, none⟩ = some (.string (bs S1[m])) := by
          rw [hownA.cellAt m (by omega), List.getElem?_map, List.getElem?_eq_getElem hm]; rfl
        have f0 := hownA.frozenAt m
        have hYA := hY.alloc (.cells #[.int .i64 m, .string (bs data)] 94)
        have hLA := hL.alloc (.cells #[.int .i64 m, .string (bs data)] 94)
        have hAA := hA.alloc (.cells #[.int .i64 m, .string (bs data)] 94)
        have y0 : (W.alloc (.cells #[.int .i64 m, .string (bs data)] 94)).cell? ⟨w1.heap.size, 0, none⟩ = some (.slice (some ⟨g, 0, none⟩) d.S.length c1) := hYA.cell 0
        have l0 : (W.alloc (.cells #[.int .i64 m, .string (bs data)] 94)).cell? ⟨w2.heap.size, 0, none⟩ = some (.int .i64 la) := hLA.cell 0
        have a0 : (W.alloc (.cells #[.int .i64 m, .string (bs data)] 94)).cell? ⟨w.heap.size + 1, 0, none⟩ = some (.int .i64 tear) := hAA.cell 0
        have x0 : W.cell? ⟨w.heap.size, 0, none⟩ = some (.slice sa d.S.length sc) := hX.cell 0
        have x1 : W.cell? ⟨w.heap.size, 1, none⟩ = some (.slice (some ⟨bp, op, none⟩) d.P.length pc) := hX.cell 1
        have x2 : W.cell? ⟨w.heap.size, 2, none⟩ = some (.int .i64 d.fuse) := hX.cell 2
        have x3 : W.cell? ⟨w.heap.size, 3, none⟩ = some (.int .i64 d.ops) := hX.cell 3
        have x4 : W.cell? ⟨w.heap.size, 4, none⟩ = some (.bool d.dead) := hX.cell 4
        have HST := Lib.hid hstep; have HY1 := Lib.hid hY; have HX1 := Lib.hid hX; have HA1 := Lib.hid hA; have HR1 := Lib.hid hR; have HL1 := Lib.hid hL; have HOW := Lib.hid hown; have HKD := Lib.hid hKd; have HB6 := Lib.hid hB6; have HS1 := Lib.hid hS1; have HM := Lib.hid hm; have HM64 := Lib.hid hm64; have HDL := Lib.hid q3
        have hlg : g < W.heap.size := (hown.lt g rfl).2
        have hlg6 : g < W5.heap.size := by omega
        clear hstep hY hX hA hR hL hown hKd hB6 hB hS1 i1 i2 hm64 q1 q3 hownA hYA hLA hAA hy
        have hxk : (0 : Int) ≤ (x.1 : Int) := by omega
        have hlD : D < W.heap.size := by omega
        by_cases hc1 : (x.1 : Int) = la
        · have t1 : ((x.1 : Int) == la) = true := by rw [beq_iff_eq]; exact hc1
          have HC := Lib.hid hc1; clear hc1
          by_cases hc2 : tear < 1
          · gi_wp2
            refine ⟨(KeepsOthers.setCell _ _ _).trans (KeepsOthers.alloc _ _), ?_, ⟨?_, ?_⟩, ⟨?_, ?_, ?_, ?_⟩, ?_, ?_⟩
            · exact (kpc_set (by omega) (by omega) (by omega) _).trans (kpc_alloc (by simp; omega) (by simp; omega) (by simp; omega) _)
            · exact (HY1.out.other (by omega) _).alloc _
            · have h1 := (HOW.out.stored m (.string (bs data))).1.alloc (.cells #[.int .i64 m, .string (bs data)] 94)
              rw [HST.out, if_neg (by omega), List.map_set]
              exact h1
            · exact (HX1.out.other (by omega) _).alloc _
            · exact (HA1.out.other (by omega) _).alloc _
            · exact (HR1.out.other (by omega) _).alloc _
            · exact (HL1.out.other (by omega) _).alloc _
            · exact (Below.heap_alloc _ _ D (by simp; omega)).trans ((heap_setCell_other _ _ D _ (by simp; omega)).trans HKD.out)
            · exact (below_set HB6.out g m (by omega) _).alloc (by simp; omega) _
          · by_cases hc3 : 64 ≤ tear
            · gi_wp2
              refine ⟨(KeepsOthers.setCell _ _ _).trans (KeepsOthers.alloc _ _), ?_, ⟨?_, ?_⟩, ⟨?_, ?_, ?_, ?_⟩, ?_, ?_⟩
              · exact (kpc_set (by omega) (by omega) (by omega) _).trans (kpc_alloc (by simp; omega) (by simp; omega) (by simp; omega) _)
              · exact (HY1.out.other (by omega) _).alloc _
              · have h1 := (HOW.out.stored m (.string (bs data))).1.alloc (.cells #[.int .i64 m, .string (bs data)] 94)
                rw [HST.out, if_neg (by omega), List.map_set]
                exact h1
              · exact (HX1.out.other (by omega) _).alloc _
              · exact (HA1.out.other (by omega) _).alloc _
              · exact (HR1.out.other (by omega) _).alloc _
              · exact (HL1.out.other (by omega) _).alloc _
              · exact (Below.heap_alloc _ _ D (by simp; omega)).trans ((heap_setCell_other _ _ D _ (by simp; omega)).trans HKD.out)
              · exact (below_set HB6.out g m (by omega) _).alloc (by simp; omega) _
            · obtain ⟨n, rfl⟩ := Int.eq_ofNat_of_zero_le (show 0 ≤ tear by omega)
              have hn1 : (1 : Int) ≤ (n : Int) := by omega
              have hn2 : (n : Int) < 64 := by omega
              have hle1 : n ≤ S1[m].length := by have := HM64.out; omega
              have hle3 : ¬ 9223372036854775807 < S1[m].length := by have := HM64.out; omega
              have hle2 : n ≤ data.length := by have := HDL.out; omega
              gi_wp2
              have hN := Bx.new W #[.int .i64 m, .string (bs data)] 94
              have b0 : (W.alloc (.cells #[.int .i64 m, .string (bs data)] 94)).cell? ⟨W.heap.size, 0, none⟩ = some (.int .i64 m) := hN.cell 0
              have b1 : (W.alloc (.cells #[.int .i64 m, .string (bs data)] 94)).cell? ⟨W.heap.size, 1, none⟩ = some (.string (bs data)) := hN.cell 1
              have b2 := hN.free 1
              have hHeld : (fun w' : World => w'.cell? ⟨w.heap.size + 1, 0, none⟩ = some (.int .i64 n) ∧ w'.cell? ⟨w1.heap.size, 0, none⟩ = some (.slice (some ⟨g, 0, none⟩) d.S.length c1) ∧ w'.cell? ⟨W.heap.size, 0, none⟩ = some (.int .i64 m) ∧ w'.cell? ⟨g, m, none⟩ = some (.string (bs S1[m]))) (W.alloc (.cells #[.int .i64 m, .string (bs data)] 94)).drew := ⟨a0, y0, b0, s0⟩
              refine wpIn_region_any (by kernel_rfl) (calm_region ?_ _ _ _ _ (wpAny_of_held (S := (fun w' : World => w'.cell? ⟨w.heap.size + 1, 0, none⟩ = some (.int .i64 n) ∧ w'.cell? ⟨w1.heap.size, 0, none⟩ = some (.slice (some ⟨g, 0, none⟩) d.S.length c1) ∧ w'.cell? ⟨W.heap.size, 0, none⟩ = some (.int .i64 m) ∧ w'.cell? ⟨g, m, none⟩ = some (.string (bs S1[m])))) _ _ _ _ ?_))
              · intro i o ho
                have hmm := Array.mem_of_getElem? ho
                clear ho
                simp only [List.mem_toArray, List.mem_cons, List.not_mem_nil, or_false] at hmm
                rcases hmm with rfl | rfl | rfl | rfl | rfl | rfl | rfl | rfl | rfl | rfl | rfl | rfl | rfl | rfl | rfl <;> first | exact calm_value (fun c h => by cases h) (fun _ _ => rfl) (fun _ => ⟨_, rfl⟩) | exact calm_unit (fun c h => by cases h) (fun _ _ => rfl) (fun _ => ⟨_, rfl⟩)
              change wpAnyH _ _ _ _ _ _ _ _ (World.drew _)
              refine takeH (i := 0) (v := ?vv1) 43 rfl rfl (by kernel_rfl) (by kernel_rfl) (by kernel_rfl) (fun _ _ _ h => by cases h.1) (Or.inl ⟨by kernel_rfl, ?yy1⟩) (by assumption) ?_
              case yy1 => intro w hSw; (try dsimp only at hSw); go_simp; (try with_reducible rfl)
              simp only [List.setIfInBounds_toArray, List.set_cons_zero, List.set_cons_succ]
              refine takeH (i := 2) (v := ?vv2) 45 rfl rfl (by kernel_rfl) (by kernel_rfl) (by kernel_rfl) (fun _ _ _ h => by cases h.1) (Or.inl ⟨by kernel_rfl, ?yy2⟩) (by assumption) ?_
              case yy2 => intro w hSw; (try dsimp only at hSw); go_simp; (try with_reducible rfl)
              simp only [List.setIfInBounds_toArray, List.set_cons_zero, List.set_cons_succ]
              refine takeH (i := 4) (v := ?vv3) 47 rfl rfl (by kernel_rfl) (by kernel_rfl) (by kernel_rfl) (fun _ _ _ h => by cases h.1) (Or.inl ⟨by kernel_rfl, ?yy3⟩) (by assumption) ?_
              case yy3 => intro w hSw; (try dsimp only at hSw); go_simp; (try with_reducible rfl)
              simp only [List.setIfInBounds_toArray, List.set_cons_zero, List.set_cons_succ]
              refine takeH (i := 5) (v := ?vv4) 48 rfl rfl (by kernel_rfl) (by kernel_rfl) (by kernel_rfl) (fun _ _ _ h => by cases h.1) (Or.inl ⟨by kernel_rfl, ?yy4⟩) (by assumption) ?_
              case yy4 => intro w hSw; (try dsimp only at hSw); go_simp; (try with_reducible rfl)
              simp only [List.setIfInBounds_toArray, List.set_cons_zero, List.set_cons_succ]
              refine takeH (i := 6) (v := ?vv5) 49 rfl rfl (by kernel_rfl) (by kernel_rfl) (by kernel_rfl) (fun _ _ _ h => by cases h.1) (Or.inl ⟨by kernel_rfl, ?yy5⟩) (by assumption) ?_
              case yy5 => intro w hSw; (try dsimp only at hSw); go_simp; (try with_reducible rfl)
              simp only [List.setIfInBounds_toArray, List.set_cons_zero, List.set_cons_succ]
              refine takeH (i := 7) (v := ?vv6) 50 rfl rfl (by kernel_rfl) (by kernel_rfl) (by kernel_rfl) (fun _ _ _ h => by cases h.1) (Or.inl ⟨by kernel_rfl, ?yy6⟩) (by assumption) ?_
              case yy6 => intro w hSw; (try dsimp only at hSw); go_simp; (try with_reducible rfl)
              simp only [List.setIfInBounds_toArray, List.set_cons_zero, List.set_cons_succ]
              refine takeH (i := 8) (v := ?vv7) 51 rfl rfl (by kernel_rfl) (by kernel_rfl) (by kernel_rfl) (fun _ _ _ h => by cases h.1) (Or.inl ⟨by kernel_rfl, ?yy7⟩) (by assumption) ?_
              case yy7 => intro w hSw; (try dsimp only at hSw); go_simp; (try with_reducible rfl)
              simp only [List.setIfInBounds_toArray, List.set_cons_zero, List.set_cons_succ]
              refine takeH (i := 9) (v := ?vv8) 52 rfl rfl (by kernel_rfl) (by kernel_rfl) (by kernel_rfl) (fun _ _ _ h => by cases h.1) (Or.inl ⟨by kernel_rfl, ?yy8⟩) (by assumption) ?_
              case yy8 => intro w hSw; (try dsimp only at hSw); go_simp; (try with_reducible rfl)
              simp only [List.setIfInBounds_toArray, List.set_cons_zero, List.set_cons_succ]
              refine takeH (i := 10) (v := ?vv9) 53 rfl rfl (by kernel_rfl) (by kernel_rfl) (by kernel_rfl) (fun _ _ _ h => by cases h.1) (Or.inl ⟨by kernel_rfl, ?yy9⟩) (by assumption) ?_
              case yy9 => intro w hSw; (try dsimp only at hSw); go_simp; (try with_reducible rfl)
              simp only [List.setIfInBounds_toArray, List.set_cons_zero, List.set_cons_succ]
              refine takeH (i := 11) (v := ?vv10) 54 rfl rfl (by kernel_rfl) (by kernel_rfl) (by kernel_rfl) (fun _ _ _ h => by cases h.1) (Or.inl ⟨by kernel_rfl, ?yy10⟩) (by assumption) ?_
              case yy10 => intro w hSw; (try dsimp only at hSw); go_simp; (try with_reducible rfl)
              simp only [List.setIfInBounds_toArray, List.set_cons_zero, List.set_cons_succ]
              refine wpAnyH_ready (rs := [1]) (by kernel_rfl) (by simp) ?_
              refine AllReadyH.cons rfl (fun K hK => ?_) AllReadyH.nil
              go_simp
              skip
              (try go_wp2_with fail)
              refine hK.out _ _ ?_ (fun hHeld => ?_)
              · exact ⟨a0, y0, b0, s0⟩
              clear hK K
              (try simp only [Act.put, List.setIfInBounds_toArray, List.set_cons_zero, List.set_cons_succ])
              refine takeH (i := 3) (v := ?vv11) 46 rfl rfl (by kernel_rfl) (by kernel_rfl) (by kernel_rfl) (fun _ _ _ h => by cases h.1) (Or.inl ⟨by kernel_rfl, ?yy11⟩) (by assumption) ?_
              case yy11 => intro w hSw; (try dsimp only at hSw); go_simp; (try with_reducible rfl)
              simp only [List.setIfInBounds_toArray, List.set_cons_zero, List.set_cons_succ]
              refine takeH (i := 12) (v := ?vv12) 55 rfl rfl (by kernel_rfl) (by kernel_rfl) (by kernel_rfl) (fun _ _ _ h => by cases h.1) (Or.inl ⟨by kernel_rfl, ?yy12⟩) (by assumption) ?_
              case yy12 => intro w hSw; (try dsimp only at hSw); go_simp; (try with_reducible rfl)
              simp only [List.setIfInBounds_toArray, List.set_cons_zero, List.set_cons_succ]
              refine takeH (i := 13) (v := ?vv13) 56 rfl rfl (by kernel_rfl) (by kernel_rfl) (by kernel_rfl) (fun _ _ _ h => by cases h.1) (Or.inl ⟨by kernel_rfl, ?yy13⟩) (by assumption) ?_
              case yy13 => intro w hSw; (try dsimp only at hSw); go_simp; (try with_reducible rfl)
              simp only [List.setIfInBounds_toArray, List.set_cons_zero, List.set_cons_succ]
              have hNC := Bx.new W #[.int .i64 m, .string (bs (List.take n data ++ List.drop n S1[m]))] 94
              have hOC := (HOW.out.alloc (.cells #[.int .i64 m, .string (bs (List.take n data ++ List.drop n S1[m]))] 94)).drew
              have ca : (W.alloc (.cells #[.int .i64 m, .string (bs (List.take n data ++ List.drop n S1[m]))] 94)).drew.cell? ⟨w.heap.size + 1, 0, none⟩ = some (.int .i64 n) := (HA1.out.alloc _).cell 0
              have cy : (W.alloc (.cells #[.int .i64 m, .string (bs (List.take n data ++ List.drop n S1[m]))] 94)).drew.cell? ⟨w1.heap.size, 0, none⟩ = some (.slice (some ⟨g, 0, none⟩) d.S.length c1) := (HY1.out.alloc _).cell 0
              have cb0 : (W.alloc (.cells #[.int .i64 m, .string (bs (List.take n data ++ List.drop n S1[m]))] 94)).drew.cell? ⟨W.heap.size, 0, none⟩ = some (.int .i64 m) := hNC.cell 0
              have cb1 : (W.alloc (.cells #[.int .i64 m, .string (bs (List.take n data ++ List.drop n S1[m]))] 94)).drew.cell? ⟨W.heap.size, 1, none⟩ = some (.string (bs (List.take n data ++ List.drop n S1[m]))) := hNC.cell 1
              have cs0 : (W.alloc (.cells #[.int .i64 m, .string (bs (List.take n data ++ List.drop n S1[m]))] 94)).drew.cell? ⟨g, m, none⟩ = some (.string (bs S1[m])) := by
                rw [hOC.cellAt m (by have := HM.out; omega), List.getElem?_map, List.getElem?_eq_getElem HM.out]; rfl
              have cf := hOC.frozenAt m
              clear hNC hOC
              refine wpAnyH_ready (rs := [14]) (by kernel_rfl) (by simp) ?_
              refine AllReadyH.cons rfl (fun K hK => ?_) AllReadyH.nil
              go_simp
              skip
              (try go_wp2_with fail)
              refine hK.out _ _ ?_ (fun hHeld => ?_)
              · exact ⟨ca, cy, cb0, cs0⟩
              clear hK K
              (try simp only [Act.put, List.setIfInBounds_toArray, List.set_cons_zero, List.set_cons_succ])
              refine wpAnyH_done (by kernel_rfl) ?_ _
              refine ⟨rfl, ?_⟩
              gi_wp2
              refine ⟨((KeepsOthers.setCell _ _ _).trans (KeepsOthers.alloc _ _)).trans (KeepsOthers.drew _), ?_, ⟨?_, ?_⟩, ⟨?_, ?_, ?_, ?_⟩, ?_, ?_⟩
              · exact ((kpc_set (by omega) (by omega) (by omega) _).trans (kpc_alloc (by simp; omega) (by simp; omega) (by simp; omega) _)).trans ⟨(Below.refl _ _).drew, rfl, rfl⟩
              · exact ((HY1.out.other (by omega) _).alloc _).drew
              · have h1 := ((HOW.out.stored m (.string (bs (List.take n data ++ List.drop n S1[m])))).1.alloc (.cells #[.int .i64 m, .string (bs (List.take n data ++ List.drop n S1[m]))] 94)).drew
                rw [HST.out, if_pos ⟨HC.out, hn1, hn2⟩, List.map_set]
                unfold cutW
                rw [Int.toNat_natCast, List.getD_eq_getElem?_getD, List.getElem?_eq_getElem HM.out, Option.getD_some]
                exact h1
              · exact ((HX1.out.other (by omega) _).alloc _).drew
              · exact ((HA1.out.other (by omega) _).alloc _).drew
              · exact ((HR1.out.other (by omega) _).alloc _).drew
              · exact ((HL1.out.other (by omega) _).alloc _).drew
              · exact (Below.heap_alloc _ _ D (by simp; omega)).trans ((heap_setCell_other _ _ D _ (by simp; omega)).trans HKD.out)
              · exact ((below_set HB6.out g m (by omega) _).alloc (by simp; omega) _).drew
        · have t1 : ((x.1 : Int) == la) = false := by rw [beq_eq_false_iff_ne]; exact hc1
          gi_wp2
          refine ⟨(KeepsOthers.setCell _ _ _).trans (KeepsOthers.alloc _ _), ?_, ⟨?_, ?_⟩, ⟨?_, ?_, ?_, ?_⟩, ?_, ?_⟩
          · exact (kpc_set (by omega) (by omega) (by omega) _).trans (kpc_alloc (by simp; omega) (by simp; omega) (by simp; omega) _)
          · exact (HY1.out.other (by omega) _).alloc _
          · have h1 := (HOW.out.stored m (.string (bs data))).1.alloc (.cells #[.int .i64 m, .string (bs data)] 94)
            rw [HST.out, if_neg (fun h => hc1 h.1), List.map_set]
            exact h1
          · exact (HX1.out.other (by omega) _).alloc _
          · exact (HA1.out.other (by omega) _).alloc _
          · exact (HR1.out.other (by omega) _).alloc _
          · exact (HL1.out.other (by omega) _).alloc _
          · exact (Below.heap_alloc _ _ D (by simp; omega)).trans ((heap_setCell_other _ _ D _ (by simp; omega)).trans HKD.out)
          · exact (below_set HB6.out g m (by omega) _).alloc (by simp; omega) _
end Go.Proofs.Ytkpfkknldeafkaa
namespace Go.Proofs.Ytkpfkknldeafkaa
open Go.RowKit

set_option maxRecDepth 100000 in
theorem CellsAt.of_wr {W : World} {v : Value} {M : List (Int × List UInt8)} (h : WrS W v M) : CellsAt W v M.length (wcs M) := by
  obtain ⟨ad, cap, rfl, hc, hx⟩ := h
  refine ⟨ad, cap, rfl, fun hne => ?_⟩
  obtain ⟨b, off, rfl, hcell⟩ := hx (by intro h0; rw [h0] at hne; exact hne rfl)
  refine ⟨b, off, rfl, fun j y hj => ?_⟩
  obtain ⟨i, hi, hcase⟩ := wcs_at M j y hj
  obtain ⟨p1, p2⟩ := hcell i hi
  rcases hcase with ⟨rfl, rfl⟩ | ⟨rfl, rfl⟩
  · exact p1
  · rw [← Nat.add_assoc]; exact p2
end Go.Proofs.Ytkpfkknldeafkaa
namespace Go.Proofs.Ytkpfkknldeafkaa
open Go.RowKit

set_option maxRecDepth 100000 in
theorem StrS.set {W : World} {a : Option Addr} {n c : Nat} {L : List (List UInt8)} (h : StrS W (.slice a n c) L) (q j : Nat) (hq : ∀ b off, a = some ⟨b, off, none⟩ → q ≠ b) (v : Value) : StrS (W.setCell ⟨q, j, none⟩ v) (.slice a n c) L := by
  obtain ⟨a2, cap, he, hc, hx⟩ := h
  refine ⟨a2, cap, he, hc, fun hne => ?_⟩
  obtain ⟨b, off, ha, hcell⟩ := hx hne
  refine ⟨b, off, ha, fun i hi => ?_⟩
  cases he
  rw [World.cell?_setCell_far _ _ _ _ (hq b off ha)]
  exact hcell i hi
/-- a is no address in either of two blocks -/
def NeB (a : Option Addr) (x y : Nat) : Prop := ∀ b off, a = some ⟨b, off, none⟩ → x ≠ b ∧ y ≠ b
theorem NeB.mk {a : Option Addr} {x y b o : Nat} (h : a = some ⟨b, o, none⟩) (h1 : x ≠ b) (h2 : y ≠ b) : NeB a x y := by
  intro b2 o2 h3; rw [h] at h3; cases h3; exact ⟨h1, h2⟩
end Go.Proofs.Ytkpfkknldeafkaa
namespace Go.Proofs.Ytkpfkknldeafkaa
open Go.RowKit

theorem Bx.drewN {b : Nat} {cs : Array Value} {T : TypeId} {W : World} (h : Bx b cs T W) (n : Nat) : Bx b cs T (W.drewN n) := h
theorem cell1_below {W W' : World} {b i : Nat} {u : Value} (h : W.cell? ⟨b, i, none⟩ = some u) (hb : Below W.heap.size W W') : W'.cell? ⟨b, i, none⟩ = some u := by
  rw [(bcell hb).1 _ _ (World.block_lt_of_cell? W _ h)]; exact h
theorem cell1_set {W : World} {b i c j : Nat} {u : Value} (v : Value) (h1 : c ≠ b) (h : W.cell? ⟨b, i, none⟩ = some u) : (W.setCell ⟨c, j, none⟩ v).cell? ⟨b, i, none⟩ = some u := by
  rw [World.cell?_setCell_far _ _ _ _ h1]; exact h
end Go.Proofs.Ytkpfkknldeafkaa
namespace Go.Proofs.Ytkpfkknldeafkaa
open Go.ChangeShapes Go.WideShapes Go.ChangeAt Go.RowKit

theorem sized_of {H : Type} {P : Program} {ts : List TypeId} {ds : List (DataW H)} (h : (DataW.weightsEach P ts ds).all (· ≤ reachBytes) = true) {j : Nat} {t : TypeId} {d : DataW H} (ht : ts[j]? = some t) (hd : ds[j]? = some d) : ∀ n ∈ d.weights P t, n ≤ reachBytes := by
  intro n hn
  have := List.all_eq_true.1 h n (DataW.weights_mem_each ht hd n hn)
  simpa using this
theorem BoS.mono {n₀ n₁ : Nat} {W : World} {v : Value} {kb : List Bool} (h : BoS n₀ W v kb) (hn : n₀ ≤ n₁) : BoS n₁ W v kb := by
  obtain ⟨a, cap, rfl, hc, hx⟩ := h
  refine ⟨a, cap, rfl, hc, fun hne => ?_⟩
  obtain ⟨b, off, rfl, hlt, hcell⟩ := hx hne
  exact ⟨b, off, rfl, by omega, hcell⟩

section
variable {H : Type} {enc : TypeId × Value → H} {W : World} {base : Nat} {spare : Nat → Bool} {held : Bool}

end
end Go.Proofs.Ytkpfkknldeafkaa
namespace Go.Proofs.Ytkpfkknldeafkaa
open Go.RowKit

set_option maxRecDepth 100000 in
theorem perform_get : ∀ (P : List (Int × List UInt8)) (S : List (List UInt8)) (k : Nat), k < S.length → (∀ x ∈ P, 0 ≤ x.1 ∧ x.1 < (S.length : Int)) → (perform S P).getD k [] = lastW (S.getD k []) P k
  | [], _, _, _, _ => rfl
  | x :: r, S, k, hk, hP => by
    have hx := hP x (by simp)
    have e1 : perform S (x :: r) = perform (S.set x.1.toNat x.2) r := rfl
    have e2 : lastW (S.getD k []) (x :: r) k = lastW (if x.1 = (k : Int) then x.2 else S.getD k []) r k := rfl
    rw [e1, e2, perform_get r (S.set x.1.toNat x.2) k (by simpa using hk) (by intro y hy; have := hP y (by simp [hy]); simpa using this)]
    congr 1
    rw [List.getD_eq_getElem?_getD, List.getElem?_set]
    by_cases h : x.1 = (k : Int)
    · rw [if_pos h, if_pos (by omega), if_pos (by omega)]; rfl
    · rw [if_neg h, if_neg (by omega), List.getD_eq_getElem?_getD]
end Go.Proofs.Ytkpfkknldeafkaa
namespace Go.Proofs.Ytkpfkknldeafkaa
open Go.RowKit

/-- new bytes in a row of the call's own -/
def AppPost (L : List UInt8) (w : World) (e : Ending) (w' : World) : Prop := ∃ v', e = .returned v' ∧ w'.ownsRow w.heap.size 5 1 v' L.length (bcs L) ∧ Below w.heap.size w w'
theorem own_addr {B : Nat} {W : World} {g cap : Nat} {L : List UInt8} (h : W.ownsRow B 5 1 (.slice (some ⟨g, 0, none⟩) L.length cap) L.length (bcs L)) : ∀ j u, (bcs L)[j]? = some u → W.cell? ⟨g, 0 + j, none⟩ = some u := by
  intro j u hj
  have h1 := h.cells (g := g) rfl j u hj
  have e : (⟨g, 0, none⟩ : Addr).add j = ⟨g, 0 + j, none⟩ := by unfold Addr.add; split <;> simp_all
  rw [e] at h1; exact h1
set_option maxRecDepth 100000 in
set_option maxHeartbeats 1000000 in
theorem appended_any (B : Nat) (v : Value) (L : List UInt8) (y : UInt8) (z : Int) (hz : z = (y.toNat : Int)) (w : World) (hown : w.ownsRow B 5 1 v L.length (bcs L)) (hL : L.length ≤ 1000000) :
    Calls Try.prog 91 #[v, .int .u8 z] w (AppPost (L ++ [y]) w) := by
  subst hz
  rcases own_form hown with ⟨rfl, h0⟩ | ⟨g, cap, rfl, hc, _⟩
  · have : L = [] := List.eq_nil_of_length_eq_zero h0
    subst this
    have hown0 : w.ownsRow w.heap.size 5 1 (.slice none 0 0) ([] : List UInt8).length (bcs []) := World.ownsRow_nil _ _ _ _
    go_enter Try.func91, Try.ntmps91
    go_wp2_with (at_builtin; refine wpList_append_byte rfl _ _ rfl w.heap.size _ [] y hown0 rfl rfl (by simp) w (Below.refl _ _) (Nat.le_refl _) _ rfl ?_; intro v2 w2 hown2 hbel2 _)
    go_ret
    exact ⟨v2, rfl, by simpa using hown2, hbel2⟩
  · have hcell := own_addr hown
    have hlt := (hown.lt g rfl).2
    obtain ⟨i0, hi, hz0, hz1, hz2⟩ := info_parts Try.infoByte
    have hc1 : ∀ j u, (bcs L)[j]? = some u → (w.alloc (.cells #[.int .u8 (y.toNat : Int)] 5)).cell? ⟨g, 0 + j, none⟩ = some u := by
      intro j u hj
      rw [← hcell j u hj]
      exact ((Below.refl w.heap.size w).alloc (Nat.le_refl _) _).cell (p := ⟨g, 0 + j, none⟩) hlt
    have HC := Lib.hid hc1; clear hc1 hcell
    go_enter Try.func91, Try.ntmps91
    go_wp2_with (at_builtin; refine wpList_append_arg _ rfl _ _ 81 rfl 5 i0 (.int .u8 0) 1 1 Try.underlying81 hi hz0 hz1 hz2 rfl (by decide) g 0 L.length L.length (bcs L) rfl (by simp [bcs]) HC.out ⟨w.heap.size, 0, none⟩ 1 1 [.int .u8 (y.toNat : Int)] rfl rfl (cell_one_new _ _ _) (by intro u hu; simp at hu; subst hu; rfl) (fun h => absurd h (by omega)) (by unfold maxLen; omega) (by omega) (fun h => absurd h (by omega)) ?_; intro _ v2 w2 hown2 hg2)
    go_ret
    refine ⟨v2, rfl, ?_, ?_⟩
    · have := own_mono hown2 (base' := w.heap.size) (by simp)
      simpa [bcs] using this
    · exact ((Below.refl w.heap.size w).alloc (Nat.le_refl _) _).grown hg2 (by simp) (fun k hk => by cases hk)

theorem uint_lt (u i : Nat) (hi : i ≤ 9) (h : u < 128 ^ (9 - i) * 2) (h128 : ¬ u < 128) : i < 9 := by
  rcases Nat.lt_or_ge i 9 with h1 | h1
  · exact h1
  · obtain rfl : i = 9 := by omega
    simp at h; omega
theorem uint_div (u i : Nat) (hi : i < 9) (h : u < 128 ^ (9 - i) * 2) : u / 128 < 128 ^ (9 - (i + 1)) * 2 := by
  refine Nat.div_lt_of_lt_mul ?_
  rw [show 9 - i = (9 - (i + 1)) + 1 by omega, Nat.pow_succ] at h
  have : 128 * (128 ^ (9 - (i + 1)) * 2) = 128 ^ (9 - (i + 1)) * 128 * 2 := by rw [Nat.mul_comm (128 ^ (9 - (i + 1))) 128, Nat.mul_assoc]
  omega
theorem uint_step (u i : Nat) (hi : i < 9) (h128 : ¬ u < 128) (L R : List UInt8) (h : L ++ uintF (9 - i) u = R) : (L ++ [UInt8.ofNat (u % 128 + 128)]) ++ uintF (9 - (i + 1)) (u / 128) = R := by
  rw [← h, show 9 - i = (9 - (i + 1)) + 1 by omega]
  conv => rhs; unfold uintF
  rw [if_neg h128, List.append_assoc]; rfl
theorem uint_last (u i : Nat) (h128 : u < 128) (L R : List UInt8) (h : L ++ uintF (9 - i) u = R) : L ++ [UInt8.ofNat u] = R := by
  rw [← h]
  cases 9 - i with
  | zero => rfl
  | succ k => unfold uintF; rw [if_pos h128]
theorem uint_bound (i : Nat) : 128 ^ (9 - i) * 2 ≤ 18446744073709551616 := by
  have h := Nat.pow_le_pow_right (n := 128) (by decide) (show 9 - i ≤ 9 by omega)
  have e : (128 : Nat) ^ 9 * 2 = 18446744073709551616 := by decide
  omega
theorem byte_small (u : Nat) (h : u < 128) : (u : Int) = ((UInt8.ofNat u).toNat : Int) := by rw [UInt8.toNat_ofNat']; omega
theorem byte_or_all : ∀ a : Fin 256, bits .or .u8 (a.val : Int) 128 = ((a.val % 128 + 128 : Nat) : Int) := by decide +kernel
theorem byte_or (u : Nat) : bits .or .u8 ((u : Int) % 256) 128 = ((UInt8.ofNat (u % 128 + 128)).toNat : Int) := by
  have h := byte_or_all ⟨u % 256, by omega⟩
  simp only at h
  rw [show ((u : Int) % 256) = ((u % 256 : Nat) : Int) by omega, h, UInt8.toNat_ofNat']
  omega
set_option maxRecDepth 100000 in
set_option maxHeartbeats 1000000 in
theorem Uint_any (u : Nat) (hu : u < 18446744073709551616) (w : World) :
    Calls Try.prog 51 #[.int .u64 (u : Int)] w fun e w' => e = .returned (.string (bs (uintS u))) ∧ Below w.heap.size w w' := by
  have hu0 : u < 128 ^ 9 * 2 := by have e : (128 : Nat) ^ 9 * 2 = 18446744073709551616 := by decide
                                   omega
  have HU := Lib.hid hu0; clear hu0 hu
  obtain ⟨R, hR⟩ : ∃ R, uintS u = R := ⟨_, rfl⟩
  rw [hR]
  have HR := Lib.hid hR; clear hR
  go_enter Try.func51, Try.ntmps51
  go_wp2
  go_loopw [0, 3] (fun x v wr => ∃ (i u' : Nat) (L : List UInt8), i ≤ 9 ∧ L.length = i ∧ x = .int .u64 (u' : Int) ∧ u' < 128 ^ (9 - i) * 2 ∧ L ++ uintF (9 - i) u' = R ∧ wr.ownsRow w.heap.size 5 1 v L.length (bcs L) ∧ Below w.heap.size w wr) (fun x _ _ => (intOf x).toNat)
  case atStart => exact ⟨0, u, [], by omega, rfl, rfl, HU.out, HR.out, World.ownsRow_nil _ _ _ _, Below.refl _ _⟩
  case round =>
    obtain ⟨i, u', L, hi, hL, rfl, hu', hRL, hown, hbr⟩ := hrel
    have hb := uint_bound i
    have hu0 : (0 : Int) ≤ (u' : Int) := by omega
    have hu1 : (u' : Int) < 18446744073709551616 := by omega
    have HUL := Lib.hid hu'; have HRL := Lib.hid hRL; have HOW := Lib.hid hown; have HBR := Lib.hid hbr; have HL := Lib.hid hL
    clear hu' hRL hown hbr hb hL
    by_cases h128 : u' < 128
    · have h1 : ¬ (128 : Int) ≤ (u' : Int) := by omega
      have hm : u' % 256 = u' := by omega
      go_wp2_with fail
      refine (appended_any w.heap.size _ L (UInt8.ofNat u') _ (byte_small u' h128) wr HOW.out (by rw [HL.out]; omega)).mono ?_
      rintro e w2 ⟨v2, rfl, hown2, hb2⟩
      have hconv := own_conv hown2
      rw [uint_last u' i h128 L R HRL.out] at hconv
      clear hown2
      go_wp2
      go_ret
      exact ⟨rfl, btrans HBR.out HBR.out.size hb2⟩
    · have h1 : (128 : Int) ≤ (u' : Int) := by omega
      go_wp2_with fail
      refine (appended_any w.heap.size _ L (UInt8.ofNat (u' % 128 + 128)) _ (byte_or u') wr HOW.out (by rw [HL.out]; omega)).mono ?_
      rintro e w2 ⟨v2, rfl, hown2, hb2⟩
      have hi9 := uint_lt u' i hi HUL.out h128
      have HO2 := Lib.hid (own_mono hown2 HBR.out.size); have HB2 := Lib.hid hb2; clear hown2 hb2
      go_wp2
      go_roundw
      case rel => exact ⟨i + 1, u' / 128, _, by omega, by simp [HL.out], by go_num, uint_div u' i hi9 HUL.out, uint_step u' i hi9 h128 L R HRL.out, HO2.out, btrans HBR.out HBR.out.size HB2.out⟩
      case measure => simp [intOf]; omega

set_option maxRecDepth 100000 in
theorem outside_any (l : List UInt8) (n : Int) (w : World) (_hl : l.length ≤ 1000000000000000) :
    Calls Try.prog 97 #[.string (bs l), .int .i64 n] w fun e w' => e = .returned (.bool (!(decide (0 ≤ n) && decide (n ≤ (l.length : Int))))) ∧ w = w' := by
  by_cases h0 : n < 0
  · have e : (decide (0 ≤ n) && decide (n ≤ (l.length : Int))) = false := by rw [decide_eq_false (by omega)]; rfl
    rw [e]; clear e
    go_enter Try.func97, Try.ntmps97
    go_wp2
    go_ret
    exact ⟨rfl, rfl⟩
  · have e : (decide (0 ≤ n) && decide (n ≤ (l.length : Int))) = decide (n ≤ (l.length : Int)) := by rw [decide_eq_true (by omega : (0 : Int) ≤ n)]; rfl
    rw [e]; clear e
    by_cases h1 : n ≤ (l.length : Int)
    · have e : decide (n ≤ (l.length : Int)) = true := decide_eq_true h1
      rw [e]; clear e
      have h2 : ¬ (l.length : Int) < n := by omega
      go_enter Try.func97, Try.ntmps97
      go_wp2
      go_ret
      exact ⟨rfl, rfl⟩
    · have e : decide (n ≤ (l.length : Int)) = false := decide_eq_false h1
      rw [e]; clear e
      have h2 : (l.length : Int) < n := by omega
      go_enter Try.func97, Try.ntmps97
      go_wp2
      go_ret
      exact ⟨rfl, rfl⟩
/-! ### one round of TakeUint -/
theorem tkF_end (l : List UInt8) (m k u : Nat) (hk : k < 10) (h : ¬ m + k < l.length) : tkF (10 - k) (l.drop (m + k)) k u = (0, 0, 6) := by
  rw [List.drop_of_length_le (by omega), show 10 - k = (9 - k) + 1 by omega]; rfl
theorem tkF_step (l : List UInt8) (m k u : Nat) (hk : k < 10) (h : m + k < l.length) : tkF (10 - k) (l.drop (m + k)) k u =
    if (k = 9 ∧ 1 < l[m + k].toNat) ∨ (l[m + k].toNat = 0 ∧ 0 < k) then (0, 0, 5)
    else if l[m + k].toNat < 128 then (u + l[m + k].toNat % 128 * 128 ^ k, k + 1, 0) else tkF (10 - (k + 1)) (l.drop (m + (k + 1))) (k + 1) (u + l[m + k].toNat % 128 * 128 ^ k) := by
  rw [List.drop_eq_getElem_cons h, show 10 - k = (9 - k) + 1 by omega, show 10 - (k + 1) = 9 - k by omega]; rfl
theorem byte_and_all : ∀ a : Fin 256, bits .and .u8 (a.val : Int) 127 = ((a.val % 128 : Nat) : Int) := by decide +kernel
theorem byte_and (c : UInt8) : bits .and .u8 (c.toNat : Int) 127 = ((c.toNat % 128 : Nat) : Int) := byte_and_all ⟨c.toNat, c.toNat_lt⟩
theorem pow7 (k : Nat) : (2 : Nat) ^ (7 * k) = 128 ^ k := by rw [Nat.pow_mul]
set_option maxRecDepth 100000 in
theorem mul_bound (k : Nat) (c : Nat) (hk : k < 10) (h9 : k = 9 → c ≤ 1) : c % 128 * 128 ^ k < 18446744073709551616 := by
  by_cases h : k = 9
  · have := h9 h
    subst h
    have e : (128 : Nat) ^ 9 = 9223372036854775808 := by decide
    rw [e, Nat.mod_eq_of_lt (by omega)]
    have := Nat.mul_le_mul_right 9223372036854775808 this
    omega
  · have h1 : (128 : Nat) ^ k ≤ 128 ^ 8 := Nat.pow_le_pow_right (by decide) (by omega)
    have h2 : c % 128 * 128 ^ k ≤ 127 * 128 ^ 8 := Nat.mul_le_mul (by omega) h1
    have e : (127 : Nat) * 128 ^ 8 = 9151314442816847872 := by decide
    omega
theorem sum_bound (k u : Nat) (c : Nat) (hu : u < 128 ^ k) : u + c % 128 * 128 ^ k < 128 ^ (k + 1) := by
  have : c % 128 * 128 ^ k ≤ 127 * 128 ^ k := Nat.mul_le_mul_right _ (by omega)
  rw [Nat.pow_succ]; omega
theorem wrap_u64 (n : Nat) (h : n < 18446744073709551616) : IntKind.u64.wrap (n : Int) = (n : Int) := by
  rw [IntKind.wrap_u64]; omega
set_option maxRecDepth 100000 in
theorem or_step (u k : Nat) (c : UInt8) (hu : u < 128 ^ k) (hk : k < 10) (h9 : k = 9 → c.toNat ≤ 1) :
    bits .or .u64 (u : Int) (IntKind.u64.wrap (IntKind.u64.wrap (bits .and .u8 (c.toNat : Int) 127) * 2 ^ (7 * k))) = ((u + c.toNat % 128 * 128 ^ k : Nat) : Int) := by
  have hb := mul_bound k c.toNat hk h9
  have hu2 : u < 18446744073709551616 := by
    have h1 : (128 : Nat) ^ k ≤ 128 ^ 9 := Nat.pow_le_pow_right (by decide) (by omega)
    have e : (128 : Nat) ^ 9 = 9223372036854775808 := by decide
    omega
  rw [byte_and, wrap_u64 _ (by omega)]
  have e1 : (((c.toNat % 128 : Nat) : Int) * 2 ^ (7 * k)) = ((c.toNat % 128 * 128 ^ k : Nat) : Int) := by
    rw [← pow7]; push_cast; rfl
  rw [e1, wrap_u64 _ hb]
  have h1 : (BitVec.ofInt 64 (u : Int)).toNat = u := by
    rw [BitVec.ofInt_natCast, BitVec.toNat_ofNat]; exact Nat.mod_eq_of_lt (by omega)
  have h2 : (BitVec.ofInt 64 ((c.toNat % 128 * 128 ^ k : Nat) : Int)).toNat = c.toNat % 128 * 128 ^ k := by
    rw [BitVec.ofInt_natCast, BitVec.toNat_ofNat]; exact Nat.mod_eq_of_lt (by omega)
  show IntKind.u64.wrap ((BitVec.ofInt 64 (u : Int) ||| BitVec.ofInt 64 ((c.toNat % 128 * 128 ^ k : Nat) : Int)).toNat : Int) = _
  have e := Nat.two_pow_add_eq_or_of_lt (i := 7 * k) (b := u) (by rw [pow7]; exact hu) (c.toNat % 128)
  rw [pow7, Nat.mul_comm (128 ^ k)] at e
  rw [BitVec.toNat_or, h1, h2, Nat.or_comm, ← e, wrap_u64 _ ?_, Nat.add_comm]
  by_cases h : k = 9
  · have h1 := h9 h
    have h2 : c.toNat % 128 * 128 ^ k ≤ 1 * 128 ^ k := Nat.mul_le_mul_right _ (by omega)
    rw [Nat.one_mul] at h2
    have h3 := Nat.add_lt_add_of_lt_of_le hu h2
    have e2 : (128 : Nat) ^ 9 + 128 ^ 9 = 18446744073709551616 := by decide
    rw [h] at h3 ⊢
    rw [e2] at h3; rw [Nat.add_comm]; exact h3
  · have h3 := sum_bound k u c.toNat hu
    have h4 : (128 : Nat) ^ (k + 1) ≤ 128 ^ 9 := Nat.pow_le_pow_right (by decide) (by omega)
    have h5 : (128 : Nat) ^ 9 ≤ 18446744073709551616 := by decide
    rw [Nat.add_comm]; exact Nat.lt_of_lt_of_le h3 (Nat.le_trans h4 h5)
def takeV (q : Nat × Int × Int) : Value := .tuple #[.int .u64 (q.1 : Int), .int .i64 q.2.1, .int .i64 q.2.2]
theorem fin_err {l : List UInt8} {m : Nat} {R : Nat × Nat × Int} {e : Int} (HF : takeS l m = if R.2.2 = 0 then (R.1, (m : Int) + (R.2.1 : Int), 0) else (0, 0, R.2.2)) (hR : R = (0, 0, e)) (he : e ≠ 0) :
    Ending.returned (.tuple #[.int .u64 0, .int .i64 0, .int .i64 e]) = .returned (takeV (takeS l m)) := by
  rw [HF, hR, if_neg he]; rfl
theorem fin_ok {l : List UInt8} {m k u : Nat} {x : Int} {R : Nat × Nat × Int} (HF : takeS l m = if R.2.2 = 0 then (R.1, (m : Int) + (R.2.1 : Int), 0) else (0, 0, R.2.2)) (hR : R = (u, k + 1, 0)) (hx : x = (u : Int)) :
    Ending.returned (.tuple #[.int .u64 x, .int .i64 ((m : Int) + (k : Int) + 1), .int .i64 0]) = .returned (takeV (takeS l m)) := by
  rw [HF, hR, if_pos rfl, hx]
  unfold takeV
  simp only
  rw [show (m : Int) + ((k + 1 : Nat) : Int) = (m : Int) + (k : Int) + 1 by omega]
set_option maxRecDepth 100000 in
set_option maxHeartbeats 4000000 in
theorem TakeUint_any (l : List UInt8) (n : Int) (w : World) (hl : l.length ≤ 1000000000000000) :
    Calls Try.prog 56 #[.string (bs l), .int .i64 n] w fun e w' => e = .returned (takeV (takeS l n)) ∧ w = w' := by
  cases ho : (decide (0 ≤ n) && decide (n ≤ (l.length : Int))) with
  | false =>
    have hR : takeS l n = (0, 0, 1) := by
      unfold takeS
      rw [if_neg]
      intro h; rw [decide_eq_true h.1, decide_eq_true h.2] at ho; cases ho
    rw [hR]
    have HO := Lib.hid ho; clear ho hR
    go_enter Try.func56, Try.ntmps56
    go_wp2_with fail
    refine (outside_any l n w hl).mono ?_
    rw [HO.out]
    rintro e w2 ⟨rfl, rfl⟩
    go_wp2
    go_ret3
    exact ⟨rfl, rfl⟩
  | true =>
    have h0 : 0 ≤ n ∧ n ≤ (l.length : Int) := by simpa using ho
    obtain ⟨m, rfl⟩ : ∃ m : Nat, n = m := ⟨n.toNat, by omega⟩
    have hm : m ≤ l.length := by omega
    obtain ⟨R, hR⟩ : ∃ R, tkF 10 (l.drop m) 0 0 = R := ⟨_, rfl⟩
    have HF := Lib.hid (show takeS l m = if R.2.2 = 0 then (R.1, (m : Int) + (R.2.1 : Int), 0) else (0, 0, R.2.2) by
      unfold takeS; rw [if_pos h0, Int.toNat_natCast, hR])
    have HO := Lib.hid ho; have HR := Lib.hid hR; clear ho hR h0
    go_enter Try.func56, Try.ntmps56
    go_wp2_with fail
    refine (outside_any l m w hl).mono ?_
    rw [HO.out]
    rintro e w2 ⟨rfl, rfl⟩
    go_wp2
    go_loop [7, 13] (fun u i => ∃ k u' : Nat, k ≤ 10 ∧ i = .int .i64 k ∧ u = .int .u64 (u' : Int) ∧ u' < 128 ^ k ∧ tkF (10 - k) (l.drop (m + k)) k u' = R) (fun _ i => 10 - (intOf i).toNat)
    case atStart => exact ⟨0, 0, by omega, rfl, rfl, by omega, HR.out⟩
    case round =>
      obtain ⟨k, u', hk, rfl, rfl, hu, hR⟩ := hrel
      have HU := Lib.hid hu; have HRK := Lib.hid hR; clear hu hR
      by_cases hk10 : k < 10
      · by_cases hend : m + k < l.length
        · have hS := tkF_step l m k u' hk10 hend
          obtain ⟨c, hc⟩ : ∃ c, l[m + k] = c := ⟨_, rfl⟩
          rw [hc] at hS
          have HS := Lib.hid hS; clear hS
          have hcl := c.toNat_lt
          have hge : ¬ (l.length : Int) ≤ (m : Int) + (k : Int) := by omega
          by_cases h9 : k = 9
          · have h9i : (k : Int) = 9 := by omega
            have t9 : ((k : Int) == 9) = true := by rw [h9i]; rfl
            have H9 := Lib.hid h9; clear h9 h9i
            by_cases h1 : 1 < c.toNat
            · have h1i : (1 : Int) < (c.toNat : Int) := by omega
              go_wp2
              go_ret3
              exact ⟨fin_err HF.out (by rw [← HRK.out, HS.out, if_pos (by have := H9.out; omega)]) (by decide), rfl⟩
            · have h1i : ¬ (1 : Int) < (c.toNat : Int) := by omega
              by_cases h0 : (c.toNat : Int) = 0
              · have hk0 : (0 : Int) < (k : Int) := by have := H9.out; omega
                have t0 : ((c.toNat : Int) == 0) = true := by rw [h0]; rfl
                have H0 := Lib.hid h0; clear h0
                go_wp2
                go_ret3
                exact ⟨fin_err HF.out (by rw [← HRK.out, HS.out, if_pos (by have := H0.out; have := H9.out; omega)]) (by decide), rfl⟩
              · have h128 : (c.toNat : Int) < 128 := by omega
                have hk0 : (0 : Int) < (k : Int) := by have := H9.out; omega
                go_wp2
                go_ret3
                exact ⟨fin_ok HF.out (by rw [← HRK.out, HS.out, if_neg (by have := H9.out; omega), if_pos (by omega)]) (or_step _ _ c HU.out (by omega) (by omega)), rfl⟩
          · have h9i : ¬ (k : Int) = 9 := by omega
            by_cases h0 : (c.toNat : Int) = 0
            · have t0 : ((c.toNat : Int) == 0) = true := by rw [h0]; rfl
              have H0 := Lib.hid h0; clear h0
              by_cases hk0 : (0 : Int) < (k : Int)
              · skip
                go_wp2
                go_ret3
                exact ⟨fin_err HF.out (by rw [← HRK.out, HS.out, if_pos (by have := H0.out; omega)]) (by decide), rfl⟩
              · have h128 : (c.toNat : Int) < 128 := by have := H0.out; omega
                go_wp2
                go_ret3
                exact ⟨fin_ok HF.out (by rw [← HRK.out, HS.out, if_neg (by have := H0.out; omega), if_pos (by omega)]) (or_step _ _ c HU.out (by omega) (by omega)), rfl⟩
            · by_cases h128 : (c.toNat : Int) < 128
              · skip
                go_wp2
                go_ret3
                exact ⟨fin_ok HF.out (by rw [← HRK.out, HS.out, if_neg (by omega), if_pos (by omega)]) (or_step _ _ c HU.out (by omega) (by omega)), rfl⟩
              · go_wp2
                go_round
                case rel => exact ⟨k + 1, _, by omega, by go_num, by rw [or_step _ _ c HU.out (by omega) (by omega)], sum_bound k u' c.toNat HU.out, by rw [← HRK.out, HS.out, if_neg (by omega), if_neg (by omega)]⟩
                case measure => simp [intOf]; omega
        · have hge : (l.length : Int) ≤ (m : Int) + (k : Int) := by omega
          have HE := Lib.hid (tkF_end l m k u' hk10 hend)
          go_wp2
          go_ret3
          exact ⟨fin_err HF.out (by rw [← HRK.out, HE.out]) (by decide), rfl⟩
      · obtain rfl : k = 10 := by omega
        go_wp2
        go_ret3
        exact ⟨fin_err HF.out (by rw [← HRK.out]; rfl) (by decide), rfl⟩
end Go.Proofs.Ytkpfkknldeafkaa
namespace Go.Proofs.Ytkpfkknldeafkaa
open Go.RowKit

/-- the sectors of a record -/
def pieces (n : Nat) : Nat := max ((n + 39) / 40) 1
def secAt (g : Nat) (l : List UInt8) (i : Nat) : List UInt8 := sealedL g i (pieces l.length) ((l.drop (i * 40)).take 40)
def secs (g : Nat) (l : List UInt8) (k : Nat) : List (List UInt8) := (List.range k).map (secAt g l)
def splitS (g : Int) (l : List UInt8) : List (List UInt8) × Int :=
  if g < 1 ∨ 1099511627776 < g then ([], 1) else if 1024 < pieces l.length then ([], 2) else (secs g.toNat l (pieces l.length), 0)
theorem secs_succ (g : Nat) (l : List UInt8) (k : Nat) : secs g l (k + 1) = secs g l k ++ [secAt g l k] := by simp [secs, List.range_succ]
theorem secs_length (g : Nat) (l : List UInt8) (k : Nat) : (secs g l k).length = k := by simp [secs]

set_option maxRecDepth 100000 in
set_option maxHeartbeats 1000000 in
theorem Split_any (g : Int) (l : List UInt8) (w : World) (hl : l.length ≤ 1000000000000000) :
    Calls Try.prog 85 #[.int .i64 g, .string (bs l)] w fun e w' => ∃ v, e = .returned (.tuple #[v, .int .i64 (splitS g l).2]) ∧
      w'.ownsRow w.heap.size 9 1 v (splitS g l).1.length ((splitS g l).1.map strV) ∧ Below w.heap.size w w' := by
  have hB0 := Below.refl w.heap.size w
  by_cases h1 : g < 1 ∨ 1099511627776 < g
  · have hfin : splitS g l = ([], 1) := by unfold splitS; rw [if_pos h1]
    rw [hfin]
    clear hfin
    rcases h1 with h1 | h1
    · go_enter Try.func85, Try.ntmps85
      go_wp2
      go_ret2
      exact ⟨_, rfl, World.ownsRow_nil _ _ _ _, hB0⟩
    · have h1' : ¬ g < 1 := by omega
      go_enter Try.func85, Try.ntmps85
      go_wp2
      go_ret2
      exact ⟨_, rfl, World.ownsRow_nil _ _ _ _, hB0⟩
  · have g0 : 1 ≤ g := by omega
    have g1 : g ≤ 1099511627776 := by omega
    obtain ⟨n, hn⟩ : ∃ n, n = pieces l.length := ⟨_, rfl⟩
    have hmx : max (((l.length : Int) + 40 - 1) / 40) 1 = (n : Int) := by rw [hn]; unfold pieces; omega
    have hn0 : 1 ≤ n := by rw [hn]; unfold pieces; omega
    by_cases h2 : 1024 < n
    · have hfin : splitS g l = ([], 2) := by unfold splitS; rw [if_neg h1, ← hn, if_pos h2]
      rw [hfin]
      clear hfin hn h1
      go_enter Try.func85, Try.ntmps85
      go_wp2
      go_ret2
      exact ⟨_, rfl, World.ownsRow_nil _ _ _ _, hB0⟩
    · have hn3 : n ≤ 1024 := by omega
      have hfin : splitS g l = (secs g.toNat l n, 0) := by unfold splitS; rw [if_neg h1, ← hn, if_neg h2]
      rw [hfin]
      have hn4 : ∀ k, k < n → k * 40 ≤ l.length := by intro k hk; rw [hn] at hk; unfold pieces at hk; omega
      have HN4 := Lib.hid hn4; clear hn4
      have HN := Lib.hid hn; clear hn
      clear h1 h2 hfin
      go_enter Try.func85, Try.ntmps85
      go_wp2
      clear hmx
      go_loopw [7, 25] (fun v i wr => ∃ k : Nat, k ≤ n ∧ i = .int .i64 k ∧ wr.ownsRow w.heap.size 9 1 v (secs g.toNat l k).length ((secs g.toNat l k).map strV) ∧ Below w.heap.size w wr) (fun _ i _ => n - (intOf i).toNat)
      case atStart => exact ⟨0, Nat.zero_le _, rfl, World.ownsRow_nil _ _ _ _, hB0⟩
      case round =>
        obtain ⟨k, hk, rfl, hown, hbel⟩ := hrel
        by_cases hlt : k < n
        · have hk40 : k * 40 ≤ l.length := HN4.out k hlt
          obtain ⟨m, hm⟩ : ∃ m : Nat, min (((k : Int) + 1) * 40) (l.length : Int) = m := ⟨min ((k + 1) * 40) l.length, by omega⟩
          have hm1 : k * 40 ≤ m := by omega
          have hm2 : m ≤ l.length := by omega
          have hpl : ((l.take m).drop (k * 40)).length ≤ 40 := by rw [List.length_drop, List.length_take]; omega
          have hpe : (l.take m).drop (k * 40) = (l.drop (k * 40)).take 40 := by
            rw [List.drop_take]
            rcases Nat.lt_or_ge l.length ((k + 1) * 40) with h | h
            · rw [List.take_of_length_le (by rw [List.length_drop]; omega), List.take_of_length_le (by rw [List.length_drop]; omega)]
            · rw [show m - k * 40 = 40 by omega]
          have HPE := Lib.hid hpe; clear hpe
          have HPL := Lib.hid hpl; clear hpl
          go_wp2_with (first
            | (go_at_call 93; refine (sealed_any _ _ _ _ _ (by omega) (by omega) (by omega) (by omega) (by omega) (by omega) HPL.out).mono ?_; rintro e w1 ⟨rfl, hb⟩; have hown1 := own_below hown hb; have hbel1 := btrans hbel hbel.size hb)
            | (at_builtin; refine wpList_append_str rfl _ _ rfl w.heap.size _ (secs g.toNat l k) (sealedL g.toNat k n ((l.take m).drop (k * 40))) hown1 rfl rfl (by rw [secs_length]; omega) w hbel1 hbel1.size ?_; intro v2 w2 hown2 hbel2 _))
          rw [HPE.out, HN.out, show sealedL g.toNat k (pieces l.length) ((l.drop (k * 40)).take 40) = secAt g.toNat l k from rfl, ← secs_succ] at hown2
          go_wp2
          go_roundw
          case rel => exact ⟨k + 1, by omega, by go_num, hown2, hbel2⟩
          case measure => simp [intOf]; omega
        · go_wp2
          go_ret2
          obtain rfl : k = n := by omega
          exact ⟨_, rfl, hown, hbel⟩
end Go.Proofs.Ytkpfkknldeafkaa
namespace Go.Proofs.Ytkpfkknldeafkaa
open Go.RowKit

/-- the data of the first k sectors, one behind the other -/
def cat (L : List (List UInt8)) (k : Nat) : List UInt8 := (L.take k).flatMap fun s => (openS s).2.1
/-- sector i is piece i of q, of generation g -/
def goodAt (g q : Int) (L : List (List UInt8)) (i : Nat) : Prop :=
  ∃ s, L[i]? = some s ∧ (openS s).2.2 = 0 ∧ (openS s).1 = (g, (i : Int), q) ∧ ((i : Int) < q - 1 → (openS s).2.1.length = 40) ∧ (0 < i → (openS s).2.1 ≠ [])
def joinFail : List UInt8 × Int × Int × Bool := ([], 0, 0, false)
def joinS (L : List (List UInt8)) (least most : Int) : List UInt8 × Int × Int × Bool :=
  match L[0]? with
  | none => joinFail
  | some s =>
    if (openS s).2.2 = 0 ∧ least ≤ (openS s).1.1 ∧ (openS s).1.1 ≤ most ∧ (openS s).1.2.2 ≤ L.length then
      (if (∀ i, i < (openS s).1.2.2.toNat → (openS (L.getD i [])).2.2 = 0) ∧ splitS (openS s).1.1 (cat L (openS s).1.2.2.toNat) = (L.take (openS s).1.2.2.toNat, 0) then (cat L (openS s).1.2.2.toNat, (openS s).1.1, (openS s).1.2.2, true) else joinFail)
    else joinFail

set_option maxRecDepth 100000 in
theorem openS_len (s : List UInt8) : (openS s).2.1.length ≤ 40 := by
  unfold openS
  split
  · simp
  · split
    · simp
    · split
      · next h =>
        split
        · rw [List.length_take]; omega
        · simp
      · simp
set_option maxRecDepth 100000 in
theorem openS_ok {s : List UInt8} (h : (openS s).2.2 = 0) : ∃ g p q : Nat, ∃ d : List UInt8, openS s = (((g : Int), (p : Int), (q : Int)), d, 0) ∧ stampB g p q = true ∧ d.length ≤ 40 ∧ sealedL g p q d = s := by
  unfold openS at h ⊢
  split at h
  · simp at h
  · next h1 =>
    rw [if_neg h1]
    split at h
    · simp at h
    · next h2 =>
      rw [if_neg h2]
      split at h
      · next h3 =>
        rw [if_pos h3]
        split at h
        · next h4 =>
          rw [if_pos h4]
          exact ⟨_, _, _, _, rfl, h3.1, by rw [List.length_take]; omega, h4⟩
        · simp at h
      · simp at h
theorem cat_succ (L : List (List UInt8)) (k : Nat) (h : k < L.length) : cat L (k + 1) = cat L k ++ (openS L[k]).2.1 := by
  unfold cat; rw [List.take_succ_eq_append_getElem h, List.flatMap_append]; simp
set_option maxRecDepth 100000 in
theorem cat_len (L : List (List UInt8)) (k : Nat) : (cat L k).length ≤ 40 * k := by
  induction k with
  | zero => simp [cat]
  | succ k ih =>
    by_cases h : k < L.length
    · rw [cat_succ L k h, List.length_append]; have := openS_len L[k]; omega
    · have e : cat L (k + 1) = cat L k := by unfold cat; rw [List.take_of_length_le (by omega), List.take_of_length_le (by omega)]
      rw [e]; omega

theorem join_first (L : List (List UInt8)) (h : 0 < L.length) (least most g p q : Int) (d : List UInt8) (er : Int) (ho : openS L[0] = ((g, p, q), d, er)) :
    joinS L least most = if er = 0 ∧ least ≤ g ∧ g ≤ most ∧ q ≤ L.length then
      (if (∀ i, i < q.toNat → (openS (L.getD i [])).2.2 = 0) ∧ splitS g (cat L q.toNat) = (L.take q.toNat, 0) then (cat L q.toNat, g, q, true) else joinFail) else joinFail := by
  unfold joinS
  rw [List.getElem?_eq_getElem h]
  simp only [ho]
set_option maxRecDepth 100000 in
theorem good_len {g : Int} {n : Nat} {L : List (List UInt8)} (h : ∀ i, i < n → goodAt g n L i) : ∀ k, k < n → (cat L k).length = 40 * k := by
  intro k hk
  induction k with
  | zero => simp [cat]
  | succ k ih =>
    obtain ⟨s, hs, _, _, h3, _⟩ := h k (by omega)
    have hkl : k < L.length := by
      rcases Nat.lt_or_ge k L.length with h' | h'
      · exact h'
      · rw [List.getElem?_eq_none h'] at hs; cases hs
    rw [List.getElem?_eq_getElem hkl] at hs
    simp only [Option.some.injEq] at hs
    subst hs
    rw [cat_succ L k hkl, List.length_append, ih (by omega), h3 (by omega)]; omega
set_option maxRecDepth 100000 in
theorem cat_prefix (L : List (List UInt8)) (k m : Nat) (h : k ≤ m) : ∃ r, cat L m = cat L k ++ r := by
  refine ⟨((L.take m).drop k).flatMap fun s => (openS s).2.1, ?_⟩
  unfold cat
  rw [← List.flatMap_append]
  congr 1
  have := List.take_append_drop k (L.take m)
  rw [List.take_take, Nat.min_eq_left h] at this
  exact this.symm
set_option maxRecDepth 100000 in
theorem be_take (g p q n : Nat) (R : List UInt8) : fld (headL g p q n ++ R) 0 6 = num (be g 6) ∧ fld (headL g p q n ++ R) 6 2 = num (be p 2) ∧ fld (headL g p q n ++ R) 8 2 = num (be q 2) ∧ fld (headL g p q n ++ R) 10 2 = num (be n 2) := by
  have e0 : headL g p q n ++ R = be g 6 ++ (be p 2 ++ (be q 2 ++ (be n 2 ++ R))) := by simp [headL, List.append_assoc]
  have e1 : headL g p q n ++ R = (be g 6 ++ be p 2) ++ (be q 2 ++ (be n 2 ++ R)) := by simp [headL, List.append_assoc]
  have e2 : headL g p q n ++ R = (be g 6 ++ be p 2 ++ be q 2) ++ (be n 2 ++ R) := by simp [headL, List.append_assoc]
  refine ⟨?_, ?_, ?_, ?_⟩
  · unfold fld; rw [e0, List.drop_zero, List.take_left' (be_length _ _)]
  · unfold fld; rw [e0, List.drop_left' (be_length _ _), List.take_left' (be_length _ _)]
  · unfold fld; rw [e1, List.drop_left' (by simp [be_length]), List.take_left' (be_length _ _)]
  · unfold fld; rw [e2, List.drop_left' (by simp [be_length]), List.take_left' (be_length _ _)]
set_option maxRecDepth 100000 in
/-- a sealed sector opens to its stamp and data -/
theorem openS_sealed (g p q : Nat) (d : List UInt8) (hs : stampB g p q = true) (hd : d.length ≤ 40) : openS (sealedL g p q d) = (((g : Int), (p : Int), (q : Int)), d, 0) := by
  have hb := (stampB_iff _ _ _).1 hs
  have hlen := sealedL_length g p q d hd
  have e : sealedL g p q d = headL g p q d.length ++ (lit (crc (headL g p q d.length ++ bodyL d)) 4 ++ (bodyL d ++ markL g p)) := by simp [sealedL, List.append_assoc]
  obtain ⟨f1, f2, f3, f4⟩ := be_take g p q d.length (lit (crc (headL g p q d.length ++ bodyL d)) 4 ++ (bodyL d ++ markL g p))
  rw [← e] at f1 f2 f3 f4
  rw [num_be _ _ (by omega)] at f1 f2 f3 f4
  have hdata : ((sealedL g p q d).drop 16).take d.length = d := by
    have e2 : sealedL g p q d = (headL g p q d.length ++ lit (crc (headL g p q d.length ++ bodyL d)) 4) ++ (d ++ (List.replicate (40 - d.length) 0 ++ markL g p)) := by simp [sealedL, bodyL, List.append_assoc]
    rw [e2, List.drop_left' (by simp [headL_length, lit_length]), List.take_left' rfl]
  unfold openS
  rw [if_neg (by omega), if_neg (by omega), f1, f2, f3, f4, if_pos ⟨hs, hd⟩, hdata, if_pos rfl]
set_option maxRecDepth 100000 in
theorem good_at {g : Int} {n k : Nat} {L : List (List UInt8)} (h : goodAt g n L k) : ∃ (hk : k < L.length) (d : List UInt8), openS L[k] = ((g, (k : Int), (n : Int)), d, 0) ∧ ((k : Int) < (n : Int) - 1 → d.length = 40) ∧ (0 < k → d ≠ []) ∧ 1 ≤ g ∧ g ≤ 1099511627776 ∧ n ≤ 1024 ∧ d.length ≤ 40 ∧ sealedL g.toNat k n d = L[k] := by
  obtain ⟨s, hs, h1, h2, h3, h4⟩ := h
  have hkl : k < L.length := by
    rcases Nat.lt_or_ge k L.length with h' | h'
    · exact h'
    · rw [List.getElem?_eq_none h'] at hs; cases hs
  rw [List.getElem?_eq_getElem hkl] at hs
  simp only [Option.some.injEq] at hs
  subst hs
  obtain ⟨g', p', q', d', e1, e2, e3, e4⟩ := openS_ok h1
  rw [e1] at h2 h3 h4
  simp only [Prod.mk.injEq] at h2
  obtain ⟨rfl, hp, hq⟩ := h2
  have hp' : p' = k := by omega
  have hq' : q' = n := by omega
  subst hp' hq'
  have hb := (stampB_iff _ _ _).1 e2
  exact ⟨hkl, d', e1, h3, h4, by omega, by omega, by omega, e3, by rw [Int.toNat_natCast]; exact e4⟩

set_option maxRecDepth 100000 in
theorem cat_piece (L : List (List UInt8)) (g : Int) (n : Nat) (h : ∀ i, i < n → goodAt g n L i) (i : Nat) (hi : i < n) (hil : i < L.length) : ((cat L n).drop (i * 40)).take 40 = (openS L[i]).2.1 := by
  have hlen := good_len h i hi
  obtain ⟨_, d, ho, h3, _, _, _, _, hd, _⟩ := good_at (h i hi)
  obtain ⟨r, hr⟩ := cat_prefix L (i + 1) n (by omega)
  rw [cat_succ L i hil, ho] at hr
  simp only at hr
  rw [hr, List.append_assoc, List.drop_left' (by omega), ho]
  simp only
  by_cases hlast : (i : Int) < (n : Int) - 1
  · rw [List.take_left' (h3 hlast)]
  · have hin : n = i + 1 := by omega
    have hr0 : r = [] := by
      have e := congrArg List.length hr
      subst hin
      rw [cat_succ L i hil, ho] at e
      simp only [List.length_append] at e
      exact List.eq_nil_of_length_eq_zero (by omega)
    rw [hr0, List.append_nil, List.take_of_length_le hd]
set_option maxRecDepth 100000 in
theorem cat_total (L : List (List UInt8)) (g : Int) (n : Nat) (h : ∀ i, i < n → goodAt g n L i) (hn : 1 ≤ n) : pieces (cat L n).length = n := by
  have hlen := good_len h (n - 1) (by omega)
  obtain ⟨hkl, d, ho, _, h4, _, _, _, hd, _⟩ := good_at (h (n - 1) (by omega))
  have e : cat L n = cat L (n - 1) ++ d := by
    have := cat_succ L (n - 1) hkl
    rw [ho, show n - 1 + 1 = n by omega] at this
    exact this
  rw [e, List.length_append, hlen]
  unfold pieces
  by_cases h1 : n = 1
  · subst h1; simp; omega
  · have : d ≠ [] := h4 (by omega)
    have : 0 < d.length := List.length_pos_iff.2 this
    omega
set_option maxRecDepth 100000 in
theorem join_good (L : List (List UInt8)) (g : Int) (n : Nat) (hn : 1 ≤ n) (hnl : n ≤ L.length) (h : ∀ i, i < n → goodAt g n L i) :
    (∀ i, i < (n : Int).toNat → (openS (L.getD i [])).2.2 = 0) ∧ splitS g (cat L (n : Int).toNat) = (L.take (n : Int).toNat, 0) := by
  rw [Int.toNat_natCast]
  constructor
  · intro i hi
    obtain ⟨hkl, d, ho, _⟩ := good_at (h i hi)
    rw [List.getD_eq_getElem?_getD, List.getElem?_eq_getElem hkl]
    simp [ho]
  · obtain ⟨_, _, _, _, _, g1, g2, n1, _, _⟩ := good_at (h 0 (by omega))
    have hp := cat_total L g n h hn
    unfold splitS
    rw [if_neg (by omega), hp, if_neg (by omega)]
    congr 1
    apply List.ext_getElem
    · rw [secs_length, List.length_take]; omega
    · intro i hi1 hi2
      rw [secs_length] at hi1
      obtain ⟨hkl, d, ho, _, _, _, _, _, _, hs⟩ := good_at (h i hi1)
      have := cat_piece L g n h i hi1 hkl
      simp only [secs, List.getElem_map, List.getElem_range, List.getElem_take]
      unfold secAt
      rw [hp, this, ho]
      exact hs
set_option maxRecDepth 100000 in
theorem split_ok {g : Int} {l : List UInt8} {S : List (List UInt8)} (h : splitS g l = (S, 0)) : 1 ≤ g ∧ g ≤ 1099511627776 ∧ pieces l.length ≤ 1024 ∧ S = secs g.toNat l (pieces l.length) := by
  unfold splitS at h
  by_cases h1 : g < 1 ∨ 1099511627776 < g
  · rw [if_pos h1] at h; simp at h
  · rw [if_neg h1] at h
    by_cases h2 : 1024 < pieces l.length
    · rw [if_pos h2] at h; simp at h
    · rw [if_neg h2] at h
      simp only [Prod.mk.injEq, and_true] at h
      exact ⟨by omega, by omega, by omega, h.symm⟩
theorem sec_opens (g : Nat) (l : List UInt8) (hg : 1 ≤ g ∧ g ≤ 1099511627776) (hp : pieces l.length ≤ 1024) (k : Nat) (hk : k < pieces l.length) :
    openS (secAt g l k) = (((g : Int), (k : Int), (pieces l.length : Int)), (l.drop (k * 40)).take 40, 0) := by
  unfold secAt
  refine openS_sealed _ _ _ _ ?_ (by rw [List.length_take]; omega)
  rw [stampB_iff]
  refine ⟨?_, ?_, ?_, ?_, ?_, ?_⟩ <;> omega
set_option maxRecDepth 100000 in
theorem sec_good (g : Nat) (l : List UInt8) (hg : 1 ≤ g ∧ g ≤ 1099511627776) (hp : pieces l.length ≤ 1024) (L : List (List UInt8)) (hL : ∀ k, k < pieces l.length → L[k]? = some (secAt g l k)) (k : Nat) (hk : k < pieces l.length) :
    goodAt g (pieces l.length) L k := by
  refine ⟨_, hL k hk, ?_, ?_, ?_, ?_⟩ <;> rw [sec_opens g l hg hp k hk]
  · intro h
    have : (k + 1) * 40 ≤ l.length := by
      have h1 : (k : Int) < (pieces l.length : Int) - 1 := h
      unfold pieces at h1; omega
    simp only [List.length_take, List.length_drop]; omega
  · intro h he
    have : k * 40 < l.length := by unfold pieces at hk; omega
    have e := congrArg List.length he
    simp only [List.length_take, List.length_drop, List.length_nil] at e
    omega
set_option maxRecDepth 100000 in
theorem join_bad (L : List (List UInt8)) (g : Int) (n : Nat) (hnl : n ≤ L.length) (k : Nat) (hk : k < n) (h : ¬ goodAt g n L k) : ¬ ((∀ i, i < (n : Int).toNat → (openS (L.getD i [])).2.2 = 0) ∧ splitS g (cat L (n : Int).toNat) = (L.take (n : Int).toNat, 0)) := by
  rintro ⟨_, hs⟩
  rw [Int.toNat_natCast] at hs
  obtain ⟨h1, h2, h3, h4⟩ := split_ok hs
  have hn : n = pieces (cat L n).length := by
    have := congrArg List.length h4
    rw [List.length_take, secs_length] at this; omega
  apply h
  have hL : ∀ i, i < pieces (cat L n).length → L[i]? = some (secAt g.toNat (cat L n) i) := by
    intro i hi
    have e : (L.take n)[i]? = some (secAt g.toNat (cat L n) i) := by rw [h4]; simp [secs, hi]
    rw [List.getElem?_take] at e
    split at e
    · exact e
    · cases e
  have := sec_good g.toNat (cat L n) (by omega) h3 L hL k (by omega)
  rw [← hn, Int.toNat_of_nonneg (by omega)] at this
  exact this
end Go.Proofs.Ytkpfkknldeafkaa
namespace Go.Proofs.Ytkpfkknldeafkaa
open Go.RowKit

end Go.Proofs.Ytkpfkknldeafkaa

namespace Go.Proofs.Ytkpfkknldeafkaa
open Go.RowKit

/-- the stamp in its box -/
def SBox (w : World) (g p q : Int) (W : World) : Prop := W.heap[w.heap.size]? = some (.cells #[.int .i64 g, .int .i64 p, .int .i64 q] 87 (0, 0)) ∧ Below w.heap.size w W
theorem SBox.start (w : World) (g p q : Int) : SBox w g p q (w.alloc (.cells #[.int .i64 g, .int .i64 p, .int .i64 q] 87)) := ⟨heap_alloc_new w _, (Below.refl _ _).alloc (Nat.le_refl _) _⟩
theorem SBox.call {w W W' : World} {g p q : Int} (h : SBox w g p q W) (hb : Below W.heap.size W W') : SBox w g p q W' := ⟨(hb.block _ (lt_of_heap h.1)).trans h.1, btrans h.2 h.2.size hb⟩
theorem SBox.drew {w W : World} {g p q : Int} (h : SBox w g p q W) : SBox w g p q W.drew := ⟨h.1, h.2.drew⟩
theorem SBox.cells {w W : World} {g p q : Int} (h : SBox w g p q W) : W.cell? ⟨w.heap.size, 0, none⟩ = some (.int .i64 g) ∧ W.cell? ⟨w.heap.size, 1, none⟩ = some (.int .i64 p) ∧ W.cell? ⟨w.heap.size, 2, none⟩ = some (.int .i64 q) := by
  have h1 := h.1
  refine ⟨?_, ?_, ?_⟩ <;> simp [World.cell?, h1]
end Go.Proofs.Ytkpfkknldeafkaa

namespace Go.Proofs.Ytkpfkknldeafkaa
open Go.RowKit

end Go.Proofs.Ytkpfkknldeafkaa

namespace Go.Proofs.Ytkpfkknldeafkaa
open Go.RowKit

theorem Two.drew {w W : World} {g p q : Int} (h : Two w g p q W) : Two w g p q W.drew := ⟨h.1, h.2.1, h.2.2.drew⟩
end Go.Proofs.Ytkpfkknldeafkaa

namespace Go.Proofs.Ytkpfkknldeafkaa
open Go.RowKit

theorem split_len (g : Int) (l : List UInt8) : (splitS g l).1.length ≤ 1024 := by
  unfold splitS; split
  · simp
  · split
    · simp
    · rw [secs_length]; omega
theorem secs_get (g : Nat) (l : List UInt8) (n k : Nat) (hk : k < n) : (secs g l n)[k]? = some (secAt g l k) := by simp [secs, hk]
set_option maxRecDepth 100000 in
theorem cat_secs (g : Nat) (l : List UInt8) (hg : 1 ≤ g ∧ g ≤ 1099511627776) (hp : pieces l.length ≤ 1024) (L : List (List UInt8)) (hL : ∀ k, k < pieces l.length → L[k]? = some (secAt g l k)) (k : Nat) (hk : k ≤ pieces l.length) : cat L k = l.take (k * 40) := by
  induction k with
  | zero => simp [cat]
  | succ k ih =>
    have hLk := hL k (by omega)
    have hkl : k < L.length := by
      rcases Nat.lt_or_ge k L.length with h' | h'
      · exact h'
      · rw [List.getElem?_eq_none h'] at hLk; cases hLk
    rw [List.getElem?_eq_getElem hkl] at hLk
    simp only [Option.some.injEq] at hLk
    rw [cat_succ L k hkl, ih (by omega), hLk, sec_opens g l hg hp k (by omega)]
    simp only
    rw [show (k + 1) * 40 = k * 40 + 40 by omega, List.take_add]
theorem pieces_covers (n : Nat) : n ≤ pieces n * 40 := by unfold pieces; omega
theorem pieces_pos (n : Nat) : 1 ≤ pieces n := by unfold pieces; omega
set_option maxRecDepth 100000 in
/-- a list that begins with the sectors of a record joins to it, if the generation is in range -/
theorem join_secs (g : Nat) (l : List UInt8) (hg : 1 ≤ g ∧ g ≤ 1099511627776) (hp : pieces l.length ≤ 1024) (L : List (List UInt8)) (hL : ∀ k, k < pieces l.length → L[k]? = some (secAt g l k)) (hlen : pieces l.length ≤ L.length) (least most : Int) :
    joinS L least most = if least ≤ (g : Int) ∧ (g : Int) ≤ most then (l, (g : Int), (pieces l.length : Int), true) else joinFail := by
  have hn := pieces_pos l.length
  have h0 : 0 < L.length := by omega
  have hL0 := hL 0 (by omega)
  rw [List.getElem?_eq_getElem h0] at hL0
  simp only [Option.some.injEq] at hL0
  have ho := sec_opens g l hg hp 0 (by omega)
  rw [← hL0] at ho
  rw [join_first L h0 least most _ _ _ _ _ ho]
  have hgood : ∀ i, i < pieces l.length → goodAt g (pieces l.length) L i := fun i hi => sec_good g l hg hp L hL i hi
  have hj := join_good L g (pieces l.length) hn hlen hgood
  by_cases hr : least ≤ (g : Int) ∧ (g : Int) ≤ most
  · rw [if_pos ⟨rfl, hr.1, hr.2, by omega⟩, if_pos hj, if_pos hr, Int.toNat_natCast, cat_secs g l hg hp L hL _ (Nat.le_refl _), List.take_of_length_le (pieces_covers _)]
  · rw [if_neg (by intro h; exact hr ⟨h.2.1, h.2.2.1⟩), if_neg hr]
/-! ### the examples -/
theorem ex_zero : openS (List.replicate 64 0) = ((0, 0, 0), [], 20) := by decide +kernel
end Go.Proofs.Ytkpfkknldeafkaa

namespace Go.Proofs.Ytkpfkknldeafkaa
open Go.RowKit

theorem bdrawN {B : Nat} {w W : World} (h : Below B w W) (n : Nat) : Below B w (W.drewN n) := h.trans ⟨rfl, rfl, rfl, Nat.le_refl _, fun _ _ => rfl⟩
/-- Join's own memory: the first sector's stamp -/
def JInv (w : World) (b1 : Nat) (g p q : Int) (W : World) : Prop := W.heap[b1]? = some (.cells #[.int .i64 g, .int .i64 p, .int .i64 q] 87 (0, 0)) ∧ w.heap.size ≤ b1 ∧ Below w.heap.size w W
theorem JInv.start {w w1 : World} (hb : Below w.heap.size w w1) (g p q : Int) : JInv w w1.heap.size g p q (w1.alloc (.cells #[.int .i64 g, .int .i64 p, .int .i64 q] 87)) :=
  ⟨heap_alloc_new w1 _, hb.size, hb.alloc hb.size _⟩
theorem JInv.call {w W W' : World} {b1 : Nat} {g p q : Int} (h : JInv w b1 g p q W) (hb : Below W.heap.size W W') : JInv w b1 g p q W' :=
  ⟨(hb.block _ (lt_of_heap h.1)).trans h.1, h.2.1, btrans h.2.2 h.2.2.size hb⟩
theorem JInv.alloc {w W : World} {b1 : Nat} {g p q : Int} (h : JInv w b1 g p q W) (o : Obj) : JInv w b1 g p q (W.alloc o) := h.call ((Below.refl _ _).alloc (Nat.le_refl _) _)
theorem JInv.cells {w W : World} {b1 : Nat} {g p q : Int} (h : JInv w b1 g p q W) : W.cell? ⟨b1, 0, none⟩ = some (.int .i64 g) ∧ W.cell? ⟨b1, 1, none⟩ = some (.int .i64 p) ∧ W.cell? ⟨b1, 2, none⟩ = some (.int .i64 q) := by
  have h1 := h.1
  refine ⟨?_, ?_, ?_⟩ <;> simp [World.cell?, h1]
set_option maxRecDepth 100000 in
set_option maxHeartbeats 6000000 in
theorem Join_any (v : Value) (L : List (List UInt8)) (least most : Int) (w : World) (hS : StrS w v L) (hL : ∀ s ∈ L, s.length ≤ 9223372036854775807) :
    Calls Try.prog 108 #[v, .int .i64 least, .int .i64 most] w fun e w' =>
      e = .returned (.tuple #[.string (bs (joinS L least most).1), .int .i64 (joinS L least most).2.1, .int .i64 (joinS L least most).2.2.1, .bool (joinS L least most).2.2.2]) ∧ Below w.heap.size w w' := by
  obtain ⟨a, cap, rfl, hcap, hcells⟩ := hS
  have hB0 := Below.refl w.heap.size w
  cases hLc : L with
  | nil =>
    have hfin : joinS [] least most = joinFail := rfl
    rw [hfin]
    go_enter Try.func108, Try.ntmps108
    go_wp2
    exact bodyPost_ret (v := .tuple #[.string (bs []), .int .i64 0, .int .i64 0, .bool false]) (by simp [results, Try.results108, go_sem]; rfl) rfl ⟨rfl, hB0⟩
  | cons s0 Lr =>
    rw [← hLc]
    have hlen : 0 < L.length := by rw [hLc]; simp
    obtain ⟨b, off, rfl, hcell⟩ := hcells (by rw [hLc]; simp)
    have hl0 : ((L.length : Int) == 0) = false := by rw [beq_eq_false_iff_ne]; omega
    have c0 := hcell 0 hlen
    rw [Nat.add_zero] at c0
    have hlen' : (0 : Int) < L.length := by omega
    unfold strV at c0
    obtain ⟨g, p, q, d, er, ho⟩ : ∃ g p q d er, openS L[0] = ((g, p, q), d, er) := ⟨_, _, _, _, _, rfl⟩
    have hj := join_first L hlen least most g p q d er ho
    have HJ := Lib.hid hj; clear hj
    have HO := Lib.hid ho; clear ho
    have HC := Lib.hid hcell; clear hcell hcells
    clear hLc
    have HL0 := Lib.hid (hL L[0] (List.getElem_mem hlen))
    have HLL := Lib.hid hL; clear hL
    by_cases hall : er = 0 ∧ least ≤ g ∧ g ≤ most ∧ q ≤ L.length
    · obtain ⟨rfl, hge, hle, hql⟩ := hall
      have hok := openS_ok (s := L[0]) (by rw [HO.out])
      have hst : stampB g p q = true ∧ d.length ≤ 40 := by
        obtain ⟨g', p', q', d', h1, h2, h3, _⟩ := hok
        rw [HO.out] at h1
        simp only [Prod.mk.injEq] at h1
        obtain ⟨⟨rfl, rfl, rfl⟩, rfl, _⟩ := h1
        exact ⟨h2, h3⟩
      have hb := (stampB_iff g p q).1 hst.1
      obtain ⟨n, rfl⟩ := Int.eq_ofNat_of_zero_le (show 0 ≤ q by omega)
      have hn1 : n ≤ 1024 := by omega
      have hn0 : 1 ≤ n := by omega
      have hnl : n ≤ L.length := by omega
      have HJ2 := Lib.hid (HJ.out.trans (if_pos ⟨rfl, hge, hle, hql⟩))
      have hd1 : decide (g < least) = false := by simp; omega
      have hd2 : decide (most < g) = false := by simp; omega
      have hd3 : decide (L.length < n) = false := by simp; omega
      clear hok hst hb HJ
      go_enter Try.func108, Try.ntmps108
      go_wp2_with (go_at_call 55; refine (Open_any _ _ HL0.out).mono ?_; rw [HO.out]; rintro e w1 ⟨rfl, hb⟩)
      have hI : JInv w w1.heap.size g p n (w1.alloc (.cells #[.int .i64 g, .int .i64 p, .int .i64 n] 87)) := JInv.start hb g p n
      clear hb
      go_loopw [13, 52] (fun r c wr => ∃ k : Nat, k ≤ n ∧ c = .int .i64 k ∧ r = .string (bs (cat L k)) ∧ JInv w w1.heap.size g p n wr ∧ (∀ i, i < k → goodAt g n L i)) (fun _ c _ => n - (intOf c).toNat)
      case atStart => exact ⟨0, Nat.zero_le _, rfl, rfl, hI, fun i hi => absurd hi (Nat.not_lt_zero _)⟩
      case round =>
        obtain ⟨k, hk, rfl, rfl, hI, hgood⟩ := hrel
        have HG := Lib.hid hgood; clear hgood
        obtain ⟨a0, a1, a2⟩ := hI.cells
        have hcl : (cat L k).length ≤ 40960 := by have := cat_len L k; omega
        by_cases hlt : k < n
        · have hkl : k < L.length := by omega
          have ck : wr.cell? ⟨b, off + k, none⟩ = some (.string (bs L[k])) := by
            have h1 := HC.out k hkl
            rw [(bcell hI.2.2).1 _ _ (World.block_lt_of_cell? w _ h1)]; exact h1
          have hkl' : (k : Int) < L.length := by omega
          have HLk := Lib.hid (HLL.out L[k] (List.getElem_mem hkl))
          obtain ⟨g', p', q', d', er', ho'⟩ : ∃ g' p' q' d' er', openS L[k] = ((g', p', q'), d', er') := ⟨_, _, _, _, _, rfl⟩
          have hdl : d'.length ≤ 40 := by have := openS_len L[k]; rw [ho'] at this; exact this
          have HOk := Lib.hid ho'; clear ho'
          by_cases hgd : goodAt g n L k
          · have hgs : er' = 0 ∧ g = g' ∧ (k : Int) = p' ∧ (n : Int) = q' ∧ ((k : Int) < n - 1 → d'.length = 40) ∧ (0 < k → d' ≠ []) := by
              obtain ⟨s, hs, h1, h2, h3, h4⟩ := hgd
              rw [List.getElem?_eq_getElem hkl] at hs
              simp only [Option.some.injEq] at hs
              subst hs
              rw [HOk.out] at h1 h2 h3 h4
              simp only [Prod.mk.injEq] at h2
              exact ⟨h1, h2.1.symm, h2.2.1.symm, h2.2.2.symm, h3, h4⟩
            have hG : ∀ i, i < k + 1 → goodAt g n L i := by
              intro i hi
              by_cases e : i = k
              · subst e; exact hgd
              · exact HG.out i (by omega)
            have HG2 := Lib.hid hG; clear hG hgd
            obtain ⟨rfl, rfl, rfl, rfl, h3, h4⟩ := hgs
            have H3 := Lib.hid h3; clear h3
            have H4 := Lib.hid h4; clear h4
            have hcs : cat L (k + 1) = cat L k ++ d' := by rw [cat_succ L k hkl, HOk.out]
            have HCS := Lib.hid hcs; clear hcs
            by_cases e4 : (k : Int) < (n : Int) - 1
            · have h40 : ((d'.length : Int) != 40) = false := by have := H3.out e4; rw [this]; rfl
              by_cases e6 : (0 : Int) < (k : Int)
              · have he : d'.isEmpty = false := by have := H4.out (by omega); simpa using this
                go_wp2_with (go_at_call 55; refine (Open_any _ _ HLk.out).mono ?_; rw [HOk.out]; rintro e w2 ⟨rfl, hb⟩; have hI2 := hI.call hb; clear hb hI a0 a1 a2; obtain ⟨a0, a1, a2⟩ := hI2.cells; have hz2 := lt_of_heap hI2.1)
                go_roundw
                case rel => exact ⟨k + 1, by omega, by go_num, by rw [HCS.out], hI2.alloc _, HG2.out⟩
                case measure => simp [intOf]; omega
              · go_wp2_with (go_at_call 55; refine (Open_any _ _ HLk.out).mono ?_; rw [HOk.out]; rintro e w2 ⟨rfl, hb⟩; have hI2 := hI.call hb; clear hb hI a0 a1 a2; obtain ⟨a0, a1, a2⟩ := hI2.cells; have hz2 := lt_of_heap hI2.1)
                go_roundw
                case rel => exact ⟨k + 1, by omega, by go_num, by rw [HCS.out], hI2.alloc _, HG2.out⟩
                case measure => simp [intOf]; omega
            · by_cases e6 : (0 : Int) < (k : Int)
              · have he : d'.isEmpty = false := by have := H4.out (by omega); simpa using this
                go_wp2_with (go_at_call 55; refine (Open_any _ _ HLk.out).mono ?_; rw [HOk.out]; rintro e w2 ⟨rfl, hb⟩; have hI2 := hI.call hb; clear hb hI a0 a1 a2; obtain ⟨a0, a1, a2⟩ := hI2.cells; have hz2 := lt_of_heap hI2.1)
                go_roundw
                case rel => exact ⟨k + 1, by omega, by go_num, by rw [HCS.out], hI2.alloc _, HG2.out⟩
                case measure => simp [intOf]; omega
              · go_wp2_with (go_at_call 55; refine (Open_any _ _ HLk.out).mono ?_; rw [HOk.out]; rintro e w2 ⟨rfl, hb⟩; have hI2 := hI.call hb; clear hb hI a0 a1 a2; obtain ⟨a0, a1, a2⟩ := hI2.cells; have hz2 := lt_of_heap hI2.1)
                go_roundw
                case rel => exact ⟨k + 1, by omega, by go_num, by rw [HCS.out], hI2.alloc _, HG2.out⟩
                case measure => simp [intOf]; omega
          · have hfin : joinS L least most = joinFail := by rw [HJ2.out, if_neg (join_bad L g n hnl k hlt hgd)]
            have HF := Lib.hid hfin; clear hfin
            have hbad : ¬ (er' = 0 ∧ g' = g ∧ p' = (k : Int) ∧ q' = (n : Int) ∧ ((k : Int) < n - 1 → d'.length = 40) ∧ (0 < k → d' ≠ [])) := by
              rintro ⟨h1, h2, h3, h4, h5, h6⟩
              exact hgd ⟨L[k], List.getElem?_eq_getElem hkl, by rw [HOk.out]; exact h1, by rw [HOk.out, h2, h3, h4], by rw [HOk.out]; exact h5, by rw [HOk.out]; exact h6⟩
            have HBAD := Lib.hid hbad; clear hbad hgd
            by_cases e0 : er' = 0
            · subst e0
              by_cases e1 : g' = g
              · subst e1
                by_cases e2 : p' = (k : Int)
                · subst e2
                  by_cases e3 : q' = (n : Int)
                  · subst e3
                    by_cases e4 : (k : Int) < (n : Int) - 1
                    · by_cases e5 : d'.length = 40
                      · have h40 : ((d'.length : Int) != 40) = false := by rw [e5]; rfl
                        have H5 := Lib.hid e5; clear e5
                        have e6 : (0 : Int) < (k : Int) ∧ d'.isEmpty = true := by
                          by_cases h0 : 0 < k ∧ d' = []
                          · rw [h0.2]; exact ⟨by omega, rfl⟩
                          · exact absurd ⟨rfl, rfl, rfl, rfl, fun _ => H5.out, fun h hd => h0 ⟨h, hd⟩⟩ HBAD.out
                        obtain ⟨e6, e7⟩ := e6
                        go_wp2_with (go_at_call 55; refine (Open_any _ _ HLk.out).mono ?_; rw [HOk.out]; rintro e w2 ⟨rfl, hb⟩; have hI2 := hI.call hb; clear hb hI a0 a1 a2; obtain ⟨a0, a1, a2⟩ := hI2.cells; have hz2 := lt_of_heap hI2.1)
                        exact bodyPost_ret (v := .tuple #[.string (bs []), .int .i64 0, .int .i64 0, .bool false]) (by simp [results, Try.results108, go_sem]; rfl) rfl ⟨by rw [HF.out]; rfl, (hI2.alloc _).2.2⟩
                      · have h40 : ((d'.length : Int) != 40) = true := by rw [bne_iff_ne]; omega
                        clear e5
                        go_wp2_with (go_at_call 55; refine (Open_any _ _ HLk.out).mono ?_; rw [HOk.out]; rintro e w2 ⟨rfl, hb⟩; have hI2 := hI.call hb; clear hb hI a0 a1 a2; obtain ⟨a0, a1, a2⟩ := hI2.cells; have hz2 := lt_of_heap hI2.1)
                        exact bodyPost_ret (v := .tuple #[.string (bs []), .int .i64 0, .int .i64 0, .bool false]) (by simp [results, Try.results108, go_sem]; rfl) rfl ⟨by rw [HF.out]; rfl, (hI2.alloc _).2.2⟩
                    · have e6 : (0 : Int) < (k : Int) ∧ d'.isEmpty = true := by
                        by_cases h0 : 0 < k ∧ d' = []
                        · rw [h0.2]; exact ⟨by omega, rfl⟩
                        · exact absurd ⟨rfl, rfl, rfl, rfl, fun h => absurd h e4, fun h hd => h0 ⟨h, hd⟩⟩ HBAD.out
                      obtain ⟨e6, e7⟩ := e6
                      go_wp2_with (go_at_call 55; refine (Open_any _ _ HLk.out).mono ?_; rw [HOk.out]; rintro e w2 ⟨rfl, hb⟩; have hI2 := hI.call hb; clear hb hI a0 a1 a2; obtain ⟨a0, a1, a2⟩ := hI2.cells; have hz2 := lt_of_heap hI2.1)
                      exact bodyPost_ret (v := .tuple #[.string (bs []), .int .i64 0, .int .i64 0, .bool false]) (by simp [results, Try.results108, go_sem]; rfl) rfl ⟨by rw [HF.out]; rfl, (hI2.alloc _).2.2⟩
                  · go_wp2_with (go_at_call 55; refine (Open_any _ _ HLk.out).mono ?_; rw [HOk.out]; rintro e w2 ⟨rfl, hb⟩; have hI2 := hI.call hb; clear hb hI a0 a1 a2; obtain ⟨a0, a1, a2⟩ := hI2.cells; have hz2 := lt_of_heap hI2.1)
                    exact bodyPost_ret (v := .tuple #[.string (bs []), .int .i64 0, .int .i64 0, .bool false]) (by simp [results, Try.results108, go_sem]; rfl) rfl ⟨by rw [HF.out]; rfl, (hI2.alloc _).2.2⟩
                · go_wp2_with (go_at_call 55; refine (Open_any _ _ HLk.out).mono ?_; rw [HOk.out]; rintro e w2 ⟨rfl, hb⟩; have hI2 := hI.call hb; clear hb hI a0 a1 a2; obtain ⟨a0, a1, a2⟩ := hI2.cells; have hz2 := lt_of_heap hI2.1)
                  exact bodyPost_ret (v := .tuple #[.string (bs []), .int .i64 0, .int .i64 0, .bool false]) (by simp [results, Try.results108, go_sem]; rfl) rfl ⟨by rw [HF.out]; rfl, (hI2.alloc _).2.2⟩
              · go_wp2_with (go_at_call 55; refine (Open_any _ _ HLk.out).mono ?_; rw [HOk.out]; rintro e w2 ⟨rfl, hb⟩; have hI2 := hI.call hb; clear hb hI a0 a1 a2; obtain ⟨a0, a1, a2⟩ := hI2.cells; have hz2 := lt_of_heap hI2.1)
                exact bodyPost_ret (v := .tuple #[.string (bs []), .int .i64 0, .int .i64 0, .bool false]) (by simp [results, Try.results108, go_sem]; rfl) rfl ⟨by rw [HF.out]; rfl, (hI2.alloc _).2.2⟩
            · have her : (er' != 0) = true := by rw [bne_iff_ne]; exact e0
              clear e0
              go_wp2_with (go_at_call 55; refine (Open_any _ _ HLk.out).mono ?_; rw [HOk.out]; rintro e w2 ⟨rfl, hb⟩; have hI2 := hI.call hb; clear hb hI a0 a1 a2; obtain ⟨a0, a1, a2⟩ := hI2.cells; have hz2 := lt_of_heap hI2.1)
              exact bodyPost_ret (v := .tuple #[.string (bs []), .int .i64 0, .int .i64 0, .bool false]) (by simp [results, Try.results108, go_sem]; rfl) rfl ⟨by rw [HF.out]; rfl, (hI2.alloc _).2.2⟩
        · have hkn : k = n := by omega
          have hfin : joinS L least most = (cat L n, g, (n : Int), true) := by rw [HJ2.out, if_pos (join_good L g n hn0 hnl (by subst hkn; exact HG.out))]; rfl
          have HF := Lib.hid hfin; clear hfin
          have HK := Lib.hid hkn; clear hkn
          go_wp2
          go_quiet (fail)
          go_wp2
          exact bodyPost_ret (v := .tuple #[.string (bs (cat L k)), .int .i64 g, .int .i64 n, .bool true]) (by simp [results, Try.results108, go_sem]) rfl ⟨by rw [HF.out, HK.out], bdrawN hI.2.2 _⟩
    · have hfin : joinS L least most = joinFail := by rw [HJ.out, if_neg hall]
      rw [hfin]
      have HALL := Lib.hid hall; clear hall hfin HJ
      go_enter Try.func108, Try.ntmps108
      by_cases e0 : er = 0
      · subst e0
        have h3 : g < least ∨ most < g ∨ (L.length : Int) < q := by have := HALL.out; omega
        clear HALL
        by_cases e1 : g < least
        · go_wp2_with (go_at_call 55; refine (Open_any _ _ HL0.out).mono ?_; rw [HO.out]; rintro e w1 ⟨rfl, hb⟩)
          exact bodyPost_ret (v := .tuple #[.string (bs []), .int .i64 0, .int .i64 0, .bool false]) (by simp [results, Try.results108, go_sem]; rfl) rfl ⟨rfl, hb.alloc hb.size _⟩
        · by_cases e2 : most < g
          · go_wp2_with (go_at_call 55; refine (Open_any _ _ HL0.out).mono ?_; rw [HO.out]; rintro e w1 ⟨rfl, hb⟩)
            exact bodyPost_ret (v := .tuple #[.string (bs []), .int .i64 0, .int .i64 0, .bool false]) (by simp [results, Try.results108, go_sem]; rfl) rfl ⟨rfl, hb.alloc hb.size _⟩
          · have e3 : (L.length : Int) < q := by omega
            clear h3
            go_wp2_with (go_at_call 55; refine (Open_any _ _ HL0.out).mono ?_; rw [HO.out]; rintro e w1 ⟨rfl, hb⟩)
            exact bodyPost_ret (v := .tuple #[.string (bs []), .int .i64 0, .int .i64 0, .bool false]) (by simp [results, Try.results108, go_sem]; rfl) rfl ⟨rfl, hb.alloc hb.size _⟩
      · have her : (er != 0) = true := by rw [bne_iff_ne]; exact e0
        clear e0
        go_wp2_with (go_at_call 55; refine (Open_any _ _ HL0.out).mono ?_; rw [HO.out]; rintro e w1 ⟨rfl, hb⟩)
        exact bodyPost_ret (v := .tuple #[.string (bs []), .int .i64 0, .int .i64 0, .bool false]) (by simp [results, Try.results108, go_sem]; rfl) rfl ⟨rfl, hb.alloc hb.size _⟩
end Go.Proofs.Ytkpfkknldeafkaa

namespace Go.Proofs.Ytkpfkknldeafkaa
open Go.RowKit

end Go.Proofs.Ytkpfkknldeafkaa
namespace Go.Proofs.Ytkpfkknldeafkaa
open Go.RowKit

set_option maxRecDepth 100000 in
theorem write_len (d : Dk) (n : Int) (data : List UInt8) : (writeS d n data).1.S.length = d.S.length ∧ (writeS d n data).1.P.length ≤ d.P.length + 1 := by
  unfold writeS happenS
  split
  · split
    · exact ⟨rfl, by simp⟩
    · split
      · exact ⟨rfl, by simp⟩
      · exact ⟨rfl, by simp [addW]⟩
  · exact ⟨rfl, by simp⟩
set_option maxRecDepth 100000 in
theorem sync_len (d : Dk) : (syncS d).1.S.length = d.S.length ∧ (syncS d).1.P.length ≤ d.P.length := by
  unfold syncS happenS
  split
  · split
    · exact ⟨rfl, by simp⟩
    · split
      · exact ⟨rfl, by simp⟩
      · exact ⟨by simp [syncD, perform_len], by simp [syncD]⟩
  · exact ⟨rfl, by simp⟩
theorem Bx.sets_ne {b c : Nat} {cs : Array Value} {T : TypeId} {W : World} (h : Bx b cs T W) (hne : b ≠ c) (u0 u1 u2 u3 u4 : Value) :
    Bx b cs T (((((W.setCell ⟨c, 0, none⟩ u0).setCell ⟨c, 1, none⟩ u1).setCell ⟨c, 2, none⟩ u2).setCell ⟨c, 3, none⟩ u3).setCell ⟨c, 4, none⟩ u4) :=
  ((((h.other hne u0).other hne u1).other hne u2).other hne u3).other hne u4
theorem box_nostr {B o : Nat} {s : List UInt8} {T : TypeId} {W : World} {i2 i3 : Int} {b4 : Bool} {a0 a1 : Option Addr} {n0 c0 n1 c1 : Nat} (h : Bx B #[.slice a0 n0 c0, .slice a1 n1 c1, .int .i64 i2, .int .i64 i3, .bool b4] T W) : W.cell? ⟨B, o, none⟩ ≠ some (strV s) := by
  rw [h.cell o]
  match o with
  | 0 | 1 | 2 | 3 | 4 => intro e; cases e
  | n + 5 => intro e; simp at e
theorem cell1_sets {W : World} {b i c : Nat} {u : Value} (h : W.cell? ⟨b, i, none⟩ = some u) (h1 : c ≠ b) (u0 u1 u2 u3 u4 : Value) :
    (((((W.setCell ⟨c, 0, none⟩ u0).setCell ⟨c, 1, none⟩ u1).setCell ⟨c, 2, none⟩ u2).setCell ⟨c, 3, none⟩ u3).setCell ⟨c, 4, none⟩ u4).cell? ⟨b, i, none⟩ = some u :=
  cell1_set _ h1 (cell1_set _ h1 (cell1_set _ h1 (cell1_set _ h1 (cell1_set _ h1 h))))
set_option maxRecDepth 100000 in
/-- a disk's lists stand when a disk's box is written -/
theorem Lists.sets_box {W : World} {sa pa : Option Addr} {sc pc : Nat} {d : Dk} (h : Lists W sa sc pa pc d) {B : Nat} {T : TypeId} {i2 i3 : Int} {b4 : Bool} {a0 a1 : Option Addr} {n0 c0 n1 c1 : Nat} (hB : Bx B #[.slice a0 n0 c0, .slice a1 n1 c1, .int .i64 i2, .int .i64 i3, .bool b4] T W) (u0 u1 u2 u3 u4 : Value) :
    Lists (((((W.setCell ⟨B, 0, none⟩ u0).setCell ⟨B, 1, none⟩ u1).setCell ⟨B, 2, none⟩ u2).setCell ⟨B, 3, none⟩ u3).setCell ⟨B, 4, none⟩ u4) sa sc pa pc d := by
  obtain ⟨⟨a, cap, he, hc, hx⟩, ⟨a', cap', he', hc', hx'⟩, h3, h4⟩ := h
  refine ⟨⟨a, cap, he, hc, fun hne => ?_⟩, ⟨a', cap', he', hc', fun hne => ?_⟩, h3, h4⟩
  · obtain ⟨b, off, ha, hcell⟩ := hx hne
    refine ⟨b, off, ha, fun i hi => cell1_sets (hcell i hi) ?_ _ _ _ _ _⟩
    intro e; subst e; exact box_nostr hB (hcell i hi)
  · obtain ⟨b, off, ha, hcell⟩ := hx' hne
    refine ⟨b, off, ha, fun i hi => ?_⟩
    have hne2 : B ≠ b := by intro e; subst e; exact box_nostr hB (hcell i hi).2
    exact ⟨cell1_sets (hcell i hi).1 hne2 _ _ _ _ _, cell1_sets (hcell i hi).2 hne2 _ _ _ _ _⟩
end Go.Proofs.Ytkpfkknldeafkaa
namespace Go.Proofs.Ytkpfkknldeafkaa
open Go.RowKit

structure Sp where
  g : Int
  e : Int
  a : Int
  z : Int
  p : Int
deriving DecidableEq
def spV (x : Sp) : Array Value := #[.int .i64 x.g, .int .i64 x.e, .int .i64 x.a, .int .i64 x.z, .int .i64 x.p]
def sp0 : Sp := ⟨0, 0, 0, 0, 0⟩
def spB (x : Sp) : Bool := decide (1 ≤ x.g ∧ x.g ≤ 1099511627776 ∧ 0 ≤ x.e ∧ x.e ≤ x.g ∧ 0 ≤ x.a ∧ x.a ≤ 2 ∧ (x.a = 0 → x.z = 0 ∧ x.p = 0) ∧ (x.a ≠ 0 → 1 ≤ x.z ∧ x.z ≤ 16384 ∧ 0 ≤ x.p ∧ x.p ≤ 1099511627776))
theorem spB_iff (x : Sp) : spB x = true ↔ 1 ≤ x.g ∧ x.g ≤ 1099511627776 ∧ 0 ≤ x.e ∧ x.e ≤ x.g ∧ 0 ≤ x.a ∧ x.a ≤ 2 ∧ (x.a = 0 → x.z = 0 ∧ x.p = 0) ∧ (x.a ≠ 0 → 1 ≤ x.z ∧ x.z ≤ 16384 ∧ 0 ≤ x.p ∧ x.p ≤ 1099511627776) := by unfold spB; rw [decide_eq_true_iff]
theorem spB_no {x : Sp} (h : ¬ (1 ≤ x.g ∧ x.g ≤ 1099511627776 ∧ 0 ≤ x.e ∧ x.e ≤ x.g ∧ 0 ≤ x.a ∧ x.a ≤ 2 ∧ (x.a = 0 → x.z = 0 ∧ x.p = 0) ∧ (x.a ≠ 0 → 1 ≤ x.z ∧ x.z ≤ 16384 ∧ 0 ≤ x.p ∧ x.p ≤ 1099511627776))) : spB x = false := decide_eq_false h
theorem spB_bounds {x : Sp} (h : spB x = true) : 1 ≤ x.g ∧ x.g ≤ 1099511627776 ∧ 0 ≤ x.e ∧ x.e ≤ 1099511627776 ∧ 0 ≤ x.a ∧ x.a ≤ 2 ∧ 0 ≤ x.z ∧ x.z ≤ 16384 ∧ 0 ≤ x.p ∧ x.p ≤ 1099511627776 := by
  obtain ⟨h1, h2, h3, h4, h5, h6, h7, h8⟩ := (spB_iff x).1 h
  by_cases h0 : x.a = 0
  · have := h7 h0; omega
  · have := h8 h0; omega
/-- the data of a superblock's sector -/
def encD (x : Sp) : List UInt8 := uintS x.e.toNat ++ uintS x.a.toNat ++ uintS x.z.toNat ++ uintS x.p.toNat
theorem uintS_len (u : Nat) (h : u ≤ 1099511627776) : (uintS u).length ≤ 6 := by
  refine uintF_small 9 5 u (by omega) ?_
  have e : (128 : Nat) ^ (5 + 1) = 4398046511104 := by decide
  rw [e]; omega
theorem encD_len {x : Sp} (h : spB x = true) : (encD x).length ≤ 40 := by
  obtain ⟨h1, h2, h3, h4, h5, h6, h7, h8, h9, h10⟩ := spB_bounds h
  unfold encD
  have a := uintS_len x.e.toNat (by omega)
  have b := uintS_len x.a.toNat (by omega)
  have c := uintS_len x.z.toNat (by omega)
  have d := uintS_len x.p.toNat (by omega)
  simp only [List.length_append]; omega
def encS (x : Sp) : List UInt8 × Int := if spB x = true then (sealedL x.g.toNat 0 1 (encD x), 0) else ([], 1)
theorem enc_seal {x : Sp} (h : spB x = true) : sealS x.g 0 1 (encD x) = (sealedL x.g.toNat 0 1 (encD x), 0) := by
  obtain ⟨h1, h2, _⟩ := spB_bounds h
  have hs : stampB x.g 0 1 = true := by rw [stampB_iff]; omega
  unfold sealS; rw [if_pos hs, if_pos (encD_len h)]; rfl
theorem enc_len {x : Sp} (h : spB x = true) : (sealedL x.g.toNat 0 1 (encD x)).length = 64 := sealedL_length _ _ _ _ (encD_len h)

/-- k numbers taken off some data, one behind the other: the numbers, the place behind them, the error -/
def tkN (data : List UInt8) : Nat → List Nat × Int × Int
  | 0 => ([], 0, 0)
  | k + 1 => if (tkN data k).2.2 ≠ 0 then tkN data k else if (takeS data (tkN data k).2.1).2.2 = 0 then ((tkN data k).1 ++ [(takeS data (tkN data k).2.1).1], (takeS data (tkN data k).2.1).2.1, 0) else ([], 0, (takeS data (tkN data k).2.1).2.2)
theorem tkN_ok {data : List UInt8} {k : Nat} {ns : List Nat} {at_ : Int} (h : tkN data k = (ns, at_, 0)) {u : Nat} {at2 : Int} (h2 : takeS data at_ = (u, at2, 0)) : tkN data (k + 1) = (ns ++ [u], at2, 0) := by
  unfold tkN; rw [h]; simp only; rw [h2]; simp
theorem tkN_bad {data : List UInt8} {k : Nat} {ns : List Nat} {at_ : Int} (h : tkN data k = (ns, at_, 0)) {e : Int} (h2 : (takeS data at_).2.2 = e) (he : e ≠ 0) : tkN data (k + 1) = ([], 0, e) := by
  unfold tkN; rw [h]; simp only; rw [h2, if_neg (by simp), if_neg he]
theorem tkN_stay {data : List UInt8} {k : Nat} {e : Int} (h : tkN data k = ([], 0, e)) (he : e ≠ 0) (j : Nat) : tkN data (k + j) = ([], 0, e) := by
  induction j with
  | zero => exact h
  | succ j ih => rw [← Nat.add_assoc]; unfold tkN; rw [ih]; simp only; rw [if_pos he]
def mkSp (g : Int) (ns : List Nat) : Sp := ⟨g, ns.getD 0 0, ns.getD 1 0, ns.getD 2 0, ns.getD 3 0⟩
def bigB (ns : List Nat) : Bool := ns.any fun n => decide ((1099511627776 : Int) < (n : Int))
theorem bigB_snoc (ns : List Nat) (u : Nat) : bigB (ns ++ [u]) = (bigB ns || decide ((1099511627776 : Int) < (u : Int))) := by unfold bigB; rw [List.any_append]; simp
def decD (g : Int) (data : List UInt8) : Sp × Int :=
  if (tkN data 4).2.2 ≠ 0 then (sp0, (tkN data 4).2.2)
  else if (tkN data 4).2.1 = (data.length : Int) ∧ bigB (tkN data 4).1 = false ∧ spB (mkSp g (tkN data 4).1) = true then (mkSp g (tkN data 4).1, 0) else (sp0, 5)
theorem decD_bad {g : Int} {data : List UInt8} {e : Int} (h : tkN data 4 = ([], 0, e)) (he : e ≠ 0) : decD g data = (sp0, e) := by unfold decD; rw [h]; simp only; rw [if_pos he]
theorem decD_ok {g : Int} {data : List UInt8} {ns : List Nat} {at_ : Int} (h : tkN data 4 = (ns, at_, 0)) (h1 : at_ = (data.length : Int)) (h2 : bigB ns = false) (h3 : spB (mkSp g ns) = true) : decD g data = (mkSp g ns, 0) := by
  unfold decD; rw [h]; simp only; rw [if_neg (by simp), if_pos ⟨h1, h2, h3⟩]
theorem decD_no {g : Int} {data : List UInt8} {ns : List Nat} {at_ : Int} (h : tkN data 4 = (ns, at_, 0)) (h1 : ¬ (at_ = (data.length : Int) ∧ bigB ns = false ∧ spB (mkSp g ns) = true)) : decD g data = (sp0, 5) := by
  unfold decD; rw [h]; simp only; rw [if_neg (by simp), if_neg h1]
/-- four cells of an array of numbers -/
def u64A (A : List Nat) : Array Value := (A.map fun (n : Nat) => Value.int .u64 (n : Int)).toArray
theorem u64A_get (A : List Nat) (k : Nat) (h : k < A.length) : (u64A A)[k]? = some (.int .u64 (A[k] : Int)) := by unfold u64A; simp [h]
theorem u64A_set (A : List Nat) (k u : Nat) : (u64A A).setIfInBounds k (.int .u64 (u : Int)) = u64A (A.set k u) := by unfold u64A; rw [List.setIfInBounds_toArray, List.map_set]
theorem take_set (A : List Nat) (k u : Nat) (ns : List Nat) (hk : k < A.length) (h : A.take k = ns) : (A.set k u).take (k + 1) = ns ++ [u] := by
  rw [List.take_succ_eq_append_getElem (by simpa using hk), List.getElem_set_self, List.take_set_of_le (Nat.le_refl _), h]
def decS (s : List UInt8) : Sp × Int :=
  if (openS s).2.2 ≠ 0 then (sp0, (openS s).2.2)
  else if (openS s).1.2.1 = 0 ∧ (openS s).1.2.2 = 1 then decD (openS s).1.1 (openS s).2.1 else (sp0, 5)
def bestS (a b : List UInt8) : Sp × Bool :=
  if (decS a).2 = 0 ∧ ((decS b).2 ≠ 0 ∨ (decS b).1.g ≤ (decS a).1.g) then ((decS a).1, true)
  else if (decS b).2 = 0 then ((decS b).1, true) else (sp0, false)
def loadS (d : Dk) : Sp × Int :=
  if (readS d 0).2 ≠ 0 then (sp0, (readS d 0).2)
  else if (readS d 1).2 ≠ 0 then (sp0, (readS d 1).2)
  else if (bestS (readS d 0).1 (readS d 1).1).2 = true then ((bestS (readS d 0).1 (readS d 1).1).1, 0) else (sp0, 20)
def storeS (d : Dk) (x : Sp) : Dk × Int :=
  if (encS x).2 ≠ 0 then (d, (encS x).2)
  else if (writeS d (x.g % 2) (encS x).1).2 ≠ 0 then writeS d (x.g % 2) (encS x).1
  else syncS (writeS d (x.g % 2) (encS x).1).1

theorem dec_err (s : List UInt8) : (decS s).2 ≠ 0 → (decS s).1 = sp0 := by
  unfold decS decD
  split
  · intro _; rfl
  · split
    · split
      · intro _; rfl
      · split
        · intro h; exact absurd rfl h
        · intro _; rfl
    · intro _; rfl
end Go.Proofs.Ytkpfkknldeafkaa

namespace Go.Proofs.Ytkpfkknldeafkaa
open Go.RowKit

theorem Bx.new1 (w : World) (a : Obj) (cs : Array Value) (T : TypeId) : Bx (w.heap.size + 1) cs T ((w.alloc a).alloc (.cells cs T)) := by
  have := Bx.new (w.alloc a) cs T; simpa using this
theorem Bx.new2 (w : World) (a b : Obj) (cs : Array Value) (T : TypeId) : Bx (w.heap.size + 2) cs T (((w.alloc a).alloc b).alloc (.cells cs T)) := by
  have := Bx.new ((w.alloc a).alloc b) cs T; simpa using this

/-- 'append(data[:len(data):len(data)], s...)': a row without spare capacity grows into a new one -/
theorem run_append_full {P : Program} (w : World) (t u ty e : TypeId) (i : TypeInfo) (ht : P.underlying t = some (.slice e)) (hu : P.underlying u = some .string) (hi : P.info? e = some i) (hz : i.zero = some (.int .u8 0))
    (hsize : i.size = 1) (hby : i.bytes = 1) (g n : Nat) (xs : List Value) (hxl : xs.length = n) (holds : ∀ j u, xs[j]? = some u → w.cell? ⟨g, 0 + j, none⟩ = some u) (s : ByteArray) (h0 : 0 < s.size) (hbytes : n + s.size ≤ 1000000) :
    ∃ v' w', (Builtin.append_ #[t, u] ty #[.slice (some ⟨g, 0, none⟩) n n, .string s]).run P w = .ok v' w' ∧ w'.ownsRow w.heap.size e 1 v' (n + s.size) (xs ++ Lib.strCells s) ∧ w.grownBy w' none := by
  have hlen : (xs ++ Lib.strCells s).length = (n + s.size) * 1 := by rw [List.length_append, hxl, Lib.strCells_length, Nat.mul_one]
  have holds2 : ∀ j u, xs[j]? = some u → w.cell? ((⟨g, 0, none⟩ : Addr).add j) = some u := by
    intro j u hj
    have e : (⟨g, 0, none⟩ : Addr).add j = ⟨g, 0 + j, none⟩ := by unfold Addr.add; split <;> simp_all
    rw [e]; exact holds j u hj
  have hr := Lib.run_append_grow_string (P := P) w t u ty e i (.int .u8 0) ht hu hi hz ⟨g, 0, none⟩ n n xs (by rw [hsize]; simpa using hxl) holds2 s (by omega) (by omega) (by rw [hby]; exact growslice_fits (by omega) (by omega))
  have hge := grownCap_ge w (n + s.size) n e
  have hcm : grownCap w (n + s.size) n e ≤ maxLen := grownCap_le_maxLen w (n + s.size) n e (by unfold maxLen; omega)
  refine ⟨_, _, hr, ⟨hlen, .inr ⟨w.heap.size, _, _, rfl, Nat.le_refl _, heap_alloc_new w.drew _, hge, hcm, ?_, ?_⟩⟩, ⟨rfl, rfl, rfl, by simp, fun k hk _ => heap_alloc_old w.drew _ hk⟩⟩
  · have hz1 : (Value.int IntKind.u8 0).cells.size = 1 := rfl
    simp only [Array.size_append, List.size_toArray, size_zeroCells, hz1, hxl, Lib.strCells_length]
    omega
  · simp only [Array.toList_append, List.append_assoc]
    rw [← List.append_assoc, ← hlen]
    exact List.take_left
set_option maxRecDepth 100000 in
theorem run_append_text (w : World) (ty : TypeId) (v : Value) (L y : List UInt8)
    (hv : (v = .slice none 0 0 ∧ L = []) ∨ ∃ g, v = .slice (some ⟨g, 0, none⟩) L.length L.length ∧ ∀ j u, (bcs L)[j]? = some u → w.cell? ⟨g, 0 + j, none⟩ = some u) (h0 : 0 < y.length) (hb : L.length + y.length ≤ 1000000) :
    ∃ v' w', (Builtin.append_ #[81, 9] ty #[v, .string (bs y)]).run Try.prog w = .ok v' w' ∧ w'.ownsRow w.heap.size 5 1 v' (L ++ y).length (bcs (L ++ y)) ∧ Below w.heap.size w w' := by
  obtain ⟨i0, hi, hz0, hz1, hz2⟩ := info_parts Try.infoByte
  have hsc : ∀ l : List UInt8, Lib.strCells (bs l) = bcs l := fun l => by simp [Lib.strCells, bcs, bs]
  have hcat : bcs (L ++ y) = bcs L ++ bcs y := by simp [bcs]
  rcases hv with ⟨rfl, rfl⟩ | ⟨g, rfl, hc⟩
  · have hown : w.ownsRow w.heap.size 5 1 (.slice none 0 0) 0 [] := World.ownsRow_nil _ _ _ _
    obtain ⟨v', w', h1, h2, h3, _⟩ := Lib.run_append_own_string (P := Try.prog) w w.heap.size 81 9 ty 5 i0 Try.underlying81 Try.underlying9 hi hz0 hz1 hz2 (.slice none 0 0) 0 [] hown (bs y) (by rw [bs_size]; unfold maxLen; simp at hb; omega) (by rw [bs_size]; simp at hb; omega) (Nat.le_refl _)
    refine ⟨v', w', h1, ?_, ?_⟩
    · rw [hsc, bs_size] at h2
      simpa using h2
    · exact (Below.refl _ _).grown h3 (Nat.le_refl _) (fun k hk => by cases hk)
  · obtain ⟨v', w', h1, h2, h3⟩ := run_append_full (P := Try.prog) w 81 9 ty 5 i0 Try.underlying81 Try.underlying9 hi hz0 hz1 hz2 g L.length (bcs L) (bcs_length L) hc (bs y) (by rw [bs_size]; exact h0) (by rw [bs_size]; exact hb)
    refine ⟨v', w', h1, ?_, ?_⟩
    · rw [hsc, bs_size, ← hcat, ← List.length_append] at h2
      exact h2
    · exact (Below.refl _ _).grown h3 (Nat.le_refl _) (fun k hk => by cases hk)
theorem step_append_text {ops : Array Oper} {o : Oper} {a : Act} {w : World} {K : Act → World → Prop} {Q : Exit → Act → World → Prop} {E : Prop} (hgd : o.guard = none) (s x : Operand)
    (ho : o.op = .call { callee := .builtin .append, args := #[s, x], argTypes := #[81, 9] }) (v : Value) (L y : List UInt8) (hs : a.eval s = v) (hx : a.eval x = .string (bs y))
    (hv : (v = .slice none 0 0 ∧ L = []) ∨ ∃ g, v = .slice (some ⟨g, 0, none⟩) L.length L.length ∧ ∀ j u, (bcs L)[j]? = some u → w.cell? ⟨g, 0 + j, none⟩ = some u) (h0 : 0 < y.length) (hb : L.length + y.length ≤ 1000000)
    (h : ∀ v' w', w'.ownsRow w.heap.size 5 1 v' (L ++ y).length (bcs (L ++ y)) → Below w.heap.size w w' → K (a.put o.dst v') w') :
    if Region.wanted o (yielded ops a.tmps) = true then Oper.wp Try.prog o a w K Q else E := by
  have hw : Region.wanted o (yielded ops a.tmps) = true := by simp [Region.wanted, hgd]
  rw [if_pos hw]
  obtain ⟨v', w', hr, h2, h3⟩ := run_append_text w o.type v L y hv h0 hb
  unfold Oper.wp execOp
  simp only [ho, resolve, invoke, builtin, Sem.run_bind, Sem.run_pure, Result.andThen_ok, List.map_toArray, List.map_cons, List.map_nil, hs, hx, hr]
  exact h v' w' h2 h3
set_option maxRecDepth 100000 in
set_option maxHeartbeats 1000000 in
theorem SValid_any (x : Sp) (w : World) :
    Calls Try.prog 18 #[.agg (spV x)] w fun e w' => e = .returned (.bool (spB x)) ∧ Below w.heap.size w w' := by
  obtain ⟨g, e, a, z, p⟩ := x
  simp only [spV]
  go_enter Try.func18, Try.ntmps18
  go_wp2
  all_goals go_ret
  all_goals refine ⟨ret_bool ?_, (Below.refl _ _).alloc (Nat.le_refl _) _⟩
  all_goals (try simp only [beq_iff_eq, beq_eq_false_iff_ne, ne_eq] at *)
  all_goals first
    | exact ((spB_iff ⟨g, e, a, z, p⟩).2 (by simp only; omega)).symm
    | exact (spB_no (x := ⟨g, e, a, z, p⟩) (by simp only; omega)).symm
    | (rw [Bool.eq_iff_iff, spB_iff]; simp; omega)

/-- the numbers of a superblock's data -/
def nums4 (x : Sp) : List Int := [x.e, x.a, x.z, x.p]
def encK (x : Sp) (k : Nat) : List UInt8 := ((nums4 x).take k).flatMap fun n => uintS n.toNat
theorem encK_four (x : Sp) : encK x 4 = encD x := by simp [encK, nums4, encD, List.append_assoc]
theorem encK_succ (x : Sp) (k : Nat) (h : k < (nums4 x).length) : encK x (k + 1) = encK x k ++ uintS (nums4 x)[k].toNat := by
  unfold encK; rw [List.take_succ_eq_append_getElem h, List.flatMap_append]; simp
theorem nums_bound {x : Sp} (h : spB x = true) (k : Nat) (hk : k < (nums4 x).length) : 0 ≤ (nums4 x)[k] ∧ (nums4 x)[k] ≤ 1099511627776 := by
  obtain ⟨h1, h2, h3, h4, h5, h6, h7, h8, h9, h10⟩ := spB_bounds h
  match k, hk with
  | 0, _ => exact ⟨h3, h4⟩
  | 1, _ => exact ⟨h5, by show x.a ≤ _; omega⟩
  | 2, _ => exact ⟨h7, by show x.z ≤ _; omega⟩
  | 3, _ => exact ⟨h9, h10⟩
theorem encK_len {x : Sp} (h : spB x = true) (k : Nat) : (encK x k).length ≤ 24 := by
  have key : ∀ l : List Int, (∀ n ∈ l, 0 ≤ n ∧ n ≤ 1099511627776) → (l.flatMap fun n => uintS n.toNat).length ≤ 6 * l.length := by
    intro l
    induction l with
    | nil => intro _; simp
    | cons n r ih =>
      intro hl
      have h1 := hl n (by simp)
      have h2 := uintS_len n.toNat (by omega)
      have h3 := ih (fun m hm => hl m (by simp [hm]))
      simp only [List.flatMap_cons, List.length_append, List.length_cons]; omega
  have := key ((nums4 x).take k) (fun n hn => by
    obtain ⟨i, hi, rfl⟩ := List.mem_iff_getElem.1 (List.mem_of_mem_take hn)
    exact nums_bound h i hi)
  have h2 : ((nums4 x).take k).length ≤ 4 := by rw [List.length_take]; simp [nums4]; omega
  unfold encK; omega
set_option maxRecDepth 100000 in
set_option maxHeartbeats 2000000 in
theorem SEncode_any (x : Sp) (w : World) :
    Calls Try.prog 16 #[.agg (spV x)] w fun e w' => e = .returned (.tuple #[.string (bs (encS x).1), .int .i64 (encS x).2]) ∧ Below w.heap.size w w' := by
  have hb0 := (Below.refl w.heap.size w).alloc (Nat.le_refl _) (.cells (spV x) 23)
  have hX := Bx.new w (spV x) 23
  have x0 : (w.alloc (.cells (spV x) 23)).cell? ⟨w.heap.size, 0, none⟩ = some (.int .i64 x.g) := hX.cell 0
  have x1 : (w.alloc (.cells (spV x) 23)).cell? ⟨w.heap.size, 1, none⟩ = some (.int .i64 x.e) := hX.cell 1
  have x2 : (w.alloc (.cells (spV x) 23)).cell? ⟨w.heap.size, 2, none⟩ = some (.int .i64 x.a) := hX.cell 2
  have x3 : (w.alloc (.cells (spV x) 23)).cell? ⟨w.heap.size, 3, none⟩ = some (.int .i64 x.z) := hX.cell 3
  have x4 : (w.alloc (.cells (spV x) 23)).cell? ⟨w.heap.size, 4, none⟩ = some (.int .i64 x.p) := hX.cell 4
  have HX := Lib.hid hX; have HB0 := Lib.hid hb0; clear hX hb0
  go_enter Try.func16, Try.ntmps16
  go_wp2_with fail
  refine (SValid_any x _).mono ?_
  cases hv : spB x with
  | false =>
    rintro e w1 ⟨rfl, hb1⟩
    have HF := Lib.hid (show encS x = ([], 1) by unfold encS; rw [if_neg (by rw [hv]; decide)])
    clear hv x0 x1 x2 x3 x4
    go_wp2
    go_ret2
    rw [HF.out]
    exact ⟨rfl, btrans HB0.out HB0.out.size hb1⟩
  | true =>
    rintro e w1 ⟨rfl, hb1⟩
    have HF := Lib.hid (show encS x = (sealedL x.g.toNat 0 1 (encD x), 0) by unfold encS; rw [if_pos hv])
    have HV := Lib.hid hv
    have HX1 := Lib.hid (HX.out.call hb1)
    have HB1 := Lib.hid (btrans HB0.out HB0.out.size hb1)
    clear hv x0 x1 x2 x3 x4 hb1
    have x0 : w1.cell? ⟨w.heap.size, 0, none⟩ = some (.int .i64 x.g) := HX1.out.cell 0
    have x1 : w1.cell? ⟨w.heap.size, 1, none⟩ = some (.int .i64 x.e) := HX1.out.cell 1
    have x2 : w1.cell? ⟨w.heap.size, 2, none⟩ = some (.int .i64 x.a) := HX1.out.cell 2
    have x3 : w1.cell? ⟨w.heap.size, 3, none⟩ = some (.int .i64 x.z) := HX1.out.cell 3
    have x4 : w1.cell? ⟨w.heap.size, 4, none⟩ = some (.int .i64 x.p) := HX1.out.cell 4
    go_wp2
    clear x0 x1 x2 x3 x4
    have hr0 := Bx.new w1 #[.int .i64 x.e, .int .i64 x.a, .int .i64 x.z, .int .i64 x.p] 2
    have HR := Lib.hid hr0; clear hr0
    obtain ⟨i0, hi, hz0, hz1, hz2⟩ := info_parts Try.infoByte
    go_loopw [4, 20] (fun v i wr => ∃ k : Nat, k ≤ 4 ∧ i = .int .i64 k ∧ wr.ownsRow (w1.heap.size + 1) 5 1 v (encK x k).length (bcs (encK x k)) ∧ Below (w1.heap.size + 1) (w1.alloc (.cells #[.int .i64 x.e, .int .i64 x.a, .int .i64 x.z, .int .i64 x.p] 2)) wr) (fun _ i _ => 4 - (intOf i).toNat)
    case atStart => exact ⟨0, by omega, rfl, World.ownsRow_nil _ _ _ _, Below.refl _ _⟩
    case round =>
      obtain ⟨k, hk, rfl, hown, hbr⟩ := hrel
      have hsz : w1.heap.size + 1 ≤ wr.heap.size := by have := hbr.size; simpa using this
      have hXr := HR.out.below hbr (by omega)
      have HOW := Lib.hid hown; have HBR := Lib.hid hbr; clear hown hbr
      by_cases hlt : k < 4
      · have hkl : k < (nums4 x).length := hlt
        have hlt' : (k : Int) < 4 := by omega
        obtain ⟨n, hn⟩ : ∃ n, (nums4 x)[k] = n := ⟨_, rfl⟩
        have hnb := nums_bound HV.out k hkl
        have hes := encK_succ x k hkl
        rw [hn] at hnb hes
        have hcell : wr.cell? ⟨w1.heap.size, k, none⟩ = some (.int .i64 n) := by
          rw [hXr.cell k, ← hn]
          match k, hkl with
          | 0, _ | 1, _ | 2, _ | 3, _ => rfl
        obtain ⟨n, rfl⟩ : ∃ m : Nat, n = m := ⟨n.toNat, by omega⟩
        rw [Int.toNat_natCast] at hes
        have hw64 : IntKind.u64.wrap (n : Int) = (n : Int) := wrap_u64 n (by omega)
        have HES := Lib.hid hes; clear hn hes hXr
        have hl24 := encK_len HV.out k
        have hu6 := uintS_len n (by omega)
        have hu1 : 1 ≤ (uintS n).length := (uintF_len 9 n).1
        rcases own_form HOW.out with ⟨rfl, hz⟩ | ⟨g, cap, rfl, hc, _⟩
        · have hk0 : encK x k = [] := List.eq_nil_of_length_eq_zero hz
          have HK0 := Lib.hid hk0; clear hk0 hz
          go_wp2_with fail
          go_region_law (first
            | (go_simp; go_at_call 51; refine (Uint_any n (by omega) _).mono ?_; rintro e w2 ⟨rfl, hb2⟩)
            | (refine step_append_text rfl _ _ rfl (.slice none 0 0) [] (uintS n) rfl rfl (Or.inl ⟨rfl, rfl⟩) (by omega) (by simp; omega) ?_; intro v3 w3 hown3 hb3))
          have HO3 := Lib.hid (own_mono hown3 (Nat.le_trans hsz hb2.size)); have HB3 := Lib.hid (btrans HBR.out.drew hsz (btrans hb2 hb2.size hb3)); clear hown3 hb2 hb3
          go_wp2
          go_roundw
          case rel => exact ⟨k + 1, by omega, by go_num, by rw [HES.out, HK0.out]; exact HO3.out, HB3.out⟩
          case measure => simp [intOf]; omega
        · have hcl := own_addr HOW.out
          have hgl := (HOW.out.lt g rfl).2
          have HCL := Lib.hid hcl; clear hcl
          go_wp2_with fail
          go_region_law (first
            | (go_simp; go_at_call 51; refine (Uint_any n (by omega) _).mono ?_; rintro e w2 ⟨rfl, hb2⟩)
            | (refine step_append_text rfl _ _ rfl (.slice (some ⟨g, 0, none⟩) (encK x k).length (encK x k).length) (encK x k) (uintS n) rfl rfl (Or.inr ⟨g, rfl, fun j u hj => (hb2.cell (p := ⟨g, 0 + j, none⟩) hgl).trans (HCL.out j u hj)⟩) (by omega) (by omega) ?_; intro v3 w3 hown3 hb3))
          have HO3 := Lib.hid (own_mono hown3 (Nat.le_trans hsz hb2.size)); have HB3 := Lib.hid (btrans HBR.out.drew hsz (btrans hb2 hb2.size hb3)); clear hown3 hb2 hb3
          go_wp2
          go_roundw
          case rel => exact ⟨k + 1, by omega, by go_num, by rw [HES.out]; exact HO3.out, HB3.out⟩
          case measure => simp [intOf]; omega
      · obtain rfl : k = 4 := by omega
        have hown := HOW.out
        rw [encK_four] at hown
        have hconv := own_conv hown
        have hXs := HX1.out.below (B := w1.heap.size) (((Below.refl w1.heap.size w1).alloc (Nat.le_refl _) _).trans (HBR.out.mono (by omega))) HX1.out.lt
        have x0 : wr.cell? ⟨w.heap.size, 0, none⟩ = some (.int .i64 x.g) := hXs.cell 0
        have HES := Lib.hid (enc_seal HV.out)
        have h40 := encD_len HV.out
        clear hown hXs
        go_wp2_with fail
        refine (Seal_any x.g 0 1 (encD x) _ (by omega)).mono ?_
        rw [HES.out]
        rintro e w5 ⟨rfl, hb5⟩
        go_wp2
        go_ret2
        rw [HF.out]
        exact ⟨rfl, btrans HB1.out HB1.out.size (btrans (((Below.refl w1.heap.size w1).alloc (Nat.le_refl _) _).trans (HBR.out.mono (by omega))) (by omega) hb5)⟩
end Go.Proofs.Ytkpfkknldeafkaa

namespace Go.Proofs.Ytkpfkknldeafkaa
open Go.RowKit

theorem take4_list {A : List Nat} (h : A.length = 4) : ∃ a b c d, A = [a, b, c, d] := by
  match A, h with
  | [a, b, c, d], _ => exact ⟨a, b, c, d, rfl⟩
theorem takeV_eq {s : List UInt8} {n : Int} {u : Nat} {a e : Int} (h : takeS s n = (u, a, e)) : Ending.returned (takeV (takeS s n)) = .returned (.tuple #[.int .u64 (u : Int), .int .i64 a, .int .i64 e]) := by rw [h]; rfl

set_option maxRecDepth 100000 in
set_option maxHeartbeats 8000000 in
theorem SDecode_any (s : List UInt8) (w : World) (hl : s.length ≤ 9223372036854775807) :
    Calls Try.prog 21 #[.string (bs s)] w fun e w' => e = .returned (.tuple #[.agg (spV (decS s).1), .int .i64 (decS s).2]) ∧ Below w.heap.size w w' := by
  have hb0 := (Below.refl w.heap.size w).alloc (Nat.le_refl _) (.cells (spV sp0) 23)
  have hR := Bx.new w (spV sp0) 23
  have HR := Lib.hid hR; have HB0 := Lib.hid hb0; clear hR hb0
  obtain ⟨⟨⟨g, p, q⟩, data, er⟩, ho⟩ : ∃ r, openS s = r := ⟨_, rfl⟩
  have hdl : data.length ≤ 40 := by have := openS_len s; rw [ho] at this; exact this
  have HO := Lib.hid ho; clear ho
  go_enter Try.func21, Try.ntmps21
  go_wp2_with fail
  refine (Open_any s _ hl).mono ?_
  rw [HO.out]
  rintro e w1 ⟨rfl, hb1⟩
  have hS1 := Bx.new w1 #[.int .i64 g, .int .i64 p, .int .i64 q] 87
  have hal := (Below.refl w1.heap.size w1).alloc (Nat.le_refl _) (.cells #[.int .i64 g, .int .i64 p, .int .i64 q] 87)
  have HR1 := Lib.hid (HR.out.call hb1); have HS1 := Lib.hid hS1; have HB1 := Lib.hid (btrans HB0.out HB0.out.size hb1); have HB2 := Lib.hid (btrans (btrans HB0.out HB0.out.size hb1) (btrans HB0.out HB0.out.size hb1).size hal)
  have z1 : w.heap.size < w1.heap.size := by have := hb1.size; simp at this; omega
  have HRW := Lib.hid ((HR.out.call hb1).alloc (.cells #[.int .i64 g, .int .i64 p, .int .i64 q] 87))
  clear hS1 hal hb1 HR HB0 HR1 HB1
  go_upto_region 2 with (fail)
  generalize hW2 : w1.alloc (.cells #[.int .i64 g, .int .i64 p, .int .i64 q] 87) = w2 at HS1 HB2 HRW ⊢
  clear hW2
  have z2 : w1.heap.size < w2.heap.size := HS1.out.lt
  by_cases her : er = 0
  · subst her
    have s0 : w2.cell? ⟨w1.heap.size, 0, none⟩ = some (.int .i64 g) := HS1.out.cell 0
    have s1 : w2.cell? ⟨w1.heap.size, 1, none⟩ = some (.int .i64 p) := HS1.out.cell 1
    have s2 : w2.cell? ⟨w1.heap.size, 2, none⟩ = some (.int .i64 q) := HS1.out.cell 2
    have zw : w.heap.size < w2.heap.size := by omega
    by_cases hp : p = 0
    · by_cases hq : q = 1
      · skip
        have tp : (p != 0) = false := by rw [hp]; rfl
        have tq : (q != 1) = false := by rw [hq]; rfl
        have HP := Lib.hid hp; have HQ := Lib.hid hq; clear hp hq
        have HD := Lib.hid (show decS s = decD g data by unfold decS; rw [HO.out]; simp only; rw [if_neg (by simp), if_pos ⟨HP.out, HQ.out⟩])
        go_wp2
        clear s0 s1 s2 tp tq
        have hA0 := Bx.new w2 (u64A [0, 0, 0, 0]) 90
        have hal2 := (Below.refl w2.heap.size w2).alloc (Nat.le_refl _) (.cells (u64A [0, 0, 0, 0]) 90)
        have HA := Lib.hid hA0; have HR2 := Lib.hid (HRW.out.alloc (.cells (u64A [0, 0, 0, 0]) 90)); have HS2 := Lib.hid (HS1.out.alloc (.cells (u64A [0, 0, 0, 0]) 90)); have HB3 := Lib.hid (btrans HB2.out HB2.out.size hal2); clear hA0 hal2
        go_loopw [8, 9, 34] (fun at_ bg i wr => ∃ (k : Nat) (ns A : List Nat) (a : Int), k ≤ 4 ∧ i = .int .i64 k ∧ at_ = .int .i64 a ∧ bg = .bool (bigB ns) ∧ tkN data k = (ns, a, 0) ∧ 0 ≤ a ∧ a ≤ 40 ∧ A.length = 4 ∧ A.take k = ns ∧ (∀ n ∈ ns, n < 18446744073709551616) ∧ Bx w.heap.size (spV sp0) 23 wr ∧ Bx w1.heap.size #[.int .i64 g, .int .i64 p, .int .i64 q] 87 wr ∧ Bx (w2.heap.size) (u64A A) 90 wr ∧ Below w.heap.size w wr) (fun _ _ i _ => 4 - (intOf i).toNat)
        case atStart => exact ⟨0, [], [0, 0, 0, 0], 0, by omega, rfl, rfl, rfl, rfl, by omega, by omega, rfl, rfl, by simp, HR2.out, HS2.out, HA.out, HB3.out⟩
        case round =>
          obtain ⟨k, ns, A, a, hk, rfl, rfl, rfl, ht, ha0, ha40, hAl, hAt, hnb, hRr, hSr, hAr, hbr⟩ := hrel
          have HT := Lib.hid ht; have HAT := Lib.hid hAt; have HAL := Lib.hid hAl; have HNB := Lib.hid hnb; have HRR := Lib.hid hRr; have HSR := Lib.hid hSr; have HAR := Lib.hid hAr; have HBR := Lib.hid hbr; clear ht hAt hAl hnb hRr hSr hAr hbr
          by_cases hlt : k < 4
          · have hlt' : (k : Int) < 4 := by omega
            obtain ⟨⟨u, a2, e2⟩, htk⟩ : ∃ r, takeS data a = r := ⟨_, rfl⟩
            have hbd := takeS_bounds data a
            rw [htk] at hbd
            simp only at hbd
            obtain ⟨b1, b2, b3, b4, b5, b6⟩ := hbd
            have HTK := Lib.hid htk; clear htk
            go_wp2_with fail
            refine (TakeUint_any data a wr (by omega)).mono ?_
            rw [takeV_eq HTK.out]
            rintro e w3 ⟨rfl, rfl⟩
            by_cases he2 : e2 = 0
            · subst he2
              have htk1 := tkN_ok HT.out HTK.out
              have HTK1 := Lib.hid htk1; clear htk1
              have y : wr.cell? ⟨w2.heap.size, k, none⟩ = some (.int .u64 (A[k]'(by rw [HAL.out]; exact hlt) : Int)) := by rw [HAR.out.cell k]; exact u64A_get A k (by rw [HAL.out]; exact hlt)
              have fy := HAR.out.free k
              have hu0 : (0 : Int) ≤ (u : Int) := by omega
              have HBG := Lib.hid (bigB_snoc ns u)
              have HS5 := Lib.hid (HAR.out.set k (.int .u64 (u : Int)))
              cases hbig : bigB ns with
              | true =>
                have HBI := Lib.hid hbig; clear hbig
                go_wp2
                go_roundw
                case rel => exact ⟨k + 1, ns ++ [u], A.set k u, a2, by omega, by go_num, rfl, by rw [HBG.out, HBI.out]; first | rfl | simp, HTK1.out, b2, by omega, by rw [List.length_set]; exact HAL.out, take_set A k u ns (by rw [HAL.out]; exact hlt) HAT.out, (fun n hn => by rcases List.mem_append.1 hn with h | h; exact HNB.out n h; rw [List.mem_singleton.1 h]; exact b1), HRR.out.other (by omega) _, HSR.out.other (by omega) _, by rw [← u64A_set]; exact HS5.out, HBR.out.setCell (by simp; omega) _⟩
                case measure => simp [intOf]; omega
              | false =>
                have HBI := Lib.hid hbig; clear hbig
                go_wp2
                go_roundw
                case rel => exact ⟨k + 1, ns ++ [u], A.set k u, a2, by omega, by go_num, rfl, by rw [HBG.out, HBI.out]; first | rfl | simp, HTK1.out, b2, by omega, by rw [List.length_set]; exact HAL.out, take_set A k u ns (by rw [HAL.out]; exact hlt) HAT.out, (fun n hn => by rcases List.mem_append.1 hn with h | h; exact HNB.out n h; rw [List.mem_singleton.1 h]; exact b1), HRR.out.other (by omega) _, HSR.out.other (by omega) _, by rw [← u64A_set]; exact HS5.out, HBR.out.setCell (by simp; omega) _⟩
                case measure => simp [intOf]; omega
            · have t2 : (e2 != 0) = true := by rw [bne_iff_ne]; exact he2
              have HE2 := Lib.hid he2; clear he2
              have r0 : wr.cell? ⟨w.heap.size, 0, none⟩ = some (.int .i64 0) := HRR.out.cell 0
              have r1 : wr.cell? ⟨w.heap.size, 1, none⟩ = some (.int .i64 0) := HRR.out.cell 1
              have r2 : wr.cell? ⟨w.heap.size, 2, none⟩ = some (.int .i64 0) := HRR.out.cell 2
              have r3 : wr.cell? ⟨w.heap.size, 3, none⟩ = some (.int .i64 0) := HRR.out.cell 3
              have r4 : wr.cell? ⟨w.heap.size, 4, none⟩ = some (.int .i64 0) := HRR.out.cell 4
              have f0 := HRR.out.free 0
              have f1 := HRR.out.free 1
              have f2 := HRR.out.free 2
              have f3 := HRR.out.free 3
              have f4 := HRR.out.free 4
              have HK := Lib.hid (HRR.out.sets (.int .i64 0) (.int .i64 0) (.int .i64 0) (.int .i64 0) (.int .i64 0))
              have HDEC := Lib.hid (show decS s = (sp0, e2) by rw [HD.out]; have h := tkN_stay (tkN_bad HT.out (by rw [HTK.out]) HE2.out) HE2.out (3 - k); rw [show k + 1 + (3 - k) = 4 by omega] at h; exact decD_bad h HE2.out)
              go_wp2
              have k0 := HK.out.cell 0
              have k1 := HK.out.cell 1
              have k2 := HK.out.cell 2
              have k3 := HK.out.cell 3
              have k4 := HK.out.cell 4
              simp only [List.getElem?_toArray, List.getElem?_cons_zero, List.getElem?_cons_succ] at k0 k1 k2 k3 k4
              rw [HDEC.out]
              refine bodyPost_ret (v := .tuple #[.agg (spV sp0), .int .i64 e2]) (by simp [results, Try.results21, go_sem, spV, sp0, k0, k1, k2, k3, k4]) rfl ⟨rfl, ?_⟩
              exact below_sets HBR.out w.heap.size (Nat.le_refl _) _ _ _ _ _
          · obtain rfl : k = 4 := by omega
            obtain ⟨n0, n1, n2, n3, rfl⟩ := take4_list HAL.out
            have hns : ns = [n0, n1, n2, n3] := by rw [← HAT.out]; rfl
            subst hns
            have hb := HNB.out
            have b0 := hb n0 (by simp); have b1 := hb n1 (by simp); have b2 := hb n2 (by simp); have b3 := hb n3 (by simp)
            clear hb
            have HSP := Lib.hid (show mkSp g [n0, n1, n2, n3] = ⟨g, (n0 : Int), (n1 : Int), (n2 : Int), (n3 : Int)⟩ from rfl)
            by_cases hat : a = (data.length : Int)
            · have HAT2 := Lib.hid hat
              have tat : (a != (data.length : Int)) = false := by rw [hat]; simp
              clear hat
              cases hbig : bigB [n0, n1, n2, n3] with
              | true =>
                have HBI := Lib.hid hbig; clear hbig
                have r0 : wr.cell? ⟨w.heap.size, 0, none⟩ = some (.int .i64 0) := HRR.out.cell 0
                have r1 : wr.cell? ⟨w.heap.size, 1, none⟩ = some (.int .i64 0) := HRR.out.cell 1
                have r2 : wr.cell? ⟨w.heap.size, 2, none⟩ = some (.int .i64 0) := HRR.out.cell 2
                have r3 : wr.cell? ⟨w.heap.size, 3, none⟩ = some (.int .i64 0) := HRR.out.cell 3
                have r4 : wr.cell? ⟨w.heap.size, 4, none⟩ = some (.int .i64 0) := HRR.out.cell 4
                have f0 := HRR.out.free 0
                have f1 := HRR.out.free 1
                have f2 := HRR.out.free 2
                have f3 := HRR.out.free 3
                have f4 := HRR.out.free 4
                have HK := Lib.hid (HRR.out.sets (.int .i64 0) (.int .i64 0) (.int .i64 0) (.int .i64 0) (.int .i64 0))
                have HDEC := Lib.hid (show decS s = (sp0, 5) by rw [HD.out]; refine decD_no HT.out ?_; rw [HBI.out]; simp)
                go_wp2
                have k0 := HK.out.cell 0
                have k1 := HK.out.cell 1
                have k2 := HK.out.cell 2
                have k3 := HK.out.cell 3
                have k4 := HK.out.cell 4
                simp only [List.getElem?_toArray, List.getElem?_cons_zero, List.getElem?_cons_succ] at k0 k1 k2 k3 k4
                rw [HDEC.out]
                refine bodyPost_ret (v := .tuple #[.agg (spV sp0), .int .i64 5]) (by simp [results, Try.results21, go_sem, spV, sp0, k0, k1, k2, k3, k4]) rfl ⟨rfl, ?_⟩
                exact below_sets HBR.out w.heap.size (Nat.le_refl _) _ _ _ _ _
              | false =>
                have HFIT := Lib.hid hbig; clear hbig
                have hf := HFIT.out
                simp only [bigB, List.any_cons, List.any_nil, Bool.or_false, Bool.or_eq_false_iff, decide_eq_false_iff_not] at hf
                obtain ⟨f0, f1, f2, f3⟩ := hf
                have c0 : (n0 : Int) ≤ 1099511627776 := by omega
                have c1 : (n1 : Int) ≤ 1099511627776 := by omega
                have c2 : (n2 : Int) ≤ 1099511627776 := by omega
                have c3 : (n3 : Int) ≤ 1099511627776 := by omega
                clear f0 f1 f2 f3
                have s0 : wr.cell? ⟨w1.heap.size, 0, none⟩ = some (.int .i64 g) := HSR.out.cell 0
                have s1 : wr.cell? ⟨w1.heap.size, 1, none⟩ = some (.int .i64 p) := HSR.out.cell 1
                have s2 : wr.cell? ⟨w1.heap.size, 2, none⟩ = some (.int .i64 q) := HSR.out.cell 2
                have y0 : wr.cell? ⟨w2.heap.size, 0, none⟩ = some (.int .u64 (n0 : Int)) := HAR.out.cell 0
                have y1 : wr.cell? ⟨w2.heap.size, 1, none⟩ = some (.int .u64 (n1 : Int)) := HAR.out.cell 1
                have y2 : wr.cell? ⟨w2.heap.size, 2, none⟩ = some (.int .u64 (n2 : Int)) := HAR.out.cell 2
                have y3 : wr.cell? ⟨w2.heap.size, 3, none⟩ = some (.int .u64 (n3 : Int)) := HAR.out.cell 3
                have hx := Bx.new wr (spV ⟨g, (n0 : Int), (n1 : Int), (n2 : Int), (n3 : Int)⟩) 23
                have hal := (Below.refl wr.heap.size wr).alloc (Nat.le_refl _) (.cells (spV ⟨g, (n0 : Int), (n1 : Int), (n2 : Int), (n3 : Int)⟩) 23)
                have x0 : (wr.alloc (.cells (spV ⟨g, (n0 : Int), (n1 : Int), (n2 : Int), (n3 : Int)⟩) 23)).cell? ⟨wr.heap.size, 0, none⟩ = some (.int .i64 g) := hx.cell 0
                have x1 : (wr.alloc (.cells (spV ⟨g, (n0 : Int), (n1 : Int), (n2 : Int), (n3 : Int)⟩) 23)).cell? ⟨wr.heap.size, 1, none⟩ = some (.int .i64 (n0 : Int)) := hx.cell 1
                have x2 : (wr.alloc (.cells (spV ⟨g, (n0 : Int), (n1 : Int), (n2 : Int), (n3 : Int)⟩) 23)).cell? ⟨wr.heap.size, 2, none⟩ = some (.int .i64 (n1 : Int)) := hx.cell 2
                have x3 : (wr.alloc (.cells (spV ⟨g, (n0 : Int), (n1 : Int), (n2 : Int), (n3 : Int)⟩) 23)).cell? ⟨wr.heap.size, 3, none⟩ = some (.int .i64 (n2 : Int)) := hx.cell 3
                have x4 : (wr.alloc (.cells (spV ⟨g, (n0 : Int), (n1 : Int), (n2 : Int), (n3 : Int)⟩) 23)).cell? ⟨wr.heap.size, 4, none⟩ = some (.int .i64 (n3 : Int)) := hx.cell 4
                have HX := Lib.hid hx; have HBX := Lib.hid (btrans HBR.out HBR.out.size hal); have HRX := Lib.hid (HRR.out.alloc (.cells (spV ⟨g, (n0 : Int), (n1 : Int), (n2 : Int), (n3 : Int)⟩) 23)); clear hx hal
                have zr : w.heap.size < wr.heap.size := HRR.out.lt
                go_wp2_with fail
                refine (SValid_any ⟨g, (n0 : Int), (n1 : Int), (n2 : Int), (n3 : Int)⟩ _).mono ?_
                cases hv : spB ⟨g, (n0 : Int), (n1 : Int), (n2 : Int), (n3 : Int)⟩ with
                | false =>
                  rintro e w5 ⟨rfl, hb5⟩
                  have HV := Lib.hid hv; clear hv s0 s1 s2 y0 y1 y2 y3 x0 x1 x2 x3 x4
                  have HR5 := Lib.hid (HRX.out.call hb5); have HB5 := Lib.hid (btrans HBX.out HBX.out.size hb5); clear hb5
                  have r0 : w5.cell? ⟨w.heap.size, 0, none⟩ = some (.int .i64 0) := HR5.out.cell 0
                  have r1 : w5.cell? ⟨w.heap.size, 1, none⟩ = some (.int .i64 0) := HR5.out.cell 1
                  have r2 : w5.cell? ⟨w.heap.size, 2, none⟩ = some (.int .i64 0) := HR5.out.cell 2
                  have r3 : w5.cell? ⟨w.heap.size, 3, none⟩ = some (.int .i64 0) := HR5.out.cell 3
                  have r4 : w5.cell? ⟨w.heap.size, 4, none⟩ = some (.int .i64 0) := HR5.out.cell 4
                  have f0 := HR5.out.free 0
                  have f1 := HR5.out.free 1
                  have f2 := HR5.out.free 2
                  have f3 := HR5.out.free 3
                  have f4 := HR5.out.free 4
                  have HK := Lib.hid (HR5.out.sets (.int .i64 0) (.int .i64 0) (.int .i64 0) (.int .i64 0) (.int .i64 0))
                  have HDEC := Lib.hid (show decS s = (sp0, 5) by rw [HD.out]; refine decD_no HT.out ?_; rw [HSP.out, HV.out]; simp)
                  go_wp2
                  have k0 := HK.out.cell 0
                  have k1 := HK.out.cell 1
                  have k2 := HK.out.cell 2
                  have k3 := HK.out.cell 3
                  have k4 := HK.out.cell 4
                  simp only [List.getElem?_toArray, List.getElem?_cons_zero, List.getElem?_cons_succ] at k0 k1 k2 k3 k4
                  rw [HDEC.out]
                  refine bodyPost_ret (v := .tuple #[.agg (spV sp0), .int .i64 5]) (by simp [results, Try.results21, go_sem, spV, sp0, k0, k1, k2, k3, k4]) rfl ⟨rfl, ?_⟩
                  exact below_sets HB5.out w.heap.size (Nat.le_refl _) _ _ _ _ _
                | true =>
                  rintro e w5 ⟨rfl, hb5⟩
                  have HV := Lib.hid hv; clear hv s0 s1 s2 y0 y1 y2 y3 x0 x1 x2 x3 x4
                  have HR5 := Lib.hid (HRX.out.call hb5); have HX5 := Lib.hid (HX.out.call hb5); have HB5 := Lib.hid (btrans HBX.out HBX.out.size hb5); clear hb5
                  have x0 : w5.cell? ⟨wr.heap.size, 0, none⟩ = some (.int .i64 g) := HX5.out.cell 0
                  have x1 : w5.cell? ⟨wr.heap.size, 1, none⟩ = some (.int .i64 (n0 : Int)) := HX5.out.cell 1
                  have x2 : w5.cell? ⟨wr.heap.size, 2, none⟩ = some (.int .i64 (n1 : Int)) := HX5.out.cell 2
                  have x3 : w5.cell? ⟨wr.heap.size, 3, none⟩ = some (.int .i64 (n2 : Int)) := HX5.out.cell 3
                  have x4 : w5.cell? ⟨wr.heap.size, 4, none⟩ = some (.int .i64 (n3 : Int)) := HX5.out.cell 4
                  have r0 : w5.cell? ⟨w.heap.size, 0, none⟩ = some (.int .i64 0) := HR5.out.cell 0
                  have r1 : w5.cell? ⟨w.heap.size, 1, none⟩ = some (.int .i64 0) := HR5.out.cell 1
                  have r2 : w5.cell? ⟨w.heap.size, 2, none⟩ = some (.int .i64 0) := HR5.out.cell 2
                  have r3 : w5.cell? ⟨w.heap.size, 3, none⟩ = some (.int .i64 0) := HR5.out.cell 3
                  have r4 : w5.cell? ⟨w.heap.size, 4, none⟩ = some (.int .i64 0) := HR5.out.cell 4
                  have f0 := HR5.out.free 0
                  have f1 := HR5.out.free 1
                  have f2 := HR5.out.free 2
                  have f3 := HR5.out.free 3
                  have f4 := HR5.out.free 4
                  have HK := Lib.hid (HR5.out.sets (.int .i64 g) (.int .i64 (n0 : Int)) (.int .i64 (n1 : Int)) (.int .i64 (n2 : Int)) (.int .i64 (n3 : Int)))
                  have HDEC := Lib.hid (show decS s = (⟨g, (n0 : Int), (n1 : Int), (n2 : Int), (n3 : Int)⟩, 0) by rw [HD.out, ← HSP.out]; exact decD_ok HT.out HAT2.out HFIT.out (by rw [HSP.out]; exact HV.out))
                  go_wp2
                  have k0 := HK.out.cell 0
                  have k1 := HK.out.cell 1
                  have k2 := HK.out.cell 2
                  have k3 := HK.out.cell 3
                  have k4 := HK.out.cell 4
                  simp only [List.getElem?_toArray, List.getElem?_cons_zero, List.getElem?_cons_succ] at k0 k1 k2 k3 k4
                  rw [HDEC.out]
                  refine bodyPost_ret (v := .tuple #[.agg (spV ⟨g, (n0 : Int), (n1 : Int), (n2 : Int), (n3 : Int)⟩), .int .i64 0]) (by simp [results, Try.results21, go_sem, spV, k0, k1, k2, k3, k4]) rfl ⟨rfl, ?_⟩
                  exact below_sets HB5.out w.heap.size (Nat.le_refl _) _ _ _ _ _
            · have tat : (a != (data.length : Int)) = true := by rw [bne_iff_ne]; exact hat
              have HAT2 := Lib.hid hat; clear hat
              have r0 : wr.cell? ⟨w.heap.size, 0, none⟩ = some (.int .i64 0) := HRR.out.cell 0
              have r1 : wr.cell? ⟨w.heap.size, 1, none⟩ = some (.int .i64 0) := HRR.out.cell 1
              have r2 : wr.cell? ⟨w.heap.size, 2, none⟩ = some (.int .i64 0) := HRR.out.cell 2
              have r3 : wr.cell? ⟨w.heap.size, 3, none⟩ = some (.int .i64 0) := HRR.out.cell 3
              have r4 : wr.cell? ⟨w.heap.size, 4, none⟩ = some (.int .i64 0) := HRR.out.cell 4
              have f0 := HRR.out.free 0
              have f1 := HRR.out.free 1
              have f2 := HRR.out.free 2
              have f3 := HRR.out.free 3
              have f4 := HRR.out.free 4
              have HK := Lib.hid (HRR.out.sets (.int .i64 0) (.int .i64 0) (.int .i64 0) (.int .i64 0) (.int .i64 0))
              have HDEC := Lib.hid (show decS s = (sp0, 5) by rw [HD.out]; exact decD_no HT.out (fun h => HAT2.out h.1))
              go_wp2
              have k0 := HK.out.cell 0
              have k1 := HK.out.cell 1
              have k2 := HK.out.cell 2
              have k3 := HK.out.cell 3
              have k4 := HK.out.cell 4
              simp only [List.getElem?_toArray, List.getElem?_cons_zero, List.getElem?_cons_succ] at k0 k1 k2 k3 k4
              rw [HDEC.out]
              refine bodyPost_ret (v := .tuple #[.agg (spV sp0), .int .i64 5]) (by simp [results, Try.results21, go_sem, spV, sp0, k0, k1, k2, k3, k4]) rfl ⟨rfl, ?_⟩
              exact below_sets HBR.out w.heap.size (Nat.le_refl _) _ _ _ _ _
      · have tp : (p != 0) = false := by rw [hp]; rfl
        have tq : (q != 1) = true := by rw [bne_iff_ne]; exact hq
        have HQ := Lib.hid hq; clear hq hp
        have r0 : w2.cell? ⟨w.heap.size, 0, none⟩ = some (.int .i64 0) := HRW.out.cell 0
        have r1 : w2.cell? ⟨w.heap.size, 1, none⟩ = some (.int .i64 0) := HRW.out.cell 1
        have r2 : w2.cell? ⟨w.heap.size, 2, none⟩ = some (.int .i64 0) := HRW.out.cell 2
        have r3 : w2.cell? ⟨w.heap.size, 3, none⟩ = some (.int .i64 0) := HRW.out.cell 3
        have r4 : w2.cell? ⟨w.heap.size, 4, none⟩ = some (.int .i64 0) := HRW.out.cell 4
        have f0 := HRW.out.free 0
        have f1 := HRW.out.free 1
        have f2 := HRW.out.free 2
        have f3 := HRW.out.free 3
        have f4 := HRW.out.free 4
        have HK := Lib.hid (HRW.out.sets (.int .i64 0) (.int .i64 0) (.int .i64 0) (.int .i64 0) (.int .i64 0))
        have HDEC := Lib.hid (show decS s = (sp0, 5) by unfold decS; rw [HO.out]; simp only; rw [if_neg (by simp), if_neg (fun h => HQ.out h.2)])
        go_wp2
        have k0 := HK.out.cell 0
        have k1 := HK.out.cell 1
        have k2 := HK.out.cell 2
        have k3 := HK.out.cell 3
        have k4 := HK.out.cell 4
        simp only [List.getElem?_toArray, List.getElem?_cons_zero, List.getElem?_cons_succ] at k0 k1 k2 k3 k4
        rw [HDEC.out]
        refine bodyPost_ret (v := .tuple #[.agg (spV sp0), .int .i64 5]) (by simp [results, Try.results21, go_sem, spV, sp0, k0, k1, k2, k3, k4]) rfl ⟨rfl, ?_⟩
        exact below_sets HB2.out w.heap.size (Nat.le_refl _) _ _ _ _ _
    · have tp : (p != 0) = true := by rw [bne_iff_ne]; exact hp
      have HP := Lib.hid hp; clear hp
      have r0 : w2.cell? ⟨w.heap.size, 0, none⟩ = some (.int .i64 0) := HRW.out.cell 0
      have r1 : w2.cell? ⟨w.heap.size, 1, none⟩ = some (.int .i64 0) := HRW.out.cell 1
      have r2 : w2.cell? ⟨w.heap.size, 2, none⟩ = some (.int .i64 0) := HRW.out.cell 2
      have r3 : w2.cell? ⟨w.heap.size, 3, none⟩ = some (.int .i64 0) := HRW.out.cell 3
      have r4 : w2.cell? ⟨w.heap.size, 4, none⟩ = some (.int .i64 0) := HRW.out.cell 4
      have f0 := HRW.out.free 0
      have f1 := HRW.out.free 1
      have f2 := HRW.out.free 2
      have f3 := HRW.out.free 3
      have f4 := HRW.out.free 4
      have HK := Lib.hid (HRW.out.sets (.int .i64 0) (.int .i64 0) (.int .i64 0) (.int .i64 0) (.int .i64 0))
      have HDEC := Lib.hid (show decS s = (sp0, 5) by unfold decS; rw [HO.out]; simp only; rw [if_neg (by simp), if_neg (fun h => HP.out h.1)])
      go_wp2
      have k0 := HK.out.cell 0
      have k1 := HK.out.cell 1
      have k2 := HK.out.cell 2
      have k3 := HK.out.cell 3
      have k4 := HK.out.cell 4
      simp only [List.getElem?_toArray, List.getElem?_cons_zero, List.getElem?_cons_succ] at k0 k1 k2 k3 k4
      rw [HDEC.out]
      refine bodyPost_ret (v := .tuple #[.agg (spV sp0), .int .i64 5]) (by simp [results, Try.results21, go_sem, spV, sp0, k0, k1, k2, k3, k4]) rfl ⟨rfl, ?_⟩
      exact below_sets HB2.out w.heap.size (Nat.le_refl _) _ _ _ _ _
  · have te : (er != 0) = true := by rw [bne_iff_ne]; exact her
    have HER := Lib.hid her; clear her
    have r0 : w2.cell? ⟨w.heap.size, 0, none⟩ = some (.int .i64 0) := HRW.out.cell 0
    have r1 : w2.cell? ⟨w.heap.size, 1, none⟩ = some (.int .i64 0) := HRW.out.cell 1
    have r2 : w2.cell? ⟨w.heap.size, 2, none⟩ = some (.int .i64 0) := HRW.out.cell 2
    have r3 : w2.cell? ⟨w.heap.size, 3, none⟩ = some (.int .i64 0) := HRW.out.cell 3
    have r4 : w2.cell? ⟨w.heap.size, 4, none⟩ = some (.int .i64 0) := HRW.out.cell 4
    have f0 := HRW.out.free 0
    have f1 := HRW.out.free 1
    have f2 := HRW.out.free 2
    have f3 := HRW.out.free 3
    have f4 := HRW.out.free 4
    have HK := Lib.hid (HRW.out.sets (.int .i64 0) (.int .i64 0) (.int .i64 0) (.int .i64 0) (.int .i64 0))
    have HDEC := Lib.hid (show decS s = (sp0, er) by unfold decS; rw [HO.out]; simp only; rw [if_pos HER.out])
    go_wp2
    have k0 := HK.out.cell 0
    have k1 := HK.out.cell 1
    have k2 := HK.out.cell 2
    have k3 := HK.out.cell 3
    have k4 := HK.out.cell 4
    simp only [List.getElem?_toArray, List.getElem?_cons_zero, List.getElem?_cons_succ] at k0 k1 k2 k3 k4
    rw [HDEC.out]
    refine bodyPost_ret (v := .tuple #[.agg (spV sp0), .int .i64 er]) (by simp [results, Try.results21, go_sem, spV, sp0, k0, k1, k2, k3, k4]) rfl ⟨rfl, ?_⟩
    exact below_sets HB2.out w.heap.size (Nat.le_refl _) _ _ _ _ _
end Go.Proofs.Ytkpfkknldeafkaa

namespace Go.Proofs.Ytkpfkknldeafkaa
open Go.RowKit

end Go.Proofs.Ytkpfkknldeafkaa

namespace Go.Proofs.Ytkpfkknldeafkaa
open Go.RowKit

end Go.Proofs.Ytkpfkknldeafkaa

namespace Go.Proofs.Ytkpfkknldeafkaa
open Go.RowKit

theorem CellsAt.of_strs {W : World} {v : Value} {L : List (List UInt8)} (h : StrS W v L) : CellsAt W v L.length (L.map strV) := by
  obtain ⟨ad, cap, rfl, hc, hx⟩ := h
  refine ⟨ad, cap, rfl, fun hne => ?_⟩
  have hL : L ≠ [] := by intro e; rw [e] at hne; exact hne rfl
  obtain ⟨b, off, rfl, hcell⟩ := hx hL
  refine ⟨b, off, rfl, fun j y hj => ?_⟩
  rw [List.getElem?_map] at hj
  rcases Nat.lt_or_ge j L.length with h1 | h1
  · rw [List.getElem?_eq_getElem h1] at hj
    simp only [Option.map_some, Option.some.injEq] at hj
    rw [← hj]; exact hcell j h1
  · rw [List.getElem?_eq_none h1] at hj; cases hj
set_option maxRecDepth 100000 in
set_option maxHeartbeats 4000000 in
theorem unchanged_any (sa pa : Option Addr) (sc pc : Nat) (d : Dk) (w : World) (hD : Lists w sa sc pa pc d) :
    Calls Try.prog 60 #[.agg #[.slice sa d.S.length sc, .slice pa d.P.length pc, .int .i64 d.fuse, .int .i64 d.ops, .bool d.dead]] w (ClonePost d w) := by
  have hX := (Bx.new w #[.slice sa d.S.length sc, .slice pa d.P.length pc, .int .i64 d.fuse, .int .i64 d.ops, .bool d.dead] 38).alloc (.cells #[.slice none 0 0, .slice none 0 0, .int .i64 0, .int .i64 0, .bool false] 38)
  have hR := Bx.new1 w (.cells #[.slice sa d.S.length sc, .slice pa d.P.length pc, .int .i64 d.fuse, .int .i64 d.ops, .bool d.dead] 38) #[.slice none 0 0, .slice none 0 0, .int .i64 0, .int .i64 0, .bool false] 38
  have hb0 := ((Below.refl w.heap.size w).alloc (Nat.le_refl _) (.cells #[.slice sa d.S.length sc, .slice pa d.P.length pc, .int .i64 d.fuse, .int .i64 d.ops, .bool d.dead] 38)).alloc (by simp) (.cells #[.slice none 0 0, .slice none 0 0, .int .i64 0, .int .i64 0, .bool false] 38)
  have hsz0 : ((w.alloc (.cells #[.slice sa d.S.length sc, .slice pa d.P.length pc, .int .i64 d.fuse, .int .i64 d.ops, .bool d.dead] 38)).alloc (.cells #[.slice none 0 0, .slice none 0 0, .int .i64 0, .int .i64 0, .bool false] 38)).heap.size = w.heap.size + 2 := by simp
  obtain ⟨i0, hi, hz0, hz1, hz2⟩ := info_parts Try.info9
  obtain ⟨i1, hi', hz0', hz1', hz2'⟩ := info_parts infoWrite
  have l3 := hD.2.2.1
  have l4 := hD.2.2.2
  have HD := Lib.hid hD; clear hD
  go_enter Try.func60, Try.ntmps60
  go_upto_region 1 with (fail)
  generalize hW0 : (w.alloc (.cells #[.slice sa d.S.length sc, .slice pa d.P.length pc, .int .i64 d.fuse, .int .i64 d.ops, .bool d.dead] 38)).alloc (.cells #[.slice none 0 0, .slice none 0 0, .int .i64 0, .int .i64 0, .bool false] 38) = w0 at hX hR hb0 hsz0 ⊢
  clear hW0
  have HX0 := Lib.hid hX; have HR0 := Lib.hid hR; have HB0 := Lib.hid hb0; have HZ0 := Lib.hid hsz0; clear hX hR hb0 hsz0
  have hC := CellsAt.of_strs (HD.out.below HB0.out).1
  have HC := Lib.hid hC; clear hC
  have x0 : w0.cell? ⟨w.heap.size, 0, none⟩ = some (.slice sa d.S.length sc) := HX0.out.cell 0
  go_wp2_with (at_builtin; refine wpList_append_any rfl _ _ 35 rfl w0.heap.size 9 i0 (.string ⟨#[]⟩) 1 16 Try.underlying35 hi hz0 hz1 hz2 rfl (by decide) (.slice none 0 0) (.slice sa d.S.length sc) 0 d.S.length [] (d.S.map strV) rfl (World.ownsRow_nil _ _ _ _) rfl HC.out (by simp) (by intro u hu; obtain ⟨l, _, rfl⟩ := List.mem_map.1 hu; rfl) (by unfold maxLen; omega) (by omega) w0 w0.heap.size (Below.refl _ _) (Nat.le_refl _) (Nat.le_refl _) ?_)
  intro v1 w1 hown1 hb1 _
  clear x0
  obtain ⟨a1, c1, rfl⟩ := own_slice hown1
  have HX1 := Lib.hid (HX0.out.call hb1); have HR1 := Lib.hid (HR0.out.call hb1); have HB1 := Lib.hid (btrans HB0.out HB0.out.size hb1)
  have x0 : w1.cell? ⟨w.heap.size, 0, none⟩ = some (.slice sa d.S.length sc) := HX1.out.cell 0
  have f0 := HX1.out.free 0
  have hne1 : (Value.slice a1 d.S.length c1).ownBlock ≠ some w.heap.size := by intro e; have := (hown1.lt _ e).1; have := HZ0.out; omega
  have HO1 := Lib.hid (own_set2 hown1 w.heap.size 0 hne1 (.slice a1 d.S.length c1)); have HX2 := Lib.hid (HX1.out.set 0 (.slice a1 d.S.length c1)); have HR2 := Lib.hid (HR1.out.other (c := w.heap.size) (i := 0) (by omega) (.slice a1 d.S.length c1)); have HB2 := Lib.hid (below_set HB1.out w.heap.size 0 (Nat.le_refl _) (.slice a1 d.S.length c1))
  have hs1 := hb1.size
  clear hown1 hb1 hne1
  go_upto_region 2 with (fail)
  generalize hW1 : w1.setCell ⟨w.heap.size, 0, none⟩ (.slice a1 d.S.length c1) = w2 at HO1 HX2 HR2 HB2 ⊢
  have HS2 := Lib.hid (show w2.heap.size = w1.heap.size by rw [← hW1]; simp)
  clear hW1 x0 f0
  have hX2 := HX2.out
  simp only [List.setIfInBounds_toArray, List.set_cons_zero] at hX2
  have HXE := Lib.hid hX2; clear hX2
  have hC := CellsAt.of_wr (HD.out.below HB2.out).2.1
  have HC2 := Lib.hid hC; clear hC
  have x1 : w2.cell? ⟨w.heap.size, 1, none⟩ = some (.slice pa d.P.length pc) := HXE.out.cell 1
  go_wp2_with (at_builtin; refine wpList_append_any rfl _ _ 36 rfl w2.heap.size 94 i1 (.agg #[.int .i64 0, .string ⟨#[]⟩]) 2 24 Try.underlying36 hi' hz0' hz1' hz2' rfl (by decide) (.slice none 0 0) (.slice pa d.P.length pc) 0 d.P.length [] (wcs d.P) rfl (World.ownsRow_nil _ _ _ _) rfl HC2.out (wcs_length _) (wcs_one _) (by unfold maxLen; omega) (by omega) w2 w2.heap.size (Below.refl _ _) (Nat.le_refl _) (Nat.le_refl _) ?_)
  intro v3 w3 hown3 hb3 _
  clear x1
  obtain ⟨a2, c2, rfl⟩ := own_slice hown3
  have HX3 := Lib.hid (HXE.out.call hb3); have HR3 := Lib.hid (HR2.out.call hb3); have HB3 := Lib.hid (btrans HB2.out HB2.out.size hb3)
  have x1 : w3.cell? ⟨w.heap.size, 1, none⟩ = some (.slice pa d.P.length pc) := HX3.out.cell 1
  have f1 := HX3.out.free 1
  have hOw : Owned (w.heap.size + 2) d w3 (.slice a1 d.S.length c1) (.slice a2 d.P.length c2) := by
    refine ⟨w2.heap.size, ?_, fun g hg => ?_, own_mono (own_below HO1.out hb3) (by rw [HZ0.out]; exact Nat.le_refl _), hown3, hb3.size⟩
    · have := HZ0.out; have := HS2.out; omega
    · have := (HO1.out.lt g hg).2; omega
  have HO4 := Lib.hid (hOw.set w.heap.size 1 (by omega) (.slice a2 d.P.length c2)); have HX4 := Lib.hid (HX3.out.set 1 (.slice a2 d.P.length c2)); have HR4 := Lib.hid (HR3.out.other (c := w.heap.size) (i := 1) (by omega) (.slice a2 d.P.length c2)); have HB4 := Lib.hid (below_set HB3.out w.heap.size 1 (Nat.le_refl _) (.slice a2 d.P.length c2))
  clear hOw hown3 hb3
  go_upto_region 3 with (fail)
  generalize hW3 : w3.setCell ⟨w.heap.size, 1, none⟩ (.slice a2 d.P.length c2) = w4 at HO4 HX4 HR4 HB4 ⊢
  clear hW3 x1 f1
  have hX4 := HX4.out
  simp only [List.setIfInBounds_toArray, List.set_cons_zero, List.set_cons_succ] at hX4
  have x0 : w4.cell? ⟨w.heap.size, 0, none⟩ = some (.slice a1 d.S.length c1) := hX4.cell 0
  have x1 : w4.cell? ⟨w.heap.size, 1, none⟩ = some (.slice a2 d.P.length c2) := hX4.cell 1
  have x2 : w4.cell? ⟨w.heap.size, 2, none⟩ = some (.int .i64 d.fuse) := hX4.cell 2
  have x3 : w4.cell? ⟨w.heap.size, 3, none⟩ = some (.int .i64 d.ops) := hX4.cell 3
  have x4 : w4.cell? ⟨w.heap.size, 4, none⟩ = some (.bool d.dead) := hX4.cell 4
  clear hX4
  have r0 : w4.cell? ⟨w.heap.size + 1, 0, none⟩ = some (.slice none 0 0) := HR4.out.cell 0
  have r1 : w4.cell? ⟨w.heap.size + 1, 1, none⟩ = some (.slice none 0 0) := HR4.out.cell 1
  have r2 : w4.cell? ⟨w.heap.size + 1, 2, none⟩ = some (.int .i64 0) := HR4.out.cell 2
  have r3 : w4.cell? ⟨w.heap.size + 1, 3, none⟩ = some (.int .i64 0) := HR4.out.cell 3
  have r4 : w4.cell? ⟨w.heap.size + 1, 4, none⟩ = some (.bool false) := HR4.out.cell 4
  have g0 := HR4.out.free 0
  have g1 := HR4.out.free 1
  have g2 := HR4.out.free 2
  have g3 := HR4.out.free 3
  have g4 := HR4.out.free 4
  have KK := Lib.hid (HR4.out.sets (.slice a1 d.S.length c1) (.slice a2 d.P.length c2) (.int .i64 d.fuse) (.int .i64 d.ops) (.bool d.dead))
  go_wp2
  have k0 := KK.out.cell 0
  have k1 := KK.out.cell 1
  have k2 := KK.out.cell 2
  have k3 := KK.out.cell 3
  have k4 := KK.out.cell 4
  simp only [List.getElem?_toArray, List.getElem?_cons_zero, List.getElem?_cons_succ] at k0 k1 k2 k3 k4
  refine bodyPost_ret (v := .agg #[.slice a1 d.S.length c1, .slice a2 d.P.length c2, .int .i64 d.fuse, .int .i64 d.ops, .bool d.dead]) (by simp [results, Try.results60, go_sem, k0, k1, k2, k3, k4]) rfl ⟨a1, c1, a2, c2, rfl, ?_, ?_⟩
  · exact (HO4.out.sets (w.heap.size + 1) (by omega) _ _ _ _ _).mono (by omega)
  · exact below_sets HB4.out (w.heap.size + 1) (by omega) _ _ _ _ _
end Go.Proofs.Ytkpfkknldeafkaa

namespace Go.Proofs.Ytkpfkknldeafkaa
open Go.RowKit

set_option maxRecDepth 100000 in
set_option maxHeartbeats 4000000 in
theorem SBest_any (a b : List UInt8) (w : World) (ha : a.length ≤ 9223372036854775807) (hb : b.length ≤ 9223372036854775807) :
    Calls Try.prog 23 #[.string (bs a), .string (bs b)] w fun e w' => e = .returned (.tuple #[.agg (spV (bestS a b).1), .bool (bestS a b).2]) ∧ Below w.heap.size w w' := by
  have HR := Lib.hid (Bx.new w #[.int .i64 0, .int .i64 0, .int .i64 0, .int .i64 0, .int .i64 0] 23); have HB0 := Lib.hid ((Below.refl w.heap.size w).alloc (Nat.le_refl _) (.cells #[.int .i64 0, .int .i64 0, .int .i64 0, .int .i64 0, .int .i64 0] 23))
  obtain ⟨⟨x, e⟩, hx⟩ : ∃ r, decS a = r := ⟨_, rfl⟩
  obtain ⟨⟨y, f⟩, hy⟩ : ∃ r, decS b = r := ⟨_, rfl⟩
  have HX := Lib.hid hx; have HY := Lib.hid hy; clear hx hy
  have HYE := Lib.hid (show f ≠ 0 → y = sp0 by have := dec_err b; rw [HY.out] at this; exact this)
  go_enter Try.func23, Try.ntmps23
  go_wp2_with fail
  refine (SDecode_any a _ ha).mono ?_
  rw [HX.out]
  simp only [spV]
  rintro e1 w1 ⟨rfl, hb1⟩
  have hal := (Below.refl w1.heap.size w1).alloc (Nat.le_refl _) (.cells #[.int .i64 x.g, .int .i64 x.e, .int .i64 x.a, .int .i64 x.z, .int .i64 x.p] 23)
  have HR1 := Lib.hid ((HR.out.call hb1).alloc (.cells #[.int .i64 x.g, .int .i64 x.e, .int .i64 x.a, .int .i64 x.z, .int .i64 x.p] 23)); have HX1 := Lib.hid (Bx.new w1 #[.int .i64 x.g, .int .i64 x.e, .int .i64 x.a, .int .i64 x.z, .int .i64 x.p] 23); have HB1 := Lib.hid (btrans (btrans HB0.out HB0.out.size hb1) (btrans HB0.out HB0.out.size hb1).size hal); have z1 : w.heap.size < w1.heap.size := by have := hb1.size; simp at this; omega
  clear hb1 hal HR HB0
  go_wp2_with fail
  refine (SDecode_any b _ hb).mono ?_
  rw [HY.out]
  simp only [spV]
  rintro e2 w2 ⟨rfl, hb2⟩
  have hal := (Below.refl w2.heap.size w2).alloc (Nat.le_refl _) (.cells #[.int .i64 y.g, .int .i64 y.e, .int .i64 y.a, .int .i64 y.z, .int .i64 y.p] 23)
  have HR2 := Lib.hid ((HR1.out.call hb2).alloc (.cells #[.int .i64 y.g, .int .i64 y.e, .int .i64 y.a, .int .i64 y.z, .int .i64 y.p] 23)); have HX2 := Lib.hid ((HX1.out.call hb2).alloc (.cells #[.int .i64 y.g, .int .i64 y.e, .int .i64 y.a, .int .i64 y.z, .int .i64 y.p] 23)); have HY2 := Lib.hid (Bx.new w2 #[.int .i64 y.g, .int .i64 y.e, .int .i64 y.a, .int .i64 y.z, .int .i64 y.p] 23); have HB2 := Lib.hid (btrans (btrans HB1.out HB1.out.size hb2) (btrans HB1.out HB1.out.size hb2).size hal); have z2 : w1.heap.size < w2.heap.size := by have := hb2.size; simp at this; omega
  clear hb2 hal HR1 HX1 HB1
  go_upto_region 3 with (fail)
  generalize hW : w2.alloc (.cells #[.int .i64 y.g, .int .i64 y.e, .int .i64 y.a, .int .i64 y.z, .int .i64 y.p] 23) = w3 at HR2 HX2 HY2 HB2 ⊢
  clear hW
  have z3 : w2.heap.size < w3.heap.size := HY2.out.lt
  have x0 : w3.cell? ⟨w1.heap.size, 0, none⟩ = some (.int .i64 x.g) := HX2.out.cell 0
  have x1 : w3.cell? ⟨w1.heap.size, 1, none⟩ = some (.int .i64 x.e) := HX2.out.cell 1
  have x2 : w3.cell? ⟨w1.heap.size, 2, none⟩ = some (.int .i64 x.a) := HX2.out.cell 2
  have x3 : w3.cell? ⟨w1.heap.size, 3, none⟩ = some (.int .i64 x.z) := HX2.out.cell 3
  have x4 : w3.cell? ⟨w1.heap.size, 4, none⟩ = some (.int .i64 x.p) := HX2.out.cell 4
  have y0 : w3.cell? ⟨w2.heap.size, 0, none⟩ = some (.int .i64 y.g) := HY2.out.cell 0
  have y1 : w3.cell? ⟨w2.heap.size, 1, none⟩ = some (.int .i64 y.e) := HY2.out.cell 1
  have y2 : w3.cell? ⟨w2.heap.size, 2, none⟩ = some (.int .i64 y.a) := HY2.out.cell 2
  have y3 : w3.cell? ⟨w2.heap.size, 3, none⟩ = some (.int .i64 y.z) := HY2.out.cell 3
  have y4 : w3.cell? ⟨w2.heap.size, 4, none⟩ = some (.int .i64 y.p) := HY2.out.cell 4
  by_cases he : e = 0
  · by_cases hf : f = 0
    · by_cases hg : y.g ≤ x.g
      · skip
        have te : (e == 0) = true := by rw [he]; rfl
        have tf : (f != 0) = false := by rw [hf]; rfl
        have tf2 : (f == 0) = true := by rw [hf]; rfl
        have HE := Lib.hid he; have HF := Lib.hid hf; clear he hf
        have HW := Lib.hid (show bestS a b = (x, true) by unfold bestS; rw [HX.out, HY.out]; simp only; rw [if_pos ⟨HE.out, Or.inr hg⟩])
        have r0 : w3.cell? ⟨w.heap.size, 0, none⟩ = some (.int .i64 0) := HR2.out.cell 0
        have r1 : w3.cell? ⟨w.heap.size, 1, none⟩ = some (.int .i64 0) := HR2.out.cell 1
        have r2 : w3.cell? ⟨w.heap.size, 2, none⟩ = some (.int .i64 0) := HR2.out.cell 2
        have r3 : w3.cell? ⟨w.heap.size, 3, none⟩ = some (.int .i64 0) := HR2.out.cell 3
        have r4 : w3.cell? ⟨w.heap.size, 4, none⟩ = some (.int .i64 0) := HR2.out.cell 4
        have f0 := HR2.out.free 0
        have f1 := HR2.out.free 1
        have f2 := HR2.out.free 2
        have f3 := HR2.out.free 3
        have f4 := HR2.out.free 4
        have HK := Lib.hid (HR2.out.sets (.int .i64 x.g) (.int .i64 x.e) (.int .i64 x.a) (.int .i64 x.z) (.int .i64 x.p))
        go_wp2
        have k0 := HK.out.cell 0
        have k1 := HK.out.cell 1
        have k2 := HK.out.cell 2
        have k3 := HK.out.cell 3
        have k4 := HK.out.cell 4
        simp only [List.getElem?_toArray, List.getElem?_cons_zero, List.getElem?_cons_succ] at k0 k1 k2 k3 k4
        rw [HW.out]
        refine bodyPost_ret (v := .tuple #[.agg (spV x), .bool true]) (by simp [results, Try.results23, go_sem, spV, k0, k1, k2, k3, k4]) rfl ⟨rfl, ?_⟩
        exact below_sets HB2.out (w.heap.size) (by omega) _ _ _ _ _
      · have te : (e == 0) = true := by rw [he]; rfl
        have tf : (f != 0) = false := by rw [hf]; rfl
        have tf2 : (f == 0) = true := by rw [hf]; rfl
        have HE := Lib.hid he; have HF := Lib.hid hf; clear he hf
        have HW := Lib.hid (show bestS a b = (y, true) by unfold bestS; rw [HX.out, HY.out]; simp only; rw [if_neg (fun h => h.2.elim (fun h2 => h2 HF.out) hg), if_pos HF.out])
        have r0 : w3.cell? ⟨w.heap.size, 0, none⟩ = some (.int .i64 0) := HR2.out.cell 0
        have r1 : w3.cell? ⟨w.heap.size, 1, none⟩ = some (.int .i64 0) := HR2.out.cell 1
        have r2 : w3.cell? ⟨w.heap.size, 2, none⟩ = some (.int .i64 0) := HR2.out.cell 2
        have r3 : w3.cell? ⟨w.heap.size, 3, none⟩ = some (.int .i64 0) := HR2.out.cell 3
        have r4 : w3.cell? ⟨w.heap.size, 4, none⟩ = some (.int .i64 0) := HR2.out.cell 4
        have f0 := HR2.out.free 0
        have f1 := HR2.out.free 1
        have f2 := HR2.out.free 2
        have f3 := HR2.out.free 3
        have f4 := HR2.out.free 4
        have HK := Lib.hid (HR2.out.sets (.int .i64 y.g) (.int .i64 y.e) (.int .i64 y.a) (.int .i64 y.z) (.int .i64 y.p))
        go_wp2
        have k0 := HK.out.cell 0
        have k1 := HK.out.cell 1
        have k2 := HK.out.cell 2
        have k3 := HK.out.cell 3
        have k4 := HK.out.cell 4
        simp only [List.getElem?_toArray, List.getElem?_cons_zero, List.getElem?_cons_succ] at k0 k1 k2 k3 k4
        rw [HW.out]
        refine bodyPost_ret (v := .tuple #[.agg (spV y), .bool true]) (by simp [results, Try.results23, go_sem, spV, k0, k1, k2, k3, k4]) rfl ⟨rfl, ?_⟩
        exact below_sets HB2.out (w.heap.size) (by omega) _ _ _ _ _
    · have te : (e == 0) = true := by rw [he]; rfl
      have tf : (f != 0) = true := by rw [bne_iff_ne]; exact hf
      have tf2 : (f == 0) = false := by rw [beq_eq_false_iff_ne]; exact hf
      have HE := Lib.hid he; have HF := Lib.hid hf; clear he hf
      have HW := Lib.hid (show bestS a b = (x, true) by unfold bestS; rw [HX.out, HY.out]; simp only; rw [if_pos ⟨HE.out, Or.inl HF.out⟩])
      have r0 : w3.cell? ⟨w.heap.size, 0, none⟩ = some (.int .i64 0) := HR2.out.cell 0
      have r1 : w3.cell? ⟨w.heap.size, 1, none⟩ = some (.int .i64 0) := HR2.out.cell 1
      have r2 : w3.cell? ⟨w.heap.size, 2, none⟩ = some (.int .i64 0) := HR2.out.cell 2
      have r3 : w3.cell? ⟨w.heap.size, 3, none⟩ = some (.int .i64 0) := HR2.out.cell 3
      have r4 : w3.cell? ⟨w.heap.size, 4, none⟩ = some (.int .i64 0) := HR2.out.cell 4
      have f0 := HR2.out.free 0
      have f1 := HR2.out.free 1
      have f2 := HR2.out.free 2
      have f3 := HR2.out.free 3
      have f4 := HR2.out.free 4
      have HK := Lib.hid (HR2.out.sets (.int .i64 x.g) (.int .i64 x.e) (.int .i64 x.a) (.int .i64 x.z) (.int .i64 x.p))
      go_wp2
      have k0 := HK.out.cell 0
      have k1 := HK.out.cell 1
      have k2 := HK.out.cell 2
      have k3 := HK.out.cell 3
      have k4 := HK.out.cell 4
      simp only [List.getElem?_toArray, List.getElem?_cons_zero, List.getElem?_cons_succ] at k0 k1 k2 k3 k4
      rw [HW.out]
      refine bodyPost_ret (v := .tuple #[.agg (spV x), .bool true]) (by simp [results, Try.results23, go_sem, spV, k0, k1, k2, k3, k4]) rfl ⟨rfl, ?_⟩
      exact below_sets HB2.out (w.heap.size) (by omega) _ _ _ _ _
  · have te : (e == 0) = false := by rw [beq_eq_false_iff_ne]; exact he
    by_cases hf : f = 0
    · have tf : (f != 0) = false := by rw [hf]; rfl
      have tf2 : (f == 0) = true := by rw [hf]; rfl
      have HE := Lib.hid he; have HF := Lib.hid hf; clear he hf
      have HW := Lib.hid (show bestS a b = (y, true) by unfold bestS; rw [HX.out, HY.out]; simp only; rw [if_neg (fun h => HE.out h.1), if_pos HF.out])
      have r0 : w3.cell? ⟨w.heap.size, 0, none⟩ = some (.int .i64 0) := HR2.out.cell 0
      have r1 : w3.cell? ⟨w.heap.size, 1, none⟩ = some (.int .i64 0) := HR2.out.cell 1
      have r2 : w3.cell? ⟨w.heap.size, 2, none⟩ = some (.int .i64 0) := HR2.out.cell 2
      have r3 : w3.cell? ⟨w.heap.size, 3, none⟩ = some (.int .i64 0) := HR2.out.cell 3
      have r4 : w3.cell? ⟨w.heap.size, 4, none⟩ = some (.int .i64 0) := HR2.out.cell 4
      have f0 := HR2.out.free 0
      have f1 := HR2.out.free 1
      have f2 := HR2.out.free 2
      have f3 := HR2.out.free 3
      have f4 := HR2.out.free 4
      have HK := Lib.hid (HR2.out.sets (.int .i64 y.g) (.int .i64 y.e) (.int .i64 y.a) (.int .i64 y.z) (.int .i64 y.p))
      go_wp2
      have k0 := HK.out.cell 0
      have k1 := HK.out.cell 1
      have k2 := HK.out.cell 2
      have k3 := HK.out.cell 3
      have k4 := HK.out.cell 4
      simp only [List.getElem?_toArray, List.getElem?_cons_zero, List.getElem?_cons_succ] at k0 k1 k2 k3 k4
      rw [HW.out]
      refine bodyPost_ret (v := .tuple #[.agg (spV y), .bool true]) (by simp [results, Try.results23, go_sem, spV, k0, k1, k2, k3, k4]) rfl ⟨rfl, ?_⟩
      exact below_sets HB2.out (w.heap.size) (by omega) _ _ _ _ _
    · obtain rfl : y = sp0 := HYE.out hf
      have tf : (f != 0) = true := by rw [bne_iff_ne]; exact hf
      have tf2 : (f == 0) = false := by rw [beq_eq_false_iff_ne]; exact hf
      have HE := Lib.hid he; have HF := Lib.hid hf; clear he hf
      simp only [sp0] at *
      have HW := Lib.hid (show bestS a b = (sp0, false) by unfold bestS; rw [HX.out, HY.out]; simp only; rw [if_neg (fun h => HE.out h.1), if_neg HF.out])
      have r0 : w3.cell? ⟨w.heap.size, 0, none⟩ = some (.int .i64 0) := HR2.out.cell 0
      have r1 : w3.cell? ⟨w.heap.size, 1, none⟩ = some (.int .i64 0) := HR2.out.cell 1
      have r2 : w3.cell? ⟨w.heap.size, 2, none⟩ = some (.int .i64 0) := HR2.out.cell 2
      have r3 : w3.cell? ⟨w.heap.size, 3, none⟩ = some (.int .i64 0) := HR2.out.cell 3
      have r4 : w3.cell? ⟨w.heap.size, 4, none⟩ = some (.int .i64 0) := HR2.out.cell 4
      have f0 := HR2.out.free 0
      have f1 := HR2.out.free 1
      have f2 := HR2.out.free 2
      have f3 := HR2.out.free 3
      have f4 := HR2.out.free 4
      have HK := Lib.hid (HR2.out.sets (.int .i64 0) (.int .i64 0) (.int .i64 0) (.int .i64 0) (.int .i64 0))
      go_wp2
      have k0 := HK.out.cell 0
      have k1 := HK.out.cell 1
      have k2 := HK.out.cell 2
      have k3 := HK.out.cell 3
      have k4 := HK.out.cell 4
      simp only [List.getElem?_toArray, List.getElem?_cons_zero, List.getElem?_cons_succ] at k0 k1 k2 k3 k4
      rw [HW.out]
      refine bodyPost_ret (v := .tuple #[.agg (spV sp0), .bool false]) (by simp [results, Try.results23, go_sem, spV, sp0, k0, k1, k2, k3, k4]) rfl ⟨rfl, ?_⟩
      exact below_sets HB2.out (w.heap.size) (by omega) _ _ _ _ _
theorem lastW_len {s : List UInt8} {P : List (Int × List UInt8)} {at_ : Int} (hs : s.length = 64) (hP : ∀ x ∈ P, x.2.length = 64) : (lastW s P at_).length = 64 := by
  unfold lastW
  induction P generalizing s with
  | nil => exact hs
  | cons x r ih =>
    rw [List.foldl_cons]
    refine ih ?_ (fun y hy => hP y (by simp [hy]))
    split
    · exact hP x (by simp)
    · exact hs
theorem read_len (d : Dk) (n : Int) : (readS d n).1.length ≤ 9223372036854775807 := by
  unfold readS
  split
  · rename_i h
    obtain ⟨h1, h2⟩ := h
    split
    · simp
    · obtain ⟨_, hs, hp⟩ := (validB_iff d).1 h1
      unfold hasB at h2
      simp only [Bool.and_eq_true, decide_eq_true_eq] at h2
      have hlt : n.toNat < d.S.length := by omega
      have := lastW_len (s := d.S.getD n.toNat []) (P := d.P) (at_ := n) (by rw [List.getD_eq_getElem?_getD, List.getElem?_eq_getElem hlt]; exact hs _ (List.getElem_mem hlt)) (fun x hx => (hp x hx).2.2)
      simp only; omega
  · simp
theorem read_both (d : Dk) : (readS d 0).2 = 0 → (readS d 1).2 = 0 := by
  intro h
  unfold readS at h ⊢
  by_cases h1 : validB d = true ∧ hasB d 0 = true
  · rw [if_pos h1] at h
    have hS := ((numsB_iff d).1 ((validB_iff d).1 h1.1).1).1
    have h2 : hasB d 1 = true := by unfold hasB; simp; omega
    rw [if_pos ⟨h1.1, h2⟩]
    split at h
    · simp at h
    · rename_i hd; rw [if_neg hd]
  · rw [if_neg h1] at h; simp at h

set_option maxRecDepth 100000 in
set_option maxHeartbeats 4000000 in
theorem SLoad_any (sa pa : Option Addr) (sc pc : Nat) (d : Dk) (w : World) (hD : Lists w sa sc pa pc d) :
    Calls Try.prog 26 #[.agg #[.slice sa d.S.length sc, .slice pa d.P.length pc, .int .i64 d.fuse, .int .i64 d.ops, .bool d.dead]] w fun e w' => e = .returned (.tuple #[.agg (spV (loadS d).1), .int .i64 (loadS d).2]) ∧ Below w.heap.size w w' := by
  have HX := Lib.hid ((Bx.new w #[.slice sa d.S.length sc, .slice pa d.P.length pc, .int .i64 d.fuse, .int .i64 d.ops, .bool d.dead] 38).alloc (.cells #[.int .i64 0, .int .i64 0, .int .i64 0, .int .i64 0, .int .i64 0] 23)); have HR := Lib.hid (Bx.new1 w (.cells #[.slice sa d.S.length sc, .slice pa d.P.length pc, .int .i64 d.fuse, .int .i64 d.ops, .bool d.dead] 38) #[.int .i64 0, .int .i64 0, .int .i64 0, .int .i64 0, .int .i64 0] 23); have HB0 := Lib.hid (((Below.refl w.heap.size w).alloc (Nat.le_refl _) (.cells #[.slice sa d.S.length sc, .slice pa d.P.length pc, .int .i64 d.fuse, .int .i64 d.ops, .bool d.dead] 38)).alloc (by simp) (.cells #[.int .i64 0, .int .i64 0, .int .i64 0, .int .i64 0, .int .i64 0] 23))
  have HD := Lib.hid (hD.below (HB0.out.mono (Nat.le_refl _))); have HDw := Lib.hid hD; clear hD
  obtain ⟨⟨a, e⟩, ha⟩ : ∃ r, readS d 0 = r := ⟨_, rfl⟩
  obtain ⟨⟨b, f⟩, hb⟩ : ∃ r, readS d 1 = r := ⟨_, rfl⟩
  obtain ⟨⟨x, ok⟩, hx⟩ : ∃ r, bestS a b = r := ⟨_, rfl⟩
  have la := read_len d 0; have lb := read_len d 1; have hrr := read_both d
  rw [ha] at la hrr; rw [hb] at lb hrr
  simp only at la lb hrr
  have HA := Lib.hid ha; have HB := Lib.hid hb; have HBE := Lib.hid hx; have HRR := Lib.hid hrr; clear ha hb hx hrr
  have x0 : ((w.alloc (.cells #[.slice sa d.S.length sc, .slice pa d.P.length pc, .int .i64 d.fuse, .int .i64 d.ops, .bool d.dead] 38)).alloc (.cells #[.int .i64 0, .int .i64 0, .int .i64 0, .int .i64 0, .int .i64 0] 23)).cell? ⟨w.heap.size, 0, none⟩ = some (.slice sa d.S.length sc) := HX.out.cell 0
  have x1 : ((w.alloc (.cells #[.slice sa d.S.length sc, .slice pa d.P.length pc, .int .i64 d.fuse, .int .i64 d.ops, .bool d.dead] 38)).alloc (.cells #[.int .i64 0, .int .i64 0, .int .i64 0, .int .i64 0, .int .i64 0] 23)).cell? ⟨w.heap.size, 1, none⟩ = some (.slice pa d.P.length pc) := HX.out.cell 1
  have x2 : ((w.alloc (.cells #[.slice sa d.S.length sc, .slice pa d.P.length pc, .int .i64 d.fuse, .int .i64 d.ops, .bool d.dead] 38)).alloc (.cells #[.int .i64 0, .int .i64 0, .int .i64 0, .int .i64 0, .int .i64 0] 23)).cell? ⟨w.heap.size, 2, none⟩ = some (.int .i64 d.fuse) := HX.out.cell 2
  have x3 : ((w.alloc (.cells #[.slice sa d.S.length sc, .slice pa d.P.length pc, .int .i64 d.fuse, .int .i64 d.ops, .bool d.dead] 38)).alloc (.cells #[.int .i64 0, .int .i64 0, .int .i64 0, .int .i64 0, .int .i64 0] 23)).cell? ⟨w.heap.size, 3, none⟩ = some (.int .i64 d.ops) := HX.out.cell 3
  have x4 : ((w.alloc (.cells #[.slice sa d.S.length sc, .slice pa d.P.length pc, .int .i64 d.fuse, .int .i64 d.ops, .bool d.dead] 38)).alloc (.cells #[.int .i64 0, .int .i64 0, .int .i64 0, .int .i64 0, .int .i64 0] 23)).cell? ⟨w.heap.size, 4, none⟩ = some (.bool d.dead) := HX.out.cell 4
  go_enter Try.func26, Try.ntmps26
  go_wp2_with fail
  refine (Read_any _ _ _ _ d 0 _ HD.out).mono ?_
  rw [HA.out]
  rintro e1 w1 ⟨rfl, hb1⟩
  clear x0 x1 x2 x3 x4
  have HX1 := Lib.hid (HX.out.call hb1); have HR1 := Lib.hid (HR.out.call hb1); have HD1 := Lib.hid (HD.out.below hb1); have HB1 := Lib.hid (btrans HB0.out HB0.out.size hb1); clear hb1
  by_cases he : e = 0
  · have te : (e != 0) = false := by rw [he]; rfl
    have hf : f = 0 := HRR.out he
    have HE := Lib.hid he; have HF := Lib.hid hf; have tf : (f != 0) = false := by rw [hf]; rfl
    clear he hf
    have x0 : w1.cell? ⟨w.heap.size, 0, none⟩ = some (.slice sa d.S.length sc) := HX1.out.cell 0
    have x1 : w1.cell? ⟨w.heap.size, 1, none⟩ = some (.slice pa d.P.length pc) := HX1.out.cell 1
    have x2 : w1.cell? ⟨w.heap.size, 2, none⟩ = some (.int .i64 d.fuse) := HX1.out.cell 2
    have x3 : w1.cell? ⟨w.heap.size, 3, none⟩ = some (.int .i64 d.ops) := HX1.out.cell 3
    have x4 : w1.cell? ⟨w.heap.size, 4, none⟩ = some (.bool d.dead) := HX1.out.cell 4
    go_wp2_with fail
    refine (Read_any _ _ _ _ d 1 _ HD1.out).mono ?_
    rw [HB.out]
    rintro e2 w2 ⟨rfl, hb2⟩
    clear x0 x1 x2 x3 x4
    have HR2 := Lib.hid (HR1.out.call hb2); have HB2 := Lib.hid (btrans HB1.out HB1.out.size hb2); clear hb2
    go_wp2_with fail
    refine (SBest_any a b _ la lb).mono ?_
    rw [HBE.out]
    simp only [spV]
    rintro e3 w3 ⟨rfl, hb3⟩
    have hal := (Below.refl w3.heap.size w3).alloc (Nat.le_refl _) (.cells #[.int .i64 x.g, .int .i64 x.e, .int .i64 x.a, .int .i64 x.z, .int .i64 x.p] 23)
    have HR3 := Lib.hid ((HR2.out.call hb3).alloc (.cells #[.int .i64 x.g, .int .i64 x.e, .int .i64 x.a, .int .i64 x.z, .int .i64 x.p] 23)); have HX3 := Lib.hid (Bx.new w3 #[.int .i64 x.g, .int .i64 x.e, .int .i64 x.a, .int .i64 x.z, .int .i64 x.p] 23); have HB3 := Lib.hid (btrans (btrans HB2.out HB2.out.size hb3) (btrans HB2.out HB2.out.size hb3).size hal)
    clear hb3 hal
    go_upto_region 8 with (fail)
    generalize hW : w3.alloc (.cells #[.int .i64 x.g, .int .i64 x.e, .int .i64 x.a, .int .i64 x.z, .int .i64 x.p] 23) = w4 at HR3 HX3 HB3 ⊢
    clear hW
    have z4 : w3.heap.size < w4.heap.size := HX3.out.lt
    have zr := HR3.out.lt
    have x0 : w4.cell? ⟨w3.heap.size, 0, none⟩ = some (.int .i64 x.g) := HX3.out.cell 0
    have x1 : w4.cell? ⟨w3.heap.size, 1, none⟩ = some (.int .i64 x.e) := HX3.out.cell 1
    have x2 : w4.cell? ⟨w3.heap.size, 2, none⟩ = some (.int .i64 x.a) := HX3.out.cell 2
    have x3 : w4.cell? ⟨w3.heap.size, 3, none⟩ = some (.int .i64 x.z) := HX3.out.cell 3
    have x4 : w4.cell? ⟨w3.heap.size, 4, none⟩ = some (.int .i64 x.p) := HX3.out.cell 4
    cases ok with
    | true =>
      have HW := Lib.hid (show loadS d = (x, 0) by unfold loadS; rw [HA.out, HB.out]; simp only; rw [if_neg (by rw [HE.out]; simp), if_neg (by rw [HF.out]; simp), HBE.out]; simp only; rw [if_pos trivial])
      have r0 : w4.cell? ⟨w.heap.size + 1, 0, none⟩ = some (.int .i64 0) := HR3.out.cell 0
      have r1 : w4.cell? ⟨w.heap.size + 1, 1, none⟩ = some (.int .i64 0) := HR3.out.cell 1
      have r2 : w4.cell? ⟨w.heap.size + 1, 2, none⟩ = some (.int .i64 0) := HR3.out.cell 2
      have r3 : w4.cell? ⟨w.heap.size + 1, 3, none⟩ = some (.int .i64 0) := HR3.out.cell 3
      have r4 : w4.cell? ⟨w.heap.size + 1, 4, none⟩ = some (.int .i64 0) := HR3.out.cell 4
      have f0 := HR3.out.free 0
      have f1 := HR3.out.free 1
      have f2 := HR3.out.free 2
      have f3 := HR3.out.free 3
      have f4 := HR3.out.free 4
      have HK := Lib.hid (HR3.out.sets (.int .i64 x.g) (.int .i64 x.e) (.int .i64 x.a) (.int .i64 x.z) (.int .i64 x.p))
      go_wp2
      have k0 := HK.out.cell 0
      have k1 := HK.out.cell 1
      have k2 := HK.out.cell 2
      have k3 := HK.out.cell 3
      have k4 := HK.out.cell 4
      simp only [List.getElem?_toArray, List.getElem?_cons_zero, List.getElem?_cons_succ] at k0 k1 k2 k3 k4
      rw [HW.out]
      refine bodyPost_ret (v := .tuple #[.agg (spV x), .int .i64 0]) (by simp [results, Try.results26, go_sem, spV, k0, k1, k2, k3, k4]) rfl ⟨rfl, ?_⟩
      exact below_sets HB3.out (w.heap.size + 1) (by omega) _ _ _ _ _
    | false =>
      have HW := Lib.hid (show loadS d = (sp0, 20) by unfold loadS; rw [HA.out, HB.out]; simp only; rw [if_neg (by rw [HE.out]; simp), if_neg (by rw [HF.out]; simp), HBE.out]; simp)
      have r0 : w4.cell? ⟨w.heap.size + 1, 0, none⟩ = some (.int .i64 0) := HR3.out.cell 0
      have r1 : w4.cell? ⟨w.heap.size + 1, 1, none⟩ = some (.int .i64 0) := HR3.out.cell 1
      have r2 : w4.cell? ⟨w.heap.size + 1, 2, none⟩ = some (.int .i64 0) := HR3.out.cell 2
      have r3 : w4.cell? ⟨w.heap.size + 1, 3, none⟩ = some (.int .i64 0) := HR3.out.cell 3
      have r4 : w4.cell? ⟨w.heap.size + 1, 4, none⟩ = some (.int .i64 0) := HR3.out.cell 4
      have f0 := HR3.out.free 0
      have f1 := HR3.out.free 1
      have f2 := HR3.out.free 2
      have f3 := HR3.out.free 3
      have f4 := HR3.out.free 4
      have HK := Lib.hid (HR3.out.sets (.int .i64 0) (.int .i64 0) (.int .i64 0) (.int .i64 0) (.int .i64 0))
      go_wp2
      have k0 := HK.out.cell 0
      have k1 := HK.out.cell 1
      have k2 := HK.out.cell 2
      have k3 := HK.out.cell 3
      have k4 := HK.out.cell 4
      simp only [List.getElem?_toArray, List.getElem?_cons_zero, List.getElem?_cons_succ] at k0 k1 k2 k3 k4
      rw [HW.out]
      refine bodyPost_ret (v := .tuple #[.agg (spV sp0), .int .i64 20]) (by simp [results, Try.results26, go_sem, spV, sp0, k0, k1, k2, k3, k4]) rfl ⟨rfl, ?_⟩
      exact below_sets HB3.out (w.heap.size + 1) (by omega) _ _ _ _ _
  · have te : (e != 0) = true := by rw [bne_iff_ne]; exact he
    have HE := Lib.hid he; clear he
    have HW := Lib.hid (show loadS d = (sp0, e) by unfold loadS; rw [HA.out]; simp only; rw [if_pos HE.out])
    have r0 : w1.cell? ⟨w.heap.size + 1, 0, none⟩ = some (.int .i64 0) := HR1.out.cell 0
    have r1 : w1.cell? ⟨w.heap.size + 1, 1, none⟩ = some (.int .i64 0) := HR1.out.cell 1
    have r2 : w1.cell? ⟨w.heap.size + 1, 2, none⟩ = some (.int .i64 0) := HR1.out.cell 2
    have r3 : w1.cell? ⟨w.heap.size + 1, 3, none⟩ = some (.int .i64 0) := HR1.out.cell 3
    have r4 : w1.cell? ⟨w.heap.size + 1, 4, none⟩ = some (.int .i64 0) := HR1.out.cell 4
    have f0 := HR1.out.free 0
    have f1 := HR1.out.free 1
    have f2 := HR1.out.free 2
    have f3 := HR1.out.free 3
    have f4 := HR1.out.free 4
    have HK := Lib.hid (HR1.out.sets (.int .i64 0) (.int .i64 0) (.int .i64 0) (.int .i64 0) (.int .i64 0))
    go_wp2
    have k0 := HK.out.cell 0
    have k1 := HK.out.cell 1
    have k2 := HK.out.cell 2
    have k3 := HK.out.cell 3
    have k4 := HK.out.cell 4
    simp only [List.getElem?_toArray, List.getElem?_cons_zero, List.getElem?_cons_succ] at k0 k1 k2 k3 k4
    rw [HW.out]
    refine bodyPost_ret (v := .tuple #[.agg (spV sp0), .int .i64 e]) (by simp [results, Try.results26, go_sem, spV, sp0, k0, k1, k2, k3, k4]) rfl ⟨rfl, ?_⟩
    exact below_sets HB1.out (w.heap.size + 1) (by omega) _ _ _ _ _
end Go.Proofs.Ytkpfkknldeafkaa

namespace Go.Proofs.Ytkpfkknldeafkaa
open Go.RowKit

theorem enc_len64 {x : Sp} (h : (encS x).2 = 0) : (encS x).1.length = 64 := by
  unfold encS at h ⊢
  split
  · rename_i hv; exact enc_len hv
  · rename_i hv; rw [if_neg hv] at h; simp at h
theorem enc_zero {x : Sp} (h : (encS x).2 = 0) : spB x = true := by
  unfold encS at h
  split at h
  · assumption
  · simp at h
theorem enc_err {x : Sp} (h : (encS x).2 ≠ 0) : (encS x).2 = 1 := by
  unfold encS at h ⊢
  split
  · rename_i hv; rw [if_pos hv] at h; simp at h
  · rfl

set_option maxRecDepth 100000 in
set_option maxHeartbeats 8000000 in
theorem SStore_any (sa pa : Option Addr) (sc pc : Nat) (d : Dk) (x : Sp) (w : World) (hD : Lists w sa sc pa pc d) (hp : d.P.length ≤ 8999999999999) :
    Calls Try.prog 28 #[.agg #[.slice sa d.S.length sc, .slice pa d.P.length pc, .int .i64 d.fuse, .int .i64 d.ops, .bool d.dead], .agg (spV x)] w (OpPost (storeS d x) w) := by
  have hX := ((Bx.new w #[.slice sa d.S.length sc, .slice pa d.P.length pc, .int .i64 d.fuse, .int .i64 d.ops, .bool d.dead] 38).alloc (.cells (spV x) 23)).alloc (.cells #[.slice none 0 0, .slice none 0 0, .int .i64 0, .int .i64 0, .bool false] 38)
  have hY := (Bx.new1 w (.cells #[.slice sa d.S.length sc, .slice pa d.P.length pc, .int .i64 d.fuse, .int .i64 d.ops, .bool d.dead] 38) (spV x) 23).alloc (.cells #[.slice none 0 0, .slice none 0 0, .int .i64 0, .int .i64 0, .bool false] 38)
  have hR := Bx.new2 w (.cells #[.slice sa d.S.length sc, .slice pa d.P.length pc, .int .i64 d.fuse, .int .i64 d.ops, .bool d.dead] 38) (.cells (spV x) 23) #[.slice none 0 0, .slice none 0 0, .int .i64 0, .int .i64 0, .bool false] 38
  have hb0 := (((Below.refl w.heap.size w).alloc (Nat.le_refl _) (.cells #[.slice sa d.S.length sc, .slice pa d.P.length pc, .int .i64 d.fuse, .int .i64 d.ops, .bool d.dead] 38)).alloc (by simp) (.cells (spV x) 23)).alloc (by simp; omega) (.cells #[.slice none 0 0, .slice none 0 0, .int .i64 0, .int .i64 0, .bool false] 38)
  have l4 := hD.2.2.2
  have HDw := Lib.hid hD; clear hD
  obtain ⟨⟨s, e⟩, hs⟩ : ∃ r, encS x = r := ⟨_, rfl⟩
  have hz := enc_len64 (x := x); have hsp := enc_zero (x := x); have hee := enc_err (x := x)
  rw [hs] at hz hsp hee
  simp only at hz hsp hee
  have HS := Lib.hid hs; have HZ := Lib.hid hz; have HSP := Lib.hid hsp; have HEE := Lib.hid hee; clear hs hz hsp hee
  go_enter Try.func28, Try.ntmps28
  go_upto_region 1 with (fail)
  generalize hW0 : (((w.alloc (.cells #[.slice sa d.S.length sc, .slice pa d.P.length pc, .int .i64 d.fuse, .int .i64 d.ops, .bool d.dead] 38)).alloc (.cells (spV x) 23)).alloc (.cells #[.slice none 0 0, .slice none 0 0, .int .i64 0, .int .i64 0, .bool false] 38)) = w0 at hX hY hR hb0 ⊢
  clear hW0
  have HX0 := Lib.hid hX; have HY0 := Lib.hid hY; have HR0 := Lib.hid hR; have HB0 := Lib.hid hb0; clear hX hY hR hb0
  have y0 : w0.cell? ⟨w.heap.size + 1, 0, none⟩ = some (.int .i64 x.g) := HY0.out.cell 0
  have y1 : w0.cell? ⟨w.heap.size + 1, 1, none⟩ = some (.int .i64 x.e) := HY0.out.cell 1
  have y2 : w0.cell? ⟨w.heap.size + 1, 2, none⟩ = some (.int .i64 x.a) := HY0.out.cell 2
  have y3 : w0.cell? ⟨w.heap.size + 1, 3, none⟩ = some (.int .i64 x.z) := HY0.out.cell 3
  have y4 : w0.cell? ⟨w.heap.size + 1, 4, none⟩ = some (.int .i64 x.p) := HY0.out.cell 4
  go_wp2_with fail
  refine (SEncode_any x _).mono ?_
  rw [HS.out]
  rintro e1 w1 ⟨rfl, hb1⟩
  clear y0 y1 y2 y3 y4
  have HX1 := Lib.hid (HX0.out.call hb1); have HY1 := Lib.hid (HY0.out.call hb1); have HR1 := Lib.hid (HR0.out.call hb1); have HB1 := Lib.hid (btrans HB0.out HB0.out.size hb1); clear hb1
  have z1 : w.heap.size + 2 < w1.heap.size := HR1.out.lt
  by_cases he : e = 0
  · subst he
    have hv := HSP.out rfl
    have h64 := HZ.out rfl
    obtain ⟨g1, g2, _⟩ := spB_bounds hv
    have hg0 : 0 ≤ x.g := by omega
    clear hv g1 g2
    have x0 : w1.cell? ⟨w.heap.size, 0, none⟩ = some (.slice sa d.S.length sc) := HX1.out.cell 0
    have x1 : w1.cell? ⟨w.heap.size, 1, none⟩ = some (.slice pa d.P.length pc) := HX1.out.cell 1
    have x2 : w1.cell? ⟨w.heap.size, 2, none⟩ = some (.int .i64 d.fuse) := HX1.out.cell 2
    have x3 : w1.cell? ⟨w.heap.size, 3, none⟩ = some (.int .i64 d.ops) := HX1.out.cell 3
    have x4 : w1.cell? ⟨w.heap.size, 4, none⟩ = some (.bool d.dead) := HX1.out.cell 4
    have y0 : w1.cell? ⟨w.heap.size + 1, 0, none⟩ = some (.int .i64 x.g) := HY1.out.cell 0
    obtain ⟨⟨d2, er⟩, hw⟩ : ∃ r, writeS d (x.g % 2) s = r := ⟨_, rfl⟩
    have hl := write_len d (x.g % 2) s
    rw [hw] at hl
    simp only at hl
    obtain ⟨hl1, hl2⟩ := hl
    have HL1 := Lib.hid hl1; have HWQ := Lib.hid hw; clear hw hl1
    go_wp2_with fail
    refine (Write_any _ _ _ _ d (x.g % 2) s _ (HDw.out.below HB1.out) hp).mono ?_
    rw [HWQ.out]
    rintro e2 w2 ⟨a1, c1, a2, c2, rfl, hO2, hb2⟩
    clear x0 x1 x2 x3 x4 y0
    have hal := (Below.refl w2.heap.size w2).alloc (Nat.le_refl _) (.cells #[.slice a1 d2.S.length c1, .slice a2 d2.P.length c2, .int .i64 d2.fuse, .int .i64 d2.ops, .bool d2.dead] 38)
    have HR2 := Lib.hid ((HR1.out.call hb2).alloc (.cells #[.slice a1 d2.S.length c1, .slice a2 d2.P.length c2, .int .i64 d2.fuse, .int .i64 d2.ops, .bool d2.dead] 38)); have HX2 := Lib.hid (Bx.new w2 #[.slice a1 d2.S.length c1, .slice a2 d2.P.length c2, .int .i64 d2.fuse, .int .i64 d2.ops, .bool d2.dead] 38); have HB2 := Lib.hid (btrans (btrans HB1.out HB1.out.size hb2) (btrans HB1.out HB1.out.size hb2).size hal); have z2 := hb2.size
    have HO2 := Lib.hid (hO2.alloc (.cells #[.slice a1 d2.S.length c1, .slice a2 d2.P.length c2, .int .i64 d2.fuse, .int .i64 d2.ops, .bool d2.dead] 38))
    clear hb2 hal hO2
    go_upto_region 5 with (fail)
    generalize hW2 : w2.alloc (.cells #[.slice a1 d2.S.length c1, .slice a2 d2.P.length c2, .int .i64 d2.fuse, .int .i64 d2.ops, .bool d2.dead] 38) = w3 at HR2 HX2 HB2 HO2 ⊢
    clear hW2
    have z3 : w2.heap.size < w3.heap.size := HX2.out.lt
    have x0 : w3.cell? ⟨w2.heap.size, 0, none⟩ = some (.slice a1 d2.S.length c1) := HX2.out.cell 0
    have x1 : w3.cell? ⟨w2.heap.size, 1, none⟩ = some (.slice a2 d2.P.length c2) := HX2.out.cell 1
    have x2 : w3.cell? ⟨w2.heap.size, 2, none⟩ = some (.int .i64 d2.fuse) := HX2.out.cell 2
    have x3 : w3.cell? ⟨w2.heap.size, 3, none⟩ = some (.int .i64 d2.ops) := HX2.out.cell 3
    have x4 : w3.cell? ⟨w2.heap.size, 4, none⟩ = some (.bool d2.dead) := HX2.out.cell 4
    by_cases her : er = 0
    · subst her
      obtain ⟨⟨d3, es⟩, hy⟩ : ∃ r, syncS d2 = r := ⟨_, rfl⟩
      have HSY := Lib.hid hy; clear hy
      have HST := Lib.hid (show storeS d x = (d3, es) by unfold storeS; rw [HS.out]; simp only; rw [if_neg (by simp), HWQ.out]; simp only; rw [if_neg (by simp), HSY.out])
      go_wp2_with fail
      refine (Sync_any _ _ _ _ d2 _ (HO2.out.lists (by omega) (by rw [HL1.out]; exact l4))).mono ?_
      rw [HSY.out]
      rintro e3 w4 ⟨a3, c3, a4, c4, rfl, hO4, hb4⟩
      clear x0 x1 x2 x3 x4
      have HR4 := Lib.hid (HR2.out.call hb4); have HB4 := Lib.hid (btrans HB2.out HB2.out.size hb4); have HO4 := Lib.hid hO4; clear hb4 hO4
      have r0 : w4.cell? ⟨w.heap.size + 2, 0, none⟩ = some (.slice none 0 0) := HR4.out.cell 0
      have r1 : w4.cell? ⟨w.heap.size + 2, 1, none⟩ = some (.slice none 0 0) := HR4.out.cell 1
      have r2 : w4.cell? ⟨w.heap.size + 2, 2, none⟩ = some (.int .i64 0) := HR4.out.cell 2
      have r3 : w4.cell? ⟨w.heap.size + 2, 3, none⟩ = some (.int .i64 0) := HR4.out.cell 3
      have r4 : w4.cell? ⟨w.heap.size + 2, 4, none⟩ = some (.bool false) := HR4.out.cell 4
      have f0 := HR4.out.free 0
      have f1 := HR4.out.free 1
      have f2 := HR4.out.free 2
      have f3 := HR4.out.free 3
      have f4 := HR4.out.free 4
      have HK := Lib.hid (HR4.out.sets (.slice a3 d3.S.length c3) (.slice a4 d3.P.length c4) (.int .i64 d3.fuse) (.int .i64 d3.ops) (.bool d3.dead))
      go_wp2
      have k0 := HK.out.cell 0
      have k1 := HK.out.cell 1
      have k2 := HK.out.cell 2
      have k3 := HK.out.cell 3
      have k4 := HK.out.cell 4
      simp only [List.getElem?_toArray, List.getElem?_cons_zero, List.getElem?_cons_succ] at k0 k1 k2 k3 k4
      refine bodyPost_ret (v := .tuple #[.agg #[.slice a3 d3.S.length c3, .slice a4 d3.P.length c4, .int .i64 d3.fuse, .int .i64 d3.ops, .bool d3.dead], .int .i64 es]) (by simp [results, Try.results28, go_sem, k0, k1, k2, k3, k4]) rfl ?_
      rw [HST.out]
      refine ⟨a3, c3, a4, c4, rfl, ?_, ?_⟩
      exact (HO4.out.sets (w.heap.size + 2) (by omega) _ _ _ _ _).mono (by omega)
      exact below_sets HB4.out (w.heap.size + 2) (by omega) _ _ _ _ _
    · have HER := Lib.hid her; have ter : (er != 0) = true := (by rw [bne_iff_ne]; exact her); clear her
      have HST := Lib.hid (show storeS d x = (d2, er) by unfold storeS; rw [HS.out]; simp only; rw [if_neg (by simp), HWQ.out]; simp only; rw [if_pos HER.out])
      have r0 : w3.cell? ⟨w.heap.size + 2, 0, none⟩ = some (.slice none 0 0) := HR2.out.cell 0
      have r1 : w3.cell? ⟨w.heap.size + 2, 1, none⟩ = some (.slice none 0 0) := HR2.out.cell 1
      have r2 : w3.cell? ⟨w.heap.size + 2, 2, none⟩ = some (.int .i64 0) := HR2.out.cell 2
      have r3 : w3.cell? ⟨w.heap.size + 2, 3, none⟩ = some (.int .i64 0) := HR2.out.cell 3
      have r4 : w3.cell? ⟨w.heap.size + 2, 4, none⟩ = some (.bool false) := HR2.out.cell 4
      have f0 := HR2.out.free 0
      have f1 := HR2.out.free 1
      have f2 := HR2.out.free 2
      have f3 := HR2.out.free 3
      have f4 := HR2.out.free 4
      have HK := Lib.hid (HR2.out.sets (.slice a1 d2.S.length c1) (.slice a2 d2.P.length c2) (.int .i64 d2.fuse) (.int .i64 d2.ops) (.bool d2.dead))
      go_wp2
      have k0 := HK.out.cell 0
      have k1 := HK.out.cell 1
      have k2 := HK.out.cell 2
      have k3 := HK.out.cell 3
      have k4 := HK.out.cell 4
      simp only [List.getElem?_toArray, List.getElem?_cons_zero, List.getElem?_cons_succ] at k0 k1 k2 k3 k4
      refine bodyPost_ret (v := .tuple #[.agg #[.slice a1 d2.S.length c1, .slice a2 d2.P.length c2, .int .i64 d2.fuse, .int .i64 d2.ops, .bool d2.dead], .int .i64 er]) (by simp [results, Try.results28, go_sem, k0, k1, k2, k3, k4]) rfl ?_
      rw [HST.out]
      refine ⟨a1, c1, a2, c2, rfl, ?_, ?_⟩
      exact (HO2.out.sets (w.heap.size + 2) (by omega) _ _ _ _ _).mono (by omega)
      exact below_sets HB2.out (w.heap.size + 2) (by omega) _ _ _ _ _
  · obtain rfl : e = 1 := HEE.out he
    clear he
    have HST := Lib.hid (show storeS d x = (d, 1) by unfold storeS; rw [HS.out]; simp only; rw [if_pos (by simp)])
    have x0 : w1.cell? ⟨w.heap.size, 0, none⟩ = some (.slice sa d.S.length sc) := HX1.out.cell 0
    have x1 : w1.cell? ⟨w.heap.size, 1, none⟩ = some (.slice pa d.P.length pc) := HX1.out.cell 1
    have x2 : w1.cell? ⟨w.heap.size, 2, none⟩ = some (.int .i64 d.fuse) := HX1.out.cell 2
    have x3 : w1.cell? ⟨w.heap.size, 3, none⟩ = some (.int .i64 d.ops) := HX1.out.cell 3
    have x4 : w1.cell? ⟨w.heap.size, 4, none⟩ = some (.bool d.dead) := HX1.out.cell 4
    go_wp2_with fail
    refine (unchanged_any _ _ _ _ d _ (HDw.out.below HB1.out)).mono ?_
    rintro e2 w2 ⟨a1, c1, a2, c2, rfl, hO2, hb2⟩
    clear x0 x1 x2 x3 x4
    have HR2 := Lib.hid (HR1.out.call hb2); have HB2 := Lib.hid (btrans HB1.out HB1.out.size hb2); have HO2 := Lib.hid hO2; clear hb2 hO2
    have r0 : w2.cell? ⟨w.heap.size + 2, 0, none⟩ = some (.slice none 0 0) := HR2.out.cell 0
    have r1 : w2.cell? ⟨w.heap.size + 2, 1, none⟩ = some (.slice none 0 0) := HR2.out.cell 1
    have r2 : w2.cell? ⟨w.heap.size + 2, 2, none⟩ = some (.int .i64 0) := HR2.out.cell 2
    have r3 : w2.cell? ⟨w.heap.size + 2, 3, none⟩ = some (.int .i64 0) := HR2.out.cell 3
    have r4 : w2.cell? ⟨w.heap.size + 2, 4, none⟩ = some (.bool false) := HR2.out.cell 4
    have f0 := HR2.out.free 0
    have f1 := HR2.out.free 1
    have f2 := HR2.out.free 2
    have f3 := HR2.out.free 3
    have f4 := HR2.out.free 4
    have HK := Lib.hid (HR2.out.sets (.slice a1 d.S.length c1) (.slice a2 d.P.length c2) (.int .i64 d.fuse) (.int .i64 d.ops) (.bool d.dead))
    go_wp2
    have k0 := HK.out.cell 0
    have k1 := HK.out.cell 1
    have k2 := HK.out.cell 2
    have k3 := HK.out.cell 3
    have k4 := HK.out.cell 4
    simp only [List.getElem?_toArray, List.getElem?_cons_zero, List.getElem?_cons_succ] at k0 k1 k2 k3 k4
    refine bodyPost_ret (v := .tuple #[.agg #[.slice a1 d.S.length c1, .slice a2 d.P.length c2, .int .i64 d.fuse, .int .i64 d.ops, .bool d.dead], .int .i64 1]) (by simp [results, Try.results28, go_sem, k0, k1, k2, k3, k4]) rfl ?_
    rw [HST.out]
    refine ⟨a1, c1, a2, c2, rfl, ?_, ?_⟩
    exact (HO2.out.sets (w.heap.size + 2) (by omega) _ _ _ _ _).mono (by omega)
    exact below_sets HB2.out (w.heap.size + 2) (by omega) _ _ _ _ _
end Go.Proofs.Ytkpfkknldeafkaa


namespace Go.Proofs.Ytkpfkknldeafkaa
open Go.RowKit

end Go.Proofs.Ytkpfkknldeafkaa

namespace Go.Proofs.Ytkpfkknldeafkaa
open Go.ChangeShapes Go.WideShapes Go.ChangeAt Go.RowKit

section
variable {H : Type} {enc : TypeId × Value → H} {W : World} {base : Nat} {spare : Nat → Bool} {held : Bool}
end
end Go.Proofs.Ytkpfkknldeafkaa
