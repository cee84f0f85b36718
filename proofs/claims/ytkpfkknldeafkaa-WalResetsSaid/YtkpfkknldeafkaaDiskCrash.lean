/- What Crash of layer 44 (disk) returns. No conditions but the sizes. -/
import Derived.Test.YtkpfkknldeafkaaDiskKept
import Derived.Test.YtkpfkknldeafkaaCalm
namespace Go.Proofs.Ytkpfkknldeafkaa
open Go.RowKit Go.Shelf
attribute [local go_sem] Oper.semAt_some

def lastI {K : Nat} (pre : List (Fin K)) : Int := match pre.getLast? with | some x => (x.1 : Int) | none => -1
theorem lastI_snoc {K : Nat} (pre : List (Fin K)) (x : Fin K) : lastI (pre ++ [x]) = (x.1 : Int) := by unfold lastI; simp
def cutW (data sec : List UInt8) (tear : Int) : List UInt8 := data.take tear.toNat ++ sec.drop tear.toNat
def stepC (P : List (Int × List UInt8)) (last tear : Int) (S : List (List UInt8)) (i : Fin P.length) : List (List UInt8) :=
  S.set P[i.1].1.toNat (if (i.1 : Int) = last ∧ 1 ≤ tear ∧ tear < 64 then cutW P[i.1].2 (S.getD P[i.1].1.toNat []) tear else P[i.1].2)
def foldC (P : List (Int × List UInt8)) (S : List (List UInt8)) (last tear : Int) (pre : List (Fin P.length)) : List (List UInt8) := pre.foldl (stepC P last tear) S
theorem foldC_snoc (P : List (Int × List UInt8)) (S : List (List UInt8)) (last tear : Int) (pre : List (Fin P.length)) (x : Fin P.length) : foldC P S last tear (pre ++ [x]) = stepC P last tear (foldC P S last tear pre) x := by
  unfold foldC; rw [List.foldl_append]; rfl
def crashD (d : Dk) (kb : List Bool) (tear : Int) : Dk :=
  if validB d = true then { d with S := foldC d.P d.S (lastI (kf d.P.length kb d.P.length)) tear (kf d.P.length kb d.P.length), P := [], fuse := 0, dead := false } else d
theorem crash_off {d : Dk} (kb : List Bool) (tear : Int) (h : validB d = false) : crashD d kb tear = d := by unfold crashD; rw [h]; rfl
theorem crash_on {d : Dk} (kb : List Bool) (tear : Int) (h : validB d = true) : crashD d kb tear = { d with S := foldC d.P d.S (lastI (kf d.P.length kb d.P.length)) tear (kf d.P.length kb d.P.length), P := [], fuse := 0, dead := false } := by unfold crashD; rw [if_pos h]
set_option maxRecDepth 100000 in
theorem foldC_inv {P : List (Int × List UInt8)} {S : List (List UInt8)} (last tear : Int) (hP : ∀ x ∈ P, x.2.length = 64) (hS : ∀ s ∈ S, s.length = 64) (pre : List (Fin P.length)) :
    (foldC P S last tear pre).length = S.length ∧ ∀ s ∈ foldC P S last tear pre, s.length = 64 := by
  unfold foldC
  induction pre generalizing S with
  | nil => exact ⟨rfl, hS⟩
  | cons x r ih =>
    rw [List.foldl_cons]
    have hx := hP _ (List.getElem_mem x.2)
    have h1 : ∀ s ∈ stepC P last tear S x, s.length = 64 := by
      intro s hs
      unfold stepC at hs
      rcases List.mem_or_eq_of_mem_set hs with h | h
      · exact hS s h
      · rw [h]
        split
        · rename_i hc
          rcases Nat.lt_or_ge P[x.1].1.toNat S.length with h3 | h3
          · unfold cutW
            rw [List.getD_eq_getElem?_getD, List.getElem?_eq_getElem h3, Option.getD_some]
            have := hS _ (List.getElem_mem h3)
            simp [hx, this]; omega
          · rw [List.set_eq_of_length_le h3] at hs
            rw [if_pos hc] at h
            rw [← h]
            exact hS s hs
        · exact hx
    have h2 := ih h1
    rw [show (stepC P last tear S x).length = S.length by unfold stepC; rw [List.length_set]] at h2
    exact h2

theorem bx_from {β : Type} (B b : Nat) (T : TypeId) (f : β → Array Value) : OwnFrom B (fun (x : β) W => Bx b (f x) T W) := by
  intro s W W' row hs hg hr
  refine grownBy_bx hg hs (fun e => ?_)
  obtain ⟨_, o, ho, hc⟩ := hr b e.symm
  unfold Bx at hs
  rw [hs] at ho; cases ho; cases hc
set_option maxRecDepth 100000 in
theorem row_from {β : Type} (B n₀ n : Nat) (T : TypeId) (v : Value) (f : β → List Value) : OwnFrom B (fun (x : β) W => W.ownsRow n₀ T 1 v n (f x)) := by
  intro s W W' row hs hg hr
  refine ⟨hs.1, ?_⟩
  rcases hs.2 with h | ⟨g, cap, cur, h1, h2, h3, h4⟩
  · exact .inl h
  · refine .inr ⟨g, cap, cur, h1, h2, (hg.block g (lt_heap h3) (fun e => ?_)).trans h3, h4⟩
    obtain ⟨_, o, ho, hc⟩ := hr g e.symm
    rw [h3] at ho; cases ho; cases hc
theorem dfr_from {β : Type} (B D : Nat) (o : Obj) (h : D < B) : OwnFrom B (fun (_ : β) W => W.heap[D]? = some o) := by
  intro s W W' row hs hg hr
  exact (hg.block D (lt_heap hs) (fun e => by have := (hr D e.symm).1; omega)).trans hs
theorem kpc_b {n₀ b1 b2 : Nat} {w : World} (hn : n₀ ≤ w.heap.size) (h1 : b1 < w.heap.size) (h2 : b2 < w.heap.size) (W : World) (l : Nat) (o o' : Obj) (hl : w.heap.size ≤ l) (h : W.heap[l]? = some o) (hc : o.isCells = false) (hw : o.isWalk = false) : KpC n₀ b1 b2 W (W.putObj l o') :=
  ⟨belowK_b hn W l o o' hl h hc hw, World.putObj_heap_other (by omega), World.putObj_heap_other (by omega)⟩
theorem kpc_alloc {n₀ b1 b2 : Nat} {W : World} (hn : n₀ ≤ W.heap.size) (h1 : b1 < W.heap.size) (h2 : b2 < W.heap.size) (o : Obj) : KpC n₀ b1 b2 W (W.alloc o) :=
  ⟨(Below.refl n₀ W).alloc hn o, Below.heap_alloc W o b1 h1, Below.heap_alloc W o b2 h2⟩
theorem kpc_set {n₀ b1 b2 b i : Nat} {W : World} (hn : n₀ ≤ b) (h1 : b1 ≠ b) (h2 : b2 ≠ b) (v : Value) : KpC n₀ b1 b2 W (W.setCell ⟨b, i, none⟩ v) :=
  ⟨(Below.refl n₀ W).setCell (p := ⟨b, i, none⟩) hn v, heap_setCell_other _ _ _ _ h1, heap_setCell_other _ _ _ _ h2⟩

set_option maxRecDepth 100000 in
set_option maxHeartbeats 8000000 in
theorem Crash_any (sa pa ka : Option Addr) (sc pc kc : Nat) (d : Dk) (kb : List Bool) (tear : Int) (w : World) (hD : Lists w sa sc pa pc d) (hS : BoS w.heap.size w (.slice ka kb.length kc) kb) :
    Calls Try.prog 34 #[.agg #[.slice sa d.S.length sc, .slice pa d.P.length pc, .int .i64 d.fuse, .int .i64 d.ops, .bool d.dead], .slice ka kb.length kc, .int .i64 tear] w (ClonePost (crashD d kb tear) w) := by
  have hb0 := (((Below.refl w.heap.size w).alloc (Nat.le_refl _) (.cells #[.slice sa d.S.length sc, .slice pa d.P.length pc, .int .i64 d.fuse, .int .i64 d.ops, .bool d.dead] 38)).alloc (by simp) (.cells #[.int .i64 tear] 3)).alloc (by simp; omega) (.cells #[.slice none 0 0, .slice none 0 0, .int .i64 0, .int .i64 0, .bool false] 38)
  have hX : Bx w.heap.size #[.slice sa d.S.length sc, .slice pa d.P.length pc, .int .i64 d.fuse, .int .i64 d.ops, .bool d.dead] 38 (((w.alloc (.cells #[.slice sa d.S.length sc, .slice pa d.P.length pc, .int .i64 d.fuse, .int .i64 d.ops, .bool d.dead] 38)).alloc (.cells #[.int .i64 tear] 3)).alloc (.cells #[.slice none 0 0, .slice none 0 0, .int .i64 0, .int .i64 0, .bool false] 38)) := by
    have h := (Bx.new w #[.slice sa d.S.length sc, .slice pa d.P.length pc, .int .i64 d.fuse, .int .i64 d.ops, .bool d.dead] 38)
    have h := h.alloc (.cells #[.int .i64 tear] 3)
    have h := h.alloc (.cells #[.slice none 0 0, .slice none 0 0, .int .i64 0, .int .i64 0, .bool false] 38)
    simpa using h
  have HX := Lib.hid hX; clear hX
  have hA : Bx (w.heap.size + 1) #[.int .i64 tear] 3 (((w.alloc (.cells #[.slice sa d.S.length sc, .slice pa d.P.length pc, .int .i64 d.fuse, .int .i64 d.ops, .bool d.dead] 38)).alloc (.cells #[.int .i64 tear] 3)).alloc (.cells #[.slice none 0 0, .slice none 0 0, .int .i64 0, .int .i64 0, .bool false] 38)) := by
    have h := (Bx.new (w.alloc (.cells #[.slice sa d.S.length sc, .slice pa d.P.length pc, .int .i64 d.fuse, .int .i64 d.ops, .bool d.dead] 38)) #[.int .i64 tear] 3)
    have h := h.alloc (.cells #[.slice none 0 0, .slice none 0 0, .int .i64 0, .int .i64 0, .bool false] 38)
    simpa using h
  have HA := Lib.hid hA; clear hA
  have hR : Bx (w.heap.size + 2) #[.slice none 0 0, .slice none 0 0, .int .i64 0, .int .i64 0, .bool false] 38 (((w.alloc (.cells #[.slice sa d.S.length sc, .slice pa d.P.length pc, .int .i64 d.fuse, .int .i64 d.ops, .bool d.dead] 38)).alloc (.cells #[.int .i64 tear] 3)).alloc (.cells #[.slice none 0 0, .slice none 0 0, .int .i64 0, .int .i64 0, .bool false] 38)) := by
    have h := (Bx.new ((w.alloc (.cells #[.slice sa d.S.length sc, .slice pa d.P.length pc, .int .i64 d.fuse, .int .i64 d.ops, .bool d.dead] 38)).alloc (.cells #[.int .i64 tear] 3)) #[.slice none 0 0, .slice none 0 0, .int .i64 0, .int .i64 0, .bool false] 38)
    simpa using h
  have HR := Lib.hid hR; clear hR
  have hD0 := hD.below hb0
  refine (callsIn_wide (n := 3)).1 ?_
  refine callsIn_of_wp_marks Try.func34 rfl trivial ?_ rfl
  simp only [Try.ntmps34, List.size_toArray, List.length_cons, List.length_nil, Nat.reduceAdd, Nat.reduceSub, Array.replicate_succ, Array.replicate_zero, List.push_toArray, List.append_toArray, List.nil_append, List.cons_append]
  gi_wp2_with fail
  refine ⟨trivial, callsIn_wide.2 ((clone_any _ _ _ _ _ _ hD0).mono ?_)⟩
  rintro e w1 ⟨a1, c1, a2, c2, rfl, hO, hb1⟩
  have hX := HX.out.call hb1; clear HX; have HX := Lib.hid hX; clear hX
  have hA := HA.out.call hb1; clear HA; have HA := Lib.hid hA; clear hA
  have hR := HR.out.call hb1; clear HR; have HR := Lib.hid hR; clear hR
  have hbl1 := btrans hb0 hb0.size hb1
  have hbl2 := hbl1.alloc hbl1.size (.cells #[.slice a1 d.S.length c1, .slice a2 d.P.length c2, .int .i64 d.fuse, .int .i64 d.ops, .bool d.dead] 38)
  have hX := HX.out.alloc (.cells #[.slice a1 d.S.length c1, .slice a2 d.P.length c2, .int .i64 d.fuse, .int .i64 d.ops, .bool d.dead] 38)
  have hA := HA.out.alloc (.cells #[.slice a1 d.S.length c1, .slice a2 d.P.length c2, .int .i64 d.fuse, .int .i64 d.ops, .bool d.dead] 38)
  have hR := HR.out.alloc (.cells #[.slice a1 d.S.length c1, .slice a2 d.P.length c2, .int .i64 d.fuse, .int .i64 d.ops, .bool d.dead] 38)
  have hY := Bx.new w1 #[.slice a1 d.S.length c1, .slice a2 d.P.length c2, .int .i64 d.fuse, .int .i64 d.ops, .bool d.dead] 38
  have hO1 := (hO.alloc (.cells #[.slice a1 d.S.length c1, .slice a2 d.P.length c2, .int .i64 d.fuse, .int .i64 d.ops, .bool d.dead] 38)).mono (B' := w.heap.size + 3) (by simp)
  have hne := hO.sne
  have hzz : w.heap.size + 3 ≤ w1.heap.size := by have := hb1.size; simp at this; omega
  have x0 : (w1.alloc (.cells #[.slice a1 d.S.length c1, .slice a2 d.P.length c2, .int .i64 d.fuse, .int .i64 d.ops, .bool d.dead] 38)).cell? ⟨w.heap.size, 0, none⟩ = some (.slice sa d.S.length sc) := hX.cell 0
  have x1 : (w1.alloc (.cells #[.slice a1 d.S.length c1, .slice a2 d.P.length c2, .int .i64 d.fuse, .int .i64 d.ops, .bool d.dead] 38)).cell? ⟨w.heap.size, 1, none⟩ = some (.slice pa d.P.length pc) := hX.cell 1
  have x2 : (w1.alloc (.cells #[.slice a1 d.S.length c1, .slice a2 d.P.length c2, .int .i64 d.fuse, .int .i64 d.ops, .bool d.dead] 38)).cell? ⟨w.heap.size, 2, none⟩ = some (.int .i64 d.fuse) := hX.cell 2
  have x3 : (w1.alloc (.cells #[.slice a1 d.S.length c1, .slice a2 d.P.length c2, .int .i64 d.fuse, .int .i64 d.ops, .bool d.dead] 38)).cell? ⟨w.heap.size, 3, none⟩ = some (.int .i64 d.ops) := hX.cell 3
  have x4 : (w1.alloc (.cells #[.slice a1 d.S.length c1, .slice a2 d.P.length c2, .int .i64 d.fuse, .int .i64 d.ops, .bool d.dead] 38)).cell? ⟨w.heap.size, 4, none⟩ = some (.bool d.dead) := hX.cell 4
  have hD1 := hD.below hbl2
  have HX := Lib.hid hX; have HY := Lib.hid hY; have HR := Lib.hid hR; have HA := Lib.hid hA; have HO := Lib.hid hO1; have HNE := Lib.hid hne
  clear hX hY hR hA hO hO1 hne hb1 hbl1 hb0 hD0
  gi_wp2_with fail
  refine ⟨trivial, callsIn_wide.2 ((Valid_any _ _ _ _ _ _ hD1).mono ?_)⟩
  cases hv : validB d with
  | false =>
    have HF := Lib.hid (crash_off kb tear hv)
    rintro e w2 ⟨rfl, hb2⟩
    have hY := HY.out.call hb2
    have hR := HR.out.call hb2
    have hO := HO.out.call hb2
    have hbl3 := btrans hbl2 hbl2.size hb2
    clear x0 x1 x2 x3 x4 hv hb2 HY HR HO HX HA
    have y0 : w2.cell? ⟨w1.heap.size, 0, none⟩ = some (.slice a1 d.S.length c1) := hY.cell 0
    have y1 : w2.cell? ⟨w1.heap.size, 1, none⟩ = some (.slice a2 d.P.length c2) := hY.cell 1
    have y2 : w2.cell? ⟨w1.heap.size, 2, none⟩ = some (.int .i64 d.fuse) := hY.cell 2
    have y3 : w2.cell? ⟨w1.heap.size, 3, none⟩ = some (.int .i64 d.ops) := hY.cell 3
    have y4 : w2.cell? ⟨w1.heap.size, 4, none⟩ = some (.bool d.dead) := hY.cell 4
    have r0 : w2.cell? ⟨w.heap.size + 2, 0, none⟩ = some (.slice none 0 0) := hR.cell 0
    have r1 : w2.cell? ⟨w.heap.size + 2, 1, none⟩ = some (.slice none 0 0) := hR.cell 1
    have r2 : w2.cell? ⟨w.heap.size + 2, 2, none⟩ = some (.int .i64 0) := hR.cell 2
    have r3 : w2.cell? ⟨w.heap.size + 2, 3, none⟩ = some (.int .i64 0) := hR.cell 3
    have r4 : w2.cell? ⟨w.heap.size + 2, 4, none⟩ = some (.bool false) := hR.cell 4
    have g0 := hR.free 0
    have g1 := hR.free 1
    have g2 := hR.free 2
    have g3 := hR.free 3
    have g4 := hR.free 4
    have kk := (hR.sets (.slice a1 d.S.length c1) (.slice a2 d.P.length c2) (.int .i64 d.fuse) (.int .i64 d.ops) (.bool d.dead))
    have k0 := kk.cell 0
    have k1 := kk.cell 1
    have k2 := kk.cell 2
    have k3 := kk.cell 3
    have k4 := kk.cell 4
    simp only [List.getElem?_toArray, List.getElem?_cons_zero, List.getElem?_cons_succ] at k0 k1 k2 k3 k4
    clear kk
    have HO := Lib.hid hO; have HB := Lib.hid hbl3
    clear hO hR hY hbl3
    gi_wp2
    refine ⟨.agg #[.slice a1 d.S.length c1, .slice a2 d.P.length c2, .int .i64 d.fuse, .int .i64 d.ops, .bool d.dead], by simp [results, Try.results34, go_sem, k0, k1, k2, k3, k4], ?_⟩
    rw [HF.out]
    refine ⟨a1, c1, a2, c2, rfl, ?_, ?_⟩
    · exact (HO.out.sets (w.heap.size + 2) (by omega) _ _ _ _ _).mono (by omega)
    · exact below_sets HB.out (w.heap.size + 2) (by omega) _ _ _ _ _
  | true =>
    have HF := Lib.hid (crash_on kb tear hv)
    have HV := Lib.hid hv
    rintro e w2 ⟨rfl, hb2⟩
    have hX := HX.out.call hb2; clear HX; have HX := Lib.hid hX; clear hX
    have hY := HY.out.call hb2; clear HY; have HY := Lib.hid hY; clear hY
    have hR := HR.out.call hb2; clear HR; have HR := Lib.hid hR; clear hR
    have hA := HA.out.call hb2; clear HA; have HA := Lib.hid hA; clear hA
    have hO := HO.out.call hb2
    clear HO
    have HO := Lib.hid hO
    have hbl3 := btrans hbl2 hbl2.size hb2
    have hz1 : w1.heap.size < w2.heap.size := HY.out.lt
    clear x0 x1 x2 x3 x4 hv hb2 hO
    have hX := HX.out.alloc (.cells #[.int .i64 (-1)] 3)
    have x0 : (w2.alloc (.cells #[.int .i64 (-1)] 3)).cell? ⟨w.heap.size, 0, none⟩ = some (.slice sa d.S.length sc) := hX.cell 0
    have x1 : (w2.alloc (.cells #[.int .i64 (-1)] 3)).cell? ⟨w.heap.size, 1, none⟩ = some (.slice pa d.P.length pc) := hX.cell 1
    have x2 : (w2.alloc (.cells #[.int .i64 (-1)] 3)).cell? ⟨w.heap.size, 2, none⟩ = some (.int .i64 d.fuse) := hX.cell 2
    have x3 : (w2.alloc (.cells #[.int .i64 (-1)] 3)).cell? ⟨w.heap.size, 3, none⟩ = some (.int .i64 d.ops) := hX.cell 3
    have x4 : (w2.alloc (.cells #[.int .i64 (-1)] 3)).cell? ⟨w.heap.size, 4, none⟩ = some (.bool d.dead) := hX.cell 4
    clear hX
    gi_wp2_with fail
    refine ⟨trivial, callsIn_wide.2 ((kept_any _ _ _ _ _ _ _ _ _).mono ?_)⟩
    rintro e w4 ⟨rfl, hw4⟩
    have hb4 : Below (w2.heap.size + 1) (w2.alloc (.cells #[.int .i64 (-1)] 3)) w4 := by rw [← hw4]; exact ((Below.refl _ _).alloc (by simp) _).alloc (by simp) _
    have hsz4 : w4.heap.size = w2.heap.size + 3 := by rw [← hw4]; simp
    have hbd : w4.cell? ⟨w2.heap.size + 1, 1, none⟩ = some (.slice pa d.P.length pc) := by
      have h := ((Bx.new (w2.alloc (.cells #[.int .i64 (-1)] 3)) #[.slice sa d.S.length sc, .slice pa d.P.length pc, .int .i64 d.fuse, .int .i64 d.ops, .bool d.dead] 38).alloc (.cells #[.slice ka kb.length kc] 50)).cell 1
      rw [hw4] at h; simpa using h
    have hbk : Bx (w2.heap.size + 1 + 1) #[.slice ka kb.length kc] 50 w4 := by
      have h := Bx.new ((w2.alloc (.cells #[.int .i64 (-1)] 3)).alloc (.cells #[.slice sa d.S.length sc, .slice pa d.P.length pc, .int .i64 d.fuse, .int .i64 d.ops, .bool d.dead] 38)) #[.slice ka kb.length kc] 50
      rw [hw4] at h; simpa using h
    have hL4 : Bx w2.heap.size #[.int .i64 (-1)] 3 w4 := (Bx.new w2 _ _).below hb4 (by omega)
    have hb24 : Below w2.heap.size w2 w4 := ((Below.refl _ _).alloc (Nat.le_refl _) _).trans (hb4.mono (by omega))
    have hS4 : BoS w.heap.size w4 (.slice ka kb.length kc) kb := hS.below (hbl3.trans (hb24.mono (by omega)))
    clear hw4 hb4 x0 x1 x2 x3 x4
    rw [show (w2.alloc (.cells #[.int .i64 (-1)] 3)).heap.size = w2.heap.size + 1 by simp]
    gi_wp2_with fail
    have hsz24 : w.heap.size + 3 ≤ w2.heap.size := by omega
    refine wpIn_rangeFunc_ownF rfl (by omega) (gf := 107) (lb := #[.pointer (some ⟨w2.heap.size + 1, 0, none⟩), .pointer (some ⟨w2.heap.size + 1 + 1, 0, none⟩)]) rfl trivial (enters_of Try.func107 (by kernel_rfl) rfl)
      (kept_stops Fence.wide (3 - 1) trivial rfl (by omega) (w2.heap.size + 1) (w2.heap.size + 1 + 1) w.heap.size d.P.length hD.2.2.1 kb pa ka pc kc w4 (by omega) (by omega) (by omega) hbd hbk hS4) KpC.trans (kpc_b (by omega) (by omega) (by omega)) (Below.refl _ _) (fun _ => rfl)
      (fun pre W => Bx w2.heap.size #[.int .i64 (lastI pre)] 3 W ∧ Below w2.heap.size w2 W)
      (fun _ _ _ => False)
      (OwnFrom.and (bx_from _ _ _ _) (ownFrom_below (Nat.le_refl _) (by omega)))
      (fun _ _ _ _ _ hs _ _ => hs)
      ⟨hL4, hb24⟩ ?pa ?passign ?pbody ?pdone ?pstop
    case passign =>
      intro l x W K hK
      gi_wp2
      exact hK
    case pbody =>
      rintro l pre x W ⟨hL, hB⟩ _
      have l0 : W.cell? ⟨w2.heap.size, 0, none⟩ = some (.int .i64 (lastI pre)) := hL.cell 0
      have g0 := hL.free 0
      gi_wp2
      exact ⟨KeepsOthers.setCell _ _ _, kpc_set (by omega) (by omega) (by omega) _, by rw [lastI_snoc]; exact hL.set 0 _, below_set hB _ 0 (Nat.le_refl _) _⟩
    case pstop =>
      rintro D c pre W _ _ h _
      exact h.elim
    case pdone =>
      rintro D xs W5 hD5 hxs ⟨hL, hB5⟩ hK
      obtain ⟨B1, o1, o2, o3, o4, o5⟩ := HO.out
      have hX := HX.out.below hB5 HX.out.lt
      have hA := HA.out.below hB5 HA.out.lt
      have hR := HR.out.below hB5 HR.out.lt
      have hY := HY.out.below hB5 HY.out.lt
      have hlt1 := HR.out.lt
      have hown := own_below o3 hB5
      have hbl5 := hbl3.trans (hB5.mono (by omega))
      obtain ⟨hn, hsec, hpen⟩ := (validB_iff d).1 HV.out
      obtain ⟨n1, n2, n3, n4, n5, n6⟩ := (numsB_iff d).1 hn
      obtain ⟨g, rfl, hgc, hgB⟩ : ∃ g, a1 = some ⟨g, 0, none⟩ ∧ d.S.length ≤ c1 ∧ w.heap.size + 3 ≤ g := by
        rcases own_form o3 with ⟨h, h0⟩ | ⟨g, cap, h, h3, h4⟩
        · omega
        · cases h; exact ⟨g, rfl, h3, h4⟩
      have hg2 : g < w2.heap.size := (o3.lt g rfl).2
      have hg1 : g ≠ w1.heap.size := fun e => HNE.out.1 (by rw [← e]; rfl)
      have HNE2 := Lib.hid HNE.out.1
      obtain ⟨la, hla⟩ : ∃ la, la = lastI xs := ⟨_, rfl⟩
      rw [← hla] at hL
      rw [hxs] at hla
      have HLA := Lib.hid hla; have HSEC := Lib.hid hsec; have HPEN := Lib.hid hpen
      clear o1 o2 o3 o4 o5 hn hsec hpen hla hxs hbd hbk hL4 hb24 hS4
      have x0 : W5.cell? ⟨w.heap.size, 0, none⟩ = some (.slice sa d.S.length sc) := hX.cell 0
      have x1 : W5.cell? ⟨w.heap.size, 1, none⟩ = some (.slice pa d.P.length pc) := hX.cell 1
      have x2 : W5.cell? ⟨w.heap.size, 2, none⟩ = some (.int .i64 d.fuse) := hX.cell 2
      have x3 : W5.cell? ⟨w.heap.size, 3, none⟩ = some (.int .i64 d.ops) := hX.cell 3
      have x4 : W5.cell? ⟨w.heap.size, 4, none⟩ = some (.bool d.dead) := hX.cell 4
      gi_wp2_with fail
      refine ⟨trivial, callsIn_wide.2 ((kept_any _ _ _ _ _ _ _ _ _).mono ?_)⟩
      rintro e w6 ⟨rfl, hw6⟩
      have hb6 : Below W5.heap.size W5 w6 := by rw [← hw6]; exact ((Below.refl _ _).alloc (Nat.le_refl _) _).alloc (by simp) _
      have hsz6 : w6.heap.size = W5.heap.size + 2 := by rw [← hw6]; simp
      have hbd : w6.cell? ⟨W5.heap.size, 1, none⟩ = some (.slice pa d.P.length pc) := by
        have h := ((Bx.new W5 #[.slice sa d.S.length sc, .slice pa d.P.length pc, .int .i64 d.fuse, .int .i64 d.ops, .bool d.dead] 38).alloc (.cells #[.slice ka kb.length kc] 50)).cell 1
        rw [hw6] at h; simpa using h
      have hbk : Bx (W5.heap.size + 1) #[.slice ka kb.length kc] 50 w6 := by
        have h := Bx.new (W5.alloc (.cells #[.slice sa d.S.length sc, .slice pa d.P.length pc, .int .i64 d.fuse, .int .i64 d.ops, .bool d.dead] 38)) #[.slice ka kb.length kc] 50
        rw [hw6] at h; simpa using h
      have hbl6 := hbl5.trans (hb6.mono (hbl5.size))
      have hS6 : BoS w.heap.size w6 (.slice ka kb.length kc) kb := hS.below hbl6
      have hX6 := hX.call hb6
      have hA6 := hA.call hb6
      have hR6 := hR.call hb6
      have hY6 := hY.call hb6
      have hL6 := hL.call hb6
      have hown6 := own_below hown hb6
      have hDlt : D < W5.heap.size := lt_heap hK
      have hK6 := (hb6.block D hDlt).trans hK
      have hs5 : w2.heap.size < W5.heap.size := hL.lt
      clear hw6 hb6 hX hA hR hY hL hown x0 x1 x2 x3 x4 hK hB5
      gi_wp2_with fail
      refine wpIn_rangeFunc_ownF rfl (by omega) (gf := 107) (lb := #[.pointer (some ⟨W5.heap.size, 0, none⟩), .pointer (some ⟨W5.heap.size + 1, 0, none⟩)]) rfl trivial (enters_of Try.func107 (by kernel_rfl) rfl)
        (kept_stops Fence.wide (3 - 1) trivial rfl (by omega) (W5.heap.size) (W5.heap.size + 1) w.heap.size d.P.length hD.2.2.1 kb pa ka pc kc w6 (by omega) (by omega) (by omega) hbd hbk hS6) KpC.trans (kpc_b (by omega) (by omega) (by omega)) (Below.refl _ _) (fun _ => rfl)
        (fun pre W => (Bx w1.heap.size #[.slice (some ⟨g, 0, none⟩) d.S.length c1, .slice a2 d.P.length c2, .int .i64 d.fuse, .int .i64 d.ops, .bool d.dead] 38 W ∧ W.ownsRow (w.heap.size + 3) 9 1 (.slice (some ⟨g, 0, none⟩) d.S.length c1) d.S.length ((foldC d.P d.S la tear pre).map strV)) ∧ (Bx w.heap.size #[.slice sa d.S.length sc, .slice pa d.P.length pc, .int .i64 d.fuse, .int .i64 d.ops, .bool d.dead] 38 W ∧ Bx (w.heap.size + 1) #[.int .i64 tear] 3 W ∧ Bx (w.heap.size + 2) #[.slice none 0 0, .slice none 0 0, .int .i64 0, .int .i64 0, .bool false] 38 W ∧ Bx w2.heap.size #[.int .i64 la] 3 W) ∧ W.heap[D]? = some (.deferred (some [])) ∧ Below w.heap.size w6 W)
        (fun _ _ _ => False)
        (OwnFrom.and (OwnFrom.and (bx_from _ _ _ (fun _ => _)) (row_from _ _ _ _ _ _)) (OwnFrom.and (OwnFrom.and (bx_from _ _ _ (fun _ => _)) (OwnFrom.and (bx_from _ _ _ (fun _ => _)) (OwnFrom.and (bx_from _ _ _ (fun _ => _)) (bx_from _ _ _ (fun _ => _))))) (OwnFrom.and (dfr_from _ _ _ (by omega)) (ownFrom_below (by omega) (by omega)))))
        (fun _ _ _ _ _ hs _ _ => hs)
        ⟨⟨hY6, hown6⟩, ⟨hX6, hA6, hR6, hL6⟩, hK6, Below.refl _ _⟩ ?qa ?qassign ?qbody ?qdone ?qstop
      case qassign =>
        intro l x W K hK
        gi_wp2
        exact hK
      case qstop =>
        rintro D2 c pre W _ _ h _
        exact h.elim
      case qdone =>
        rintro D2 ys W7 hD7 hys ⟨⟨hY, hown⟩, ⟨hX, hA, hR, hL⟩, hKd, hB6⟩ hK2
        have hD2l : D2 < W7.heap.size := lt_heap hK2
        have hDl : D < W7.heap.size := lt_heap hKd
        have hszW := hB6.size
        have hlg : g < W7.heap.size := (hown.lt g rfl).2
        have y0 : W7.cell? ⟨w1.heap.size, 0, none⟩ = some (.slice (some ⟨g, 0, none⟩) d.S.length c1) := hY.cell 0
        have y1 : W7.cell? ⟨w1.heap.size, 1, none⟩ = some (.slice a2 d.P.length c2) := hY.cell 1
        have y2 : W7.cell? ⟨w1.heap.size, 2, none⟩ = some (.int .i64 d.fuse) := hY.cell 2
        have y3 : W7.cell? ⟨w1.heap.size, 3, none⟩ = some (.int .i64 d.ops) := hY.cell 3
        have y4 : W7.cell? ⟨w1.heap.size, 4, none⟩ = some (.bool d.dead) := hY.cell 4
        have fy1 := hY.free 1
        have fy2 := hY.free 2
        have fy4 := hY.free 4
        have hY8 := ((hY.set 1 (.slice none 0 0)).set 4 (.bool false)).set 2 (.int .i64 0)
        have hR8 := ((hR.other (i := 1) (c := w1.heap.size) (by omega) (.slice none 0 0)).other (i := 4) (c := w1.heap.size) (by omega) (.bool false)).other (i := 2) (c := w1.heap.size) (by omega) (.int .i64 0)
        have z0 : (((W7.setCell ⟨w1.heap.size, 1, none⟩ (.slice none 0 0)).setCell ⟨w1.heap.size, 4, none⟩ (.bool false)).setCell ⟨w1.heap.size, 2, none⟩ (.int .i64 0)).cell? ⟨w1.heap.size, 0, none⟩ = some (.slice (some ⟨g, 0, none⟩) d.S.length c1) := hY8.cell 0
        have z1 : (((W7.setCell ⟨w1.heap.size, 1, none⟩ (.slice none 0 0)).setCell ⟨w1.heap.size, 4, none⟩ (.bool false)).setCell ⟨w1.heap.size, 2, none⟩ (.int .i64 0)).cell? ⟨w1.heap.size, 1, none⟩ = some (.slice none 0 0) := hY8.cell 1
        have z2 : (((W7.setCell ⟨w1.heap.size, 1, none⟩ (.slice none 0 0)).setCell ⟨w1.heap.size, 4, none⟩ (.bool false)).setCell ⟨w1.heap.size, 2, none⟩ (.int .i64 0)).cell? ⟨w1.heap.size, 2, none⟩ = some (.int .i64 0) := hY8.cell 2
        have z3 : (((W7.setCell ⟨w1.heap.size, 1, none⟩ (.slice none 0 0)).setCell ⟨w1.heap.size, 4, none⟩ (.bool false)).setCell ⟨w1.heap.size, 2, none⟩ (.int .i64 0)).cell? ⟨w1.heap.size, 3, none⟩ = some (.int .i64 d.ops) := hY8.cell 3
        have z4 : (((W7.setCell ⟨w1.heap.size, 1, none⟩ (.slice none 0 0)).setCell ⟨w1.heap.size, 4, none⟩ (.bool false)).setCell ⟨w1.heap.size, 2, none⟩ (.int .i64 0)).cell? ⟨w1.heap.size, 4, none⟩ = some (.bool false) := hY8.cell 4
        have r0 : (((W7.setCell ⟨w1.heap.size, 1, none⟩ (.slice none 0 0)).setCell ⟨w1.heap.size, 4, none⟩ (.bool false)).setCell ⟨w1.heap.size, 2, none⟩ (.int .i64 0)).cell? ⟨w.heap.size + 2, 0, none⟩ = some (.slice none 0 0) := hR8.cell 0
        have r1 : (((W7.setCell ⟨w1.heap.size, 1, none⟩ (.slice none 0 0)).setCell ⟨w1.heap.size, 4, none⟩ (.bool false)).setCell ⟨w1.heap.size, 2, none⟩ (.int .i64 0)).cell? ⟨w.heap.size + 2, 1, none⟩ = some (.slice none 0 0) := hR8.cell 1
        have r2 : (((W7.setCell ⟨w1.heap.size, 1, none⟩ (.slice none 0 0)).setCell ⟨w1.heap.size, 4, none⟩ (.bool false)).setCell ⟨w1.heap.size, 2, none⟩ (.int .i64 0)).cell? ⟨w.heap.size + 2, 2, none⟩ = some (.int .i64 0) := hR8.cell 2
        have r3 : (((W7.setCell ⟨w1.heap.size, 1, none⟩ (.slice none 0 0)).setCell ⟨w1.heap.size, 4, none⟩ (.bool false)).setCell ⟨w1.heap.size, 2, none⟩ (.int .i64 0)).cell? ⟨w.heap.size + 2, 3, none⟩ = some (.int .i64 0) := hR8.cell 3
        have r4 : (((W7.setCell ⟨w1.heap.size, 1, none⟩ (.slice none 0 0)).setCell ⟨w1.heap.size, 4, none⟩ (.bool false)).setCell ⟨w1.heap.size, 2, none⟩ (.int .i64 0)).cell? ⟨w.heap.size + 2, 4, none⟩ = some (.bool false) := hR8.cell 4
        have h0 := hR8.free 0
        have h1 := hR8.free 1
        have h2 := hR8.free 2
        have h3 := hR8.free 3
        have h4 := hR8.free 4
        have kk := hR8.sets (.slice (some ⟨g, 0, none⟩) d.S.length c1) (.slice none 0 0) (.int .i64 0) (.int .i64 d.ops) (.bool false)
        have hO8 := own_set2 (own_set2 (own_set2 hown w1.heap.size 1 HNE2.out (.slice none 0 0)) w1.heap.size 4 HNE2.out (.bool false)) w1.heap.size 2 HNE2.out (.int .i64 0)
        have hO9 := own_set (own_set (own_set (own_set (own_set hO8 (w.heap.size + 2) 0 (by omega) (.slice (some ⟨g, 0, none⟩) d.S.length c1)) (w.heap.size + 2) 1 (by omega) (.slice none 0 0)) (w.heap.size + 2) 2 (by omega) (.int .i64 0)) (w.heap.size + 2) 3 (by omega) (.int .i64 d.ops)) (w.heap.size + 2) 4 (by omega) (.bool false)
        have hB8 := below_set (below_set (below_set (hbl6.trans hB6) w1.heap.size 1 (by omega) (.slice none 0 0)) w1.heap.size 4 (by omega) (.bool false)) w1.heap.size 2 (by omega) (.int .i64 0)
        have hB9 := below_sets hB8 (w.heap.size + 2) (by omega) (.slice (some ⟨g, 0, none⟩) d.S.length c1) (.slice none 0 0) (.int .i64 0) (.int .i64 d.ops) (.bool false)
        have hne1 : D2 ≠ w1.heap.size := by omega
        have hne2 : D2 ≠ w.heap.size + 2 := by omega
        have hne3 : D ≠ w1.heap.size := by omega
        have hne4 : D ≠ w.heap.size + 2 := by omega
        have hne5 : D ≠ D2 := by omega
        have hK92 : ((((((((W7.setCell ⟨w1.heap.size, 1, none⟩ (.slice none 0 0)).setCell ⟨w1.heap.size, 4, none⟩ (.bool false)).setCell ⟨w1.heap.size, 2, none⟩ (.int .i64 0)).setCell ⟨w.heap.size + 2, 0, none⟩ (.slice (some ⟨g, 0, none⟩) d.S.length c1)).setCell ⟨w.heap.size + 2, 1, none⟩ (.slice none 0 0)).setCell ⟨w.heap.size + 2, 2, none⟩ (.int .i64 0)).setCell ⟨w.heap.size + 2, 3, none⟩ (.int .i64 d.ops)).setCell ⟨w.heap.size + 2, 4, none⟩ (.bool false)).heap[D2]? = some (.deferred (some [])) := by
          rw [heap_setCell_other _ _ D2 _ hne2, heap_setCell_other _ _ D2 _ hne2, heap_setCell_other _ _ D2 _ hne2, heap_setCell_other _ _ D2 _ hne2, heap_setCell_other _ _ D2 _ hne2, heap_setCell_other _ _ D2 _ hne1, heap_setCell_other _ _ D2 _ hne1, heap_setCell_other _ _ D2 _ hne1]; exact hK2
        have hK91 : ((((((((W7.setCell ⟨w1.heap.size, 1, none⟩ (.slice none 0 0)).setCell ⟨w1.heap.size, 4, none⟩ (.bool false)).setCell ⟨w1.heap.size, 2, none⟩ (.int .i64 0)).setCell ⟨w.heap.size + 2, 0, none⟩ (.slice (some ⟨g, 0, none⟩) d.S.length c1)).setCell ⟨w.heap.size + 2, 1, none⟩ (.slice none 0 0)).setCell ⟨w.heap.size + 2, 2, none⟩ (.int .i64 0)).setCell ⟨w.heap.size + 2, 3, none⟩ (.int .i64 d.ops)).setCell ⟨w.heap.size + 2, 4, none⟩ (.bool false)).heap[D]? = some (.deferred (some [])) := by
          rw [heap_setCell_other _ _ D _ hne4, heap_setCell_other _ _ D _ hne4, heap_setCell_other _ _ D _ hne4, heap_setCell_other _ _ D _ hne4, heap_setCell_other _ _ D _ hne4, heap_setCell_other _ _ D _ hne3, heap_setCell_other _ _ D _ hne3, heap_setCell_other _ _ D _ hne3]; exact hKd
        obtain ⟨W9, hW9⟩ : ∃ W9, W9 = ((((((((W7.setCell ⟨w1.heap.size, 1, none⟩ (.slice none 0 0)).setCell ⟨w1.heap.size, 4, none⟩ (.bool false)).setCell ⟨w1.heap.size, 2, none⟩ (.int .i64 0)).setCell ⟨w.heap.size + 2, 0, none⟩ (.slice (some ⟨g, 0, none⟩) d.S.length c1)).setCell ⟨w.heap.size + 2, 1, none⟩ (.slice none 0 0)).setCell ⟨w.heap.size + 2, 2, none⟩ (.int .i64 0)).setCell ⟨w.heap.size + 2, 3, none⟩ (.int .i64 d.ops)).setCell ⟨w.heap.size + 2, 4, none⟩ (.bool false)) := ⟨_, rfl⟩
        rw [← hW9] at kk hO9 hB9 hK92 hK91
        have hK93 : (W9.putObj D2 (.deferred none)).heap[D]? = some (.deferred (some [])) := (World.putObj_heap_other hne5).trans hK91
        have kf : Bx (w.heap.size + 2) #[.slice (some ⟨g, 0, none⟩) d.S.length c1, .slice none 0 0, .int .i64 0, .int .i64 d.ops, .bool false] 38 ((W9.putObj D2 (.deferred none)).putObj D (.deferred none)) := (World.putObj_heap_other (by omega)).trans ((World.putObj_heap_other (by omega)).trans kk)
        have k0 := kf.cell 0
        have k1 := kf.cell 1
        have k2 := kf.cell 2
        have k3 := kf.cell 3
        have k4 := kf.cell 4
        simp only [List.getElem?_toArray, List.getElem?_cons_zero, List.getElem?_cons_succ] at k0 k1 k2 k3 k4
        have hO10 := (row_from (β := Unit) 0 _ _ _ _ (fun _ => _)).putObj (s := ()) (.deferred none) ((row_from (β := Unit) 0 _ _ _ _ (fun _ => _)).putObj (s := ()) (.deferred none) hO9 (Nat.zero_le _) hK92 rfl) (Nat.zero_le _) hK93 rfl
        have hB10 := (hB9.trans (belowK_b (w := w) (Nat.le_refl _) W9 D2 _ (.deferred none) (by omega) hK92 rfl rfl)).trans (belowK_b (w := w) (Nat.le_refl _) _ D _ (.deferred none) (by omega) hK93 rfl rfl)
        have HOF := Lib.hid hO10; have HBF := Lib.hid hB10; have HK2 := Lib.hid hK92; have HK1 := Lib.hid hK93; have HY9 := Lib.hid hys; have HW9 := Lib.hid hW9
        clear hO10 hB10 hK92 hK93 hK91 hY hown hX hA hR hL hKd hB6 hK2 hY8 hR8 kk hO8 hO9 hB8 hB9 kf hys hW9
        gi_wp2
        rw [← HW9.out]
        refine ⟨by simp, .inl ⟨_, _, rfl, run_takeDeferred HK2.out, ⟨by simp, .inl ⟨_, _, rfl, run_takeDeferred HK1.out, ?_⟩⟩⟩⟩
        refine ⟨.agg #[.slice (some ⟨g, 0, none⟩) d.S.length c1, .slice none 0 0, .int .i64 0, .int .i64 d.ops, .bool false], by simp [results, Try.results34, go_sem, k0, k1, k2, k3, k4], ?_⟩
        have hlen := (foldC_inv la tear (fun x hx => (HPEN.out x hx).2.2) HSEC.out ys).1
        rw [HF.out, ← HLA.out, ← HY9.out]
        refine ⟨some ⟨g, 0, none⟩, c1, none, 0, ?_, ?_, HBF.out⟩
        · rw [hlen]; rfl
        · unfold Owned
          dsimp only
          rw [hlen]
          exact ⟨_, by have := HBF.out.size; exact Nat.le_trans this (Nat.le_refl _), fun g2 hg2 => (HOF.out.lt g2 hg2).2, own_mono HOF.out (show w.heap.size ≤ w.heap.size + 3 by omega), World.ownsRow_nil _ _ _ _, Nat.le_refl _⟩
      case qbody =>
        rintro l pre x W ⟨⟨hY, hown⟩, ⟨hX, hA, hR, hL⟩, hKd, hB6⟩ _
        have hB := hbl6.trans hB6
        have hszW := hB6.size
        obtain ⟨bp, op, rfl, p1, p2⟩ := (hD.below hB).pen x.1 x.2
        obtain ⟨q1, q2, q3⟩ := HPEN.out _ (List.getElem_mem x.2)
        obtain ⟨⟨at_, data⟩, hy⟩ : ∃ y, d.P[x.1] = y := ⟨_, rfl⟩
        rw [hy] at p1 p2 q1 q2 q3
        simp only at p1 p2 q1 q2 q3
        obtain ⟨m, rfl⟩ := Int.eq_ofNat_of_zero_le q1
        have hstep := foldC_snoc d.P d.S la tear pre x
        unfold stepC at hstep
        rw [hy] at hstep
        simp only [Int.toNat_natCast] at hstep
        have hinv := foldC_inv la tear (fun x hx => (HPEN.out x hx).2.2) HSEC.out pre
        obtain ⟨S1, hS1⟩ : ∃ S1, S1 = foldC d.P d.S la tear pre := ⟨_, rfl⟩
        rw [← hS1] at hown hstep hinv
        obtain ⟨i1, i2⟩ := hinv
        have hm : m < S1.length := by omega
        have hm64 : S1[m].length = 64 := i2 _ (List.getElem_mem hm)
        have hx2 : (m : Int) < (d.S.length : Int) := q2
        have hm0 : (0 : Int) ≤ (m : Int) := by omega
        have hxl : (x.1 : Int) < (d.P.length : Int) := by have := x.2; omega
        have hownA := hown.alloc (.cells #[.int .i64 m, .string (bs data)] 94)
        have s0 : (W.alloc (.cells #[.int .i64 m, .string (bs data)] 94)).cell? ⟨g, m, none⟩ = some (.string (bs S1[m])) := by
          rw [hownA.cellAt m (by omega), List.getElem?_map, List.getElem?_eq_getElem hm]; rfl
        have f0 := hownA.frozenAt m
        have hYA := hY.alloc (.cells #[.int .i64 m, .string (bs data)] 94)
        have hLA := hL.alloc (.cells #[.int .i64 m, .string (bs data)] 94)
        have hAA := hA.alloc (.cells #[.int .i64 m, .string (bs data)] 94)
        have y0 : (W.alloc (.cells #[.int .i64 m, .string (bs data)] 94)).cell? ⟨w1.heap.size, 0, none⟩ = some (.slice (some ⟨g, 0, none⟩) d.S.length c1) := hYA.cell 0
        have l0 : (W.alloc (.cells #[.int .i64 m, .string (bs data)] 94)).cell? ⟨w2.heap.size, 0, none⟩ = some (.int .i64 la) := hLA.cell 0
        have a0 : (W.alloc (.cells #[.int .i64 m, .string (bs data)] 94)).cell? ⟨w.heap.size + 1, 0, none⟩ = some (.int .i64 tear) := hAA.cell 0
        have x0 : W.cell? ⟨w.heap.size, 0, none⟩ = some (.slice sa d.S.length sc) := hX.cell 0
        have x1 : W.cell? ⟨w.heap.size, 1, none⟩ = some (.slice (some ⟨bp, op, none⟩) d.P.length pc) := hX.cell 1
        have x2 : W.cell? ⟨w.heap.size, 2, none⟩ = some (.int .i64 d.fuse) := hX.cell 2
        have x3 : W.cell? ⟨w.heap.size, 3, none⟩ = some (.int .i64 d.ops) := hX.cell 3
        have x4 : W.cell? ⟨w.heap.size, 4, none⟩ = some (.bool d.dead) := hX.cell 4
        have HST := Lib.hid hstep; have HY1 := Lib.hid hY; have HX1 := Lib.hid hX; have HA1 := Lib.hid hA; have HR1 := Lib.hid hR; have HL1 := Lib.hid hL; have HOW := Lib.hid hown; have HKD := Lib.hid hKd; have HB6 := Lib.hid hB6; have HS1 := Lib.hid hS1; have HM := Lib.hid hm; have HM64 := Lib.hid hm64; have HDL := Lib.hid q3
        have hlg : g < W.heap.size := (hown.lt g rfl).2
        have hlg6 : g < W5.heap.size := by omega
        clear hstep hY hX hA hR hL hown hKd hB6 hB hS1 i1 i2 hm64 q1 q3 hownA hYA hLA hAA hy
        have hxk : (0 : Int) ≤ (x.1 : Int) := by omega
        have hlD : D < W.heap.size := by omega
        by_cases hc1 : (x.1 : Int) = la
        · have t1 : ((x.1 : Int) == la) = true := by rw [beq_iff_eq]; exact hc1
          have HC := Lib.hid hc1; clear hc1
          by_cases hc2 : tear < 1
          · gi_wp2
            refine ⟨(KeepsOthers.setCell _ _ _).trans (KeepsOthers.alloc _ _), ?_, ⟨?_, ?_⟩, ⟨?_, ?_, ?_, ?_⟩, ?_, ?_⟩
            · exact (kpc_set (by omega) (by omega) (by omega) _).trans (kpc_alloc (by simp; omega) (by simp; omega) (by simp; omega) _)
            · exact (HY1.out.other (by omega) _).alloc _
            · have h1 := (HOW.out.stored m (.string (bs data))).1.alloc (.cells #[.int .i64 m, .string (bs data)] 94)
              rw [HST.out, if_neg (by omega), List.map_set]
              exact h1
            · exact (HX1.out.other (by omega) _).alloc _
            · exact (HA1.out.other (by omega) _).alloc _
            · exact (HR1.out.other (by omega) _).alloc _
            · exact (HL1.out.other (by omega) _).alloc _
            · exact (Below.heap_alloc _ _ D (by simp; omega)).trans ((heap_setCell_other _ _ D _ (by simp; omega)).trans HKD.out)
            · exact (below_set HB6.out g m (by omega) _).alloc (by simp; omega) _
          · by_cases hc3 : 64 ≤ tear
            · gi_wp2
              refine ⟨(KeepsOthers.setCell _ _ _).trans (KeepsOthers.alloc _ _), ?_, ⟨?_, ?_⟩, ⟨?_, ?_, ?_, ?_⟩, ?_, ?_⟩
              · exact (kpc_set (by omega) (by omega) (by omega) _).trans (kpc_alloc (by simp; omega) (by simp; omega) (by simp; omega) _)
              · exact (HY1.out.other (by omega) _).alloc _
              · have h1 := (HOW.out.stored m (.string (bs data))).1.alloc (.cells #[.int .i64 m, .string (bs data)] 94)
                rw [HST.out, if_neg (by omega), List.map_set]
                exact h1
              · exact (HX1.out.other (by omega) _).alloc _
              · exact (HA1.out.other (by omega) _).alloc _
              · exact (HR1.out.other (by omega) _).alloc _
              · exact (HL1.out.other (by omega) _).alloc _
              · exact (Below.heap_alloc _ _ D (by simp; omega)).trans ((heap_setCell_other _ _ D _ (by simp; omega)).trans HKD.out)
              · exact (below_set HB6.out g m (by omega) _).alloc (by simp; omega) _
            · obtain ⟨n, rfl⟩ := Int.eq_ofNat_of_zero_le (show 0 ≤ tear by omega)
              have hn1 : (1 : Int) ≤ (n : Int) := by omega
              have hn2 : (n : Int) < 64 := by omega
              have hle1 : n ≤ S1[m].length := by have := HM64.out; omega
              have hle3 : ¬ 9223372036854775807 < S1[m].length := by have := HM64.out; omega
              have hle2 : n ≤ data.length := by have := HDL.out; omega
              gi_wp2
              have hN := Bx.new W #[.int .i64 m, .string (bs data)] 94
              have b0 : (W.alloc (.cells #[.int .i64 m, .string (bs data)] 94)).cell? ⟨W.heap.size, 0, none⟩ = some (.int .i64 m) := hN.cell 0
              have b1 : (W.alloc (.cells #[.int .i64 m, .string (bs data)] 94)).cell? ⟨W.heap.size, 1, none⟩ = some (.string (bs data)) := hN.cell 1
              have b2 := hN.free 1
              have hHeld : (fun w' : World => w'.cell? ⟨w.heap.size + 1, 0, none⟩ = some (.int .i64 n) ∧ w'.cell? ⟨w1.heap.size, 0, none⟩ = some (.slice (some ⟨g, 0, none⟩) d.S.length c1) ∧ w'.cell? ⟨W.heap.size, 0, none⟩ = some (.int .i64 m) ∧ w'.cell? ⟨g, m, none⟩ = some (.string (bs S1[m]))) (W.alloc (.cells #[.int .i64 m, .string (bs data)] 94)).drew := ⟨a0, y0, b0, s0⟩
              refine wpIn_region_any (by kernel_rfl) (calm_region ?_ _ _ _ _ (wpAny_of_held (S := (fun w' : World => w'.cell? ⟨w.heap.size + 1, 0, none⟩ = some (.int .i64 n) ∧ w'.cell? ⟨w1.heap.size, 0, none⟩ = some (.slice (some ⟨g, 0, none⟩) d.S.length c1) ∧ w'.cell? ⟨W.heap.size, 0, none⟩ = some (.int .i64 m) ∧ w'.cell? ⟨g, m, none⟩ = some (.string (bs S1[m])))) _ _ _ _ ?_))
              · intro i o ho
                have hmm := Array.mem_of_getElem? ho
                clear ho
                simp only [List.mem_toArray, List.mem_cons, List.not_mem_nil, or_false] at hmm
                rcases hmm with rfl | rfl | rfl | rfl | rfl | rfl | rfl | rfl | rfl | rfl | rfl | rfl | rfl | rfl | rfl <;> first | exact calm_value (fun c h => by cases h) (fun _ _ => rfl) (fun _ => ⟨_, rfl⟩) | exact calm_unit (fun c h => by cases h) (fun _ _ => rfl) (fun _ => ⟨_, rfl⟩)
              change wpAnyH _ _ _ _ _ _ _ _ (World.drew _)
              refine takeH (i := 0) (v := ?vv1) 43 rfl rfl (by kernel_rfl) (by kernel_rfl) (by kernel_rfl) (fun _ _ _ h => by cases h.1) (Or.inl ⟨by kernel_rfl, ?yy1⟩) (by assumption) ?_
              case yy1 => intro w hSw; (try dsimp only at hSw); go_simp; (try with_reducible rfl)
              simp only [List.setIfInBounds_toArray, List.set_cons_zero, List.set_cons_succ]
              refine takeH (i := 2) (v := ?vv2) 45 rfl rfl (by kernel_rfl) (by kernel_rfl) (by kernel_rfl) (fun _ _ _ h => by cases h.1) (Or.inl ⟨by kernel_rfl, ?yy2⟩) (by assumption) ?_
              case yy2 => intro w hSw; (try dsimp only at hSw); go_simp; (try with_reducible rfl)
              simp only [List.setIfInBounds_toArray, List.set_cons_zero, List.set_cons_succ]
              refine takeH (i := 4) (v := ?vv3) 47 rfl rfl (by kernel_rfl) (by kernel_rfl) (by kernel_rfl) (fun _ _ _ h => by cases h.1) (Or.inl ⟨by kernel_rfl, ?yy3⟩) (by assumption) ?_
              case yy3 => intro w hSw; (try dsimp only at hSw); go_simp; (try with_reducible rfl)
              simp only [List.setIfInBounds_toArray, List.set_cons_zero, List.set_cons_succ]
              refine takeH (i := 5) (v := ?vv4) 48 rfl rfl (by kernel_rfl) (by kernel_rfl) (by kernel_rfl) (fun _ _ _ h => by cases h.1) (Or.inl ⟨by kernel_rfl, ?yy4⟩) (by assumption) ?_
              case yy4 => intro w hSw; (try dsimp only at hSw); go_simp; (try with_reducible rfl)
              simp only [List.setIfInBounds_toArray, List.set_cons_zero, List.set_cons_succ]
              refine takeH (i := 6) (v := ?vv5) 49 rfl rfl (by kernel_rfl) (by kernel_rfl) (by kernel_rfl) (fun _ _ _ h => by cases h.1) (Or.inl ⟨by kernel_rfl, ?yy5⟩) (by assumption) ?_
              case yy5 => intro w hSw; (try dsimp only at hSw); go_simp; (try with_reducible rfl)
              simp only [List.setIfInBounds_toArray, List.set_cons_zero, List.set_cons_succ]
              refine takeH (i := 7) (v := ?vv6) 50 rfl rfl (by kernel_rfl) (by kernel_rfl) (by kernel_rfl) (fun _ _ _ h => by cases h.1) (Or.inl ⟨by kernel_rfl, ?yy6⟩) (by assumption) ?_
              case yy6 => intro w hSw; (try dsimp only at hSw); go_simp; (try with_reducible rfl)
              simp only [List.setIfInBounds_toArray, List.set_cons_zero, List.set_cons_succ]
              refine takeH (i := 8) (v := ?vv7) 51 rfl rfl (by kernel_rfl) (by kernel_rfl) (by kernel_rfl) (fun _ _ _ h => by cases h.1) (Or.inl ⟨by kernel_rfl, ?yy7⟩) (by assumption) ?_
              case yy7 => intro w hSw; (try dsimp only at hSw); go_simp; (try with_reducible rfl)
              simp only [List.setIfInBounds_toArray, List.set_cons_zero, List.set_cons_succ]
              refine takeH (i := 9) (v := ?vv8) 52 rfl rfl (by kernel_rfl) (by kernel_rfl) (by kernel_rfl) (fun _ _ _ h => by cases h.1) (Or.inl ⟨by kernel_rfl, ?yy8⟩) (by assumption) ?_
              case yy8 => intro w hSw; (try dsimp only at hSw); go_simp; (try with_reducible rfl)
              simp only [List.setIfInBounds_toArray, List.set_cons_zero, List.set_cons_succ]
              refine takeH (i := 10) (v := ?vv9) 53 rfl rfl (by kernel_rfl) (by kernel_rfl) (by kernel_rfl) (fun _ _ _ h => by cases h.1) (Or.inl ⟨by kernel_rfl, ?yy9⟩) (by assumption) ?_
              case yy9 => intro w hSw; (try dsimp only at hSw); go_simp; (try with_reducible rfl)
              simp only [List.setIfInBounds_toArray, List.set_cons_zero, List.set_cons_succ]
              refine takeH (i := 11) (v := ?vv10) 54 rfl rfl (by kernel_rfl) (by kernel_rfl) (by kernel_rfl) (fun _ _ _ h => by cases h.1) (Or.inl ⟨by kernel_rfl, ?yy10⟩) (by assumption) ?_
              case yy10 => intro w hSw; (try dsimp only at hSw); go_simp; (try with_reducible rfl)
              simp only [List.setIfInBounds_toArray, List.set_cons_zero, List.set_cons_succ]
              refine wpAnyH_ready (rs := [1]) (by kernel_rfl) (by simp) ?_
              refine AllReadyH.cons rfl (fun K hK => ?_) AllReadyH.nil
              go_simp
              skip
              (try go_wp2_with fail)
              refine hK.out _ _ ?_ (fun hHeld => ?_)
              · exact ⟨a0, y0, b0, s0⟩
              clear hK K
              (try simp only [Act.put, List.setIfInBounds_toArray, List.set_cons_zero, List.set_cons_succ])
              refine takeH (i := 3) (v := ?vv11) 46 rfl rfl (by kernel_rfl) (by kernel_rfl) (by kernel_rfl) (fun _ _ _ h => by cases h.1) (Or.inl ⟨by kernel_rfl, ?yy11⟩) (by assumption) ?_
              case yy11 => intro w hSw; (try dsimp only at hSw); go_simp; (try with_reducible rfl)
              simp only [List.setIfInBounds_toArray, List.set_cons_zero, List.set_cons_succ]
              refine takeH (i := 12) (v := ?vv12) 55 rfl rfl (by kernel_rfl) (by kernel_rfl) (by kernel_rfl) (fun _ _ _ h => by cases h.1) (Or.inl ⟨by kernel_rfl, ?yy12⟩) (by assumption) ?_
              case yy12 => intro w hSw; (try dsimp only at hSw); go_simp; (try with_reducible rfl)
              simp only [List.setIfInBounds_toArray, List.set_cons_zero, List.set_cons_succ]
              refine takeH (i := 13) (v := ?vv13) 56 rfl rfl (by kernel_rfl) (by kernel_rfl) (by kernel_rfl) (fun _ _ _ h => by cases h.1) (Or.inl ⟨by kernel_rfl, ?yy13⟩) (by assumption) ?_
              case yy13 => intro w hSw; (try dsimp only at hSw); go_simp; (try with_reducible rfl)
              simp only [List.setIfInBounds_toArray, List.set_cons_zero, List.set_cons_succ]
              have hNC := Bx.new W #[.int .i64 m, .string (bs (List.take n data ++ List.drop n S1[m]))] 94
              have hOC := (HOW.out.alloc (.cells #[.int .i64 m, .string (bs (List.take n data ++ List.drop n S1[m]))] 94)).drew
              have ca : (W.alloc (.cells #[.int .i64 m, .string (bs (List.take n data ++ List.drop n S1[m]))] 94)).drew.cell? ⟨w.heap.size + 1, 0, none⟩ = some (.int .i64 n) := (HA1.out.alloc _).cell 0
              have cy : (W.alloc (.cells #[.int .i64 m, .string (bs (List.take n data ++ List.drop n S1[m]))] 94)).drew.cell? ⟨w1.heap.size, 0, none⟩ = some (.slice (some ⟨g, 0, none⟩) d.S.length c1) := (HY1.out.alloc _).cell 0
              have cb0 : (W.alloc (.cells #[.int .i64 m, .string (bs (List.take n data ++ List.drop n S1[m]))] 94)).drew.cell? ⟨W.heap.size, 0, none⟩ = some (.int .i64 m) := hNC.cell 0
              have cb1 : (W.alloc (.cells #[.int .i64 m, .string (bs (List.take n data ++ List.drop n S1[m]))] 94)).drew.cell? ⟨W.heap.size, 1, none⟩ = some (.string (bs (List.take n data ++ List.drop n S1[m]))) := hNC.cell 1
              have cs0 : (W.alloc (.cells #[.int .i64 m, .string (bs (List.take n data ++ List.drop n S1[m]))] 94)).drew.cell? ⟨g, m, none⟩ = some (.string (bs S1[m])) := by
                rw [hOC.cellAt m (by have := HM.out; omega), List.getElem?_map, List.getElem?_eq_getElem HM.out]; rfl
              have cf := hOC.frozenAt m
              clear hNC hOC
              refine wpAnyH_ready (rs := [14]) (by kernel_rfl) (by simp) ?_
              refine AllReadyH.cons rfl (fun K hK => ?_) AllReadyH.nil
              go_simp
              skip
              (try go_wp2_with fail)
              refine hK.out _ _ ?_ (fun hHeld => ?_)
              · exact ⟨ca, cy, cb0, cs0⟩
              clear hK K
              (try simp only [Act.put, List.setIfInBounds_toArray, List.set_cons_zero, List.set_cons_succ])
              refine wpAnyH_done (by kernel_rfl) ?_ _
              refine ⟨rfl, ?_⟩
              gi_wp2
              refine ⟨((KeepsOthers.setCell _ _ _).trans (KeepsOthers.alloc _ _)).trans (KeepsOthers.drew _), ?_, ⟨?_, ?_⟩, ⟨?_, ?_, ?_, ?_⟩, ?_, ?_⟩
              · exact ((kpc_set (by omega) (by omega) (by omega) _).trans (kpc_alloc (by simp; omega) (by simp; omega) (by simp; omega) _)).trans ⟨(Below.refl _ _).drew, rfl, rfl⟩
              · exact ((HY1.out.other (by omega) _).alloc _).drew
              · have h1 := ((HOW.out.stored m (.string (bs (List.take n data ++ List.drop n S1[m])))).1.alloc (.cells #[.int .i64 m, .string (bs (List.take n data ++ List.drop n S1[m]))] 94)).drew
                rw [HST.out, if_pos ⟨HC.out, hn1, hn2⟩, List.map_set]
                unfold cutW
                rw [Int.toNat_natCast, List.getD_eq_getElem?_getD, List.getElem?_eq_getElem HM.out, Option.getD_some]
                exact h1
              · exact ((HX1.out.other (by omega) _).alloc _).drew
              · exact ((HA1.out.other (by omega) _).alloc _).drew
              · exact ((HR1.out.other (by omega) _).alloc _).drew
              · exact ((HL1.out.other (by omega) _).alloc _).drew
              · exact (Below.heap_alloc _ _ D (by simp; omega)).trans ((heap_setCell_other _ _ D _ (by simp; omega)).trans HKD.out)
              · exact ((below_set HB6.out g m (by omega) _).alloc (by simp; omega) _).drew
        · have t1 : ((x.1 : Int) == la) = false := by rw [beq_eq_false_iff_ne]; exact hc1
          gi_wp2
          refine ⟨(KeepsOthers.setCell _ _ _).trans (KeepsOthers.alloc _ _), ?_, ⟨?_, ?_⟩, ⟨?_, ?_, ?_, ?_⟩, ?_, ?_⟩
          · exact (kpc_set (by omega) (by omega) (by omega) _).trans (kpc_alloc (by simp; omega) (by simp; omega) (by simp; omega) _)
          · exact (HY1.out.other (by omega) _).alloc _
          · have h1 := (HOW.out.stored m (.string (bs data))).1.alloc (.cells #[.int .i64 m, .string (bs data)] 94)
            rw [HST.out, if_neg (fun h => hc1 h.1), List.map_set]
            exact h1
          · exact (HX1.out.other (by omega) _).alloc _
          · exact (HA1.out.other (by omega) _).alloc _
          · exact (HR1.out.other (by omega) _).alloc _
          · exact (HL1.out.other (by omega) _).alloc _
          · exact (Below.heap_alloc _ _ D (by simp; omega)).trans ((heap_setCell_other _ _ D _ (by simp; omega)).trans HKD.out)
          · exact (below_set HB6.out g m (by omega) _).alloc (by simp; omega) _
end Go.Proofs.Ytkpfkknldeafkaa
