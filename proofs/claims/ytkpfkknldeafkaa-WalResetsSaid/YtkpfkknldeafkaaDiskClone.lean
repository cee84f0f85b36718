/- What clone, Read and Fuse of layer 44 (disk) return. No conditions but the sizes. -/
import Derived.Test.YtkpfkknldeafkaaDiskOwn
namespace Go.Proofs.Ytkpfkknldeafkaa
open Go.RowKit

/-- the two lists lie in rows of the call's own, one above the other -/
def Owned (B : Nat) (d : Dk) (w : World) (vs vp : Value) : Prop :=
  ∃ B1, B ≤ B1 ∧ (∀ g, vs.ownBlock = some g → g < B1) ∧ w.ownsRow B 9 1 vs d.S.length (d.S.map strV) ∧ w.ownsRow B1 94 2 vp d.P.length (wcs d.P) ∧ B1 ≤ w.heap.size
theorem Owned.set {B : Nat} {d : Dk} {w : World} {vs vp : Value} (h : Owned B d w vs vp) (b i : Nat) (hb : b < B) (u : Value) : Owned B d (w.setCell ⟨b, i, none⟩ u) vs vp := by
  obtain ⟨B1, h1, h2, h3, h4, h5⟩ := h
  exact ⟨B1, h1, h2, own_set h3 b i hb u, own_set h4 b i (by omega) u, by simpa using h5⟩
theorem Owned.call {B : Nat} {d : Dk} {w w' : World} {vs vp : Value} (h : Owned B d w vs vp) (hb : Below w.heap.size w w') : Owned B d w' vs vp := by
  obtain ⟨B1, h1, h2, h3, h4, h5⟩ := h
  exact ⟨B1, h1, h2, own_below h3 hb, own_below h4 hb, Nat.le_trans h5 hb.size⟩
theorem Owned.mono {B B' : Nat} {d : Dk} {w : World} {vs vp : Value} (h : Owned B d w vs vp) (hb : B' ≤ B) : Owned B' d w vs vp := by
  obtain ⟨B1, h1, h2, h3, h4, h5⟩ := h
  exact ⟨B1, by omega, h2, own_mono h3 hb, h4, h5⟩
theorem Owned.lists {B : Nat} {d : Dk} {w : World} {sa pa : Option Addr} {sc pc : Nat} (h : Owned B d w (.slice sa d.S.length sc) (.slice pa d.P.length pc)) (hp : d.P.length ≤ 9000000000000) (hs : d.S.length ≤ 9000000000000) : Lists w sa sc pa pc d := by
  obtain ⟨B1, h1, h2, h3, h4, h5⟩ := h
  exact ⟨StrS.of_own h3, WrS.of_own h4, hp, hs⟩
theorem own_slice {W : World} {B : Nat} {e : TypeId} {k : Nat} {v : Value} {n : Nat} {xs : List Value} (h : W.ownsRow B e k v n xs) : ∃ a c, v = .slice a n c := by
  rcases own_form h with ⟨rfl, h0⟩ | ⟨g, cap, rfl, _, _⟩
  · exact ⟨none, 0, by rw [h0]⟩
  · exact ⟨_, _, rfl⟩

/-- what clone leaves: a disk of the same contents in memory of the call's own -/
def ClonePost (d : Dk) (w : World) (e : Ending) (w' : World) : Prop :=
  ∃ sa sc pa pc, e = .returned (.agg #[.slice sa d.S.length sc, .slice pa d.P.length pc, .int .i64 d.fuse, .int .i64 d.ops, .bool d.dead]) ∧ Owned w.heap.size d w' (.slice sa d.S.length sc) (.slice pa d.P.length pc) ∧ Below w.heap.size w w'

set_option maxRecDepth 100000 in
set_option maxHeartbeats 4000000 in
theorem clone_any (sa pa : Option Addr) (sc pc : Nat) (d : Dk) (w : World) (hD : Lists w sa sc pa pc d) :
    Calls Try.prog 68 #[.agg #[.slice sa d.S.length sc, .slice pa d.P.length pc, .int .i64 d.fuse, .int .i64 d.ops, .bool d.dead]] w (ClonePost d w) := by
  have hb0 := ((Below.refl w.heap.size w).alloc (Nat.le_refl _) (.cells #[.slice sa d.S.length sc, .slice pa d.P.length pc, .int .i64 d.fuse, .int .i64 d.ops, .bool d.dead] 38)).alloc (by simp) (.cells #[.slice none 0 0, .slice none 0 0, .int .i64 0, .int .i64 0, .bool false] 38)
  have hX := (Bx.new w #[.slice sa d.S.length sc, .slice pa d.P.length pc, .int .i64 d.fuse, .int .i64 d.ops, .bool d.dead] 38).alloc (.cells #[.slice none 0 0, .slice none 0 0, .int .i64 0, .int .i64 0, .bool false] 38)
  have hR : Bx (w.heap.size + 1) #[.slice none 0 0, .slice none 0 0, .int .i64 0, .int .i64 0, .bool false] 38 ((w.alloc (.cells #[.slice sa d.S.length sc, .slice pa d.P.length pc, .int .i64 d.fuse, .int .i64 d.ops, .bool d.dead] 38)).alloc (.cells #[.slice none 0 0, .slice none 0 0, .int .i64 0, .int .i64 0, .bool false] 38)) := by
    have := Bx.new (w.alloc (.cells #[.slice sa d.S.length sc, .slice pa d.P.length pc, .int .i64 d.fuse, .int .i64 d.ops, .bool d.dead] 38)) #[.slice none 0 0, .slice none 0 0, .int .i64 0, .int .i64 0, .bool false] 38
    simpa using this
  have hD0 := hD.below hb0
  have HX := Lib.hid hX; clear hX
  have HR := Lib.hid hR; clear hR
  go_enter Try.func68, Try.ntmps68
  go_wp2_with fail
  refine (CloneStr_any _ _ _ hD0.1 hD0.2.2.2).mono ?_
  rintro e w1 ⟨v1, rfl, own1, hb1⟩
  obtain ⟨a1, c1, rfl⟩ := own_slice own1
  have hX := HX.out.call hb1; clear HX
  have hR := HR.out.call hb1; clear HR
  have hbl1 := btrans hb0 hb0.size hb1
  have x0 : w1.cell? ⟨w.heap.size, 0, none⟩ = some (.slice sa d.S.length sc) := hX.cell 0
  have x1 : w1.cell? ⟨w.heap.size, 1, none⟩ = some (.slice pa d.P.length pc) := hX.cell 1
  have f0 := hX.free 0
  have hX2 := hX.set 0 (.slice a1 d.S.length c1)
  have hR2 := hR.other (i := 0) (c := w.heap.size) (by omega) (.slice a1 d.S.length c1)
  have own2 := own_set own1 w.heap.size 0 (by simp; omega) (.slice a1 d.S.length c1)
  have hbl2 := hbl1.setCell (p := ⟨w.heap.size, 0, none⟩) (Nat.le_refl _) (.slice a1 d.S.length c1)
  have hlt1 : ∀ g, (Value.slice a1 d.S.length c1).ownBlock = some g → g < (w1.setCell ⟨w.heap.size, 0, none⟩ (.slice a1 d.S.length c1)).heap.size := fun g hg => (own2.lt g hg).2
  have hz1 : w.heap.size + 2 ≤ w1.heap.size := by have := hb1.size; simpa using this
  have HX := Lib.hid hX2; clear hX hX2
  have HR := Lib.hid hR2; clear hR hR2
  have HLT := Lib.hid hlt1; clear hlt1
  clear own1 hb1
  have hD1 := hD.below hbl2
  go_wp2_with fail
  refine (CloneWr_any _ _ _ hD1.2.1 hD1.2.2.1).mono ?_
  rintro e w2 ⟨v2, rfl, own3, hb2⟩
  obtain ⟨a2, c2, rfl⟩ := own_slice own3
  have hX := HX.out.call hb2; clear HX
  have hR := HR.out.call hb2; clear HR
  have own4 := own_below own2 hb2
  have hbl3 := btrans hbl2 hbl2.size hb2
  have hz2 : w.heap.size + 2 ≤ w2.heap.size := by have := hb2.size; simp at this; omega
  clear x0 x1 f0
  have x0 : w2.cell? ⟨w.heap.size, 0, none⟩ = some (.slice a1 d.S.length c1) := hX.cell 0
  have x1 : w2.cell? ⟨w.heap.size, 1, none⟩ = some (.slice pa d.P.length pc) := hX.cell 1
  have x2 : w2.cell? ⟨w.heap.size, 2, none⟩ = some (.int .i64 d.fuse) := hX.cell 2
  have x3 : w2.cell? ⟨w.heap.size, 3, none⟩ = some (.int .i64 d.ops) := hX.cell 3
  have x4 : w2.cell? ⟨w.heap.size, 4, none⟩ = some (.bool d.dead) := hX.cell 4
  have f1 := hX.free 1
  have r0 : w2.cell? ⟨w.heap.size + 1, 0, none⟩ = some (.slice none 0 0) := hR.cell 0
  have r1 : w2.cell? ⟨w.heap.size + 1, 1, none⟩ = some (.slice none 0 0) := hR.cell 1
  have r2 : w2.cell? ⟨w.heap.size + 1, 2, none⟩ = some (.int .i64 0) := hR.cell 2
  have r3 : w2.cell? ⟨w.heap.size + 1, 3, none⟩ = some (.int .i64 0) := hR.cell 3
  have r4 : w2.cell? ⟨w.heap.size + 1, 4, none⟩ = some (.bool false) := hR.cell 4
  have g0 := hR.free 0
  have g1 := hR.free 1
  have g2 := hR.free 2
  have g3 := hR.free 3
  have g4 := hR.free 4
  have hOw : Owned (w.heap.size + 2) d w2 (.slice a1 d.S.length c1) (.slice a2 d.P.length c2) := by
    refine ⟨_, ?_, HLT.out, own_mono own4 (by simp), own3, hb2.size⟩
    simp; omega
  have HO := Lib.hid hOw
  clear hX hR own2 own3 own4 hb2 hbl1 hbl2 hOw HLT hD0 hD1 hb0 hD
  go_wp2_with fail
  exact bodyPost_ret (v := .agg #[.slice a1 d.S.length c1, .slice a2 d.P.length c2, .int .i64 d.fuse, .int .i64 d.ops, .bool d.dead]) (by simp [results, Try.results68, go_sem, r0, r1, r2, r3, r4]) rfl
    ⟨a1, c1, a2, c2, rfl, ((((((HO.out.set _ 1 (by omega) _).set _ 0 (by omega) _).set _ 1 (by omega) _).set _ 2 (by omega) _).set _ 3 (by omega) _).set _ 4 (by omega) _).mono (by omega),
      (((((hbl3.setCell (Nat.le_refl _) _).setCell (Nat.le_succ _) _).setCell (Nat.le_succ _) _).setCell (Nat.le_succ _) _).setCell (Nat.le_succ _) _).setCell (Nat.le_succ _) _⟩
end Go.Proofs.Ytkpfkknldeafkaa
