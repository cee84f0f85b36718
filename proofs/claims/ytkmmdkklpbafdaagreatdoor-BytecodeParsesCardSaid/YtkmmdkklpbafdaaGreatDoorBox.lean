/- A block of cells of the call's own, as a fact on the heap (box): what calls, allocs and stores leave of it. No conditions. -/
import Derived.Test.YtkmmdkklpbafdaaGreatDoorBase
import Derived.Test.YtkmmdkklpbafdaaGreatDoorRegion
import Derived.Outline
import Derived.Deep.Cut
import Derived.Deep.CutRange
import Derived.Deep.DeepCutAuto
import Derived.Deep.RegionLaw
namespace Go.Proofs.YtkmmdkklpbafdaaGreatDoor
open Go.RowKit

theorem lt_heap {W : World} {b : Nat} {o : Obj} (h : W.heap[b]? = some o) : b < W.heap.size := by
  rcases Nat.lt_or_ge b W.heap.size with h1 | h1
  · exact h1
  · rw [Array.getElem?_eq_none h1] at h; cases h
/-- block b holds these cells, and may be written -/
def Bx (b : Nat) (cs : Array Value) (T : TypeId) (W : World) : Prop := W.heap[b]? = some (.cells cs T (0, 0))
theorem Bx.lt {b : Nat} {cs : Array Value} {T : TypeId} {W : World} (h : Bx b cs T W) : b < W.heap.size := lt_heap h
theorem Bx.new (w : World) (cs : Array Value) (T : TypeId) : Bx w.heap.size cs T (w.alloc (.cells cs T)) := heap_alloc_new w _
theorem Bx.below {b B : Nat} {cs : Array Value} {T : TypeId} {W W' : World} (h : Bx b cs T W) (hb : Below B W W') (hB : b < B) : Bx b cs T W' := (hb.block _ hB).trans h
theorem Bx.call {b : Nat} {cs : Array Value} {T : TypeId} {W W' : World} (h : Bx b cs T W) (hb : Below W.heap.size W W') : Bx b cs T W' := h.below hb h.lt
theorem Bx.alloc {b : Nat} {cs : Array Value} {T : TypeId} {W : World} (h : Bx b cs T W) (o : Obj) : Bx b cs T (W.alloc o) := h.call ((Below.refl _ _).alloc (Nat.le_refl _) _)
theorem Bx.drew {b : Nat} {cs : Array Value} {T : TypeId} {W : World} (h : Bx b cs T W) : Bx b cs T W.drew := h
theorem Bx.cell {b : Nat} {cs : Array Value} {T : TypeId} {W : World} (h : Bx b cs T W) (i : Nat) : W.cell? ⟨b, i, none⟩ = cs[i]? := by
  unfold Bx at h; simp [World.cell?, h]
theorem Bx.free {b : Nat} {cs : Array Value} {T : TypeId} {W : World} (h : Bx b cs T W) (i : Nat) : W.frozen? ⟨b, i, none⟩ = false := by
  unfold Bx at h; simp [World.frozen?, h]

/-- v is a slice whose elements are the writes M -/
theorem Bx.set {b : Nat} {cs : Array Value} {T : TypeId} {W : World} (h : Bx b cs T W) (i : Nat) (v : Value) : Bx b (cs.setIfInBounds i v) T (W.setCell ⟨b, i, none⟩ v) :=
  heap_setCell_same W b i cs T v h
theorem Bx.other {b c i : Nat} {cs : Array Value} {T : TypeId} {W : World} (h : Bx b cs T W) (hne : b ≠ c) (v : Value) : Bx b cs T (W.setCell ⟨c, i, none⟩ v) :=
  (heap_setCell_other W ⟨c, i, none⟩ b v (fun e => hne (by simpa using e))).trans h
theorem grown_set (w : World) (a : Addr) (u : Value) : w.grownBy (w.setCell a u) (some a.block) :=
  ⟨rfl, rfl, rfl, by simp, fun k _ hk => heap_setCell_other w a k u (fun e => hk (by rw [e]))⟩
set_option maxRecDepth 100000 in
/-- a row of the call's own stands, whatever is stored below it -/
theorem own_set {B : Nat} {e : TypeId} {k : Nat} {v : Value} {n : Nat} {xs : List Value} {w : World} (h : w.ownsRow B e k v n xs) (b i : Nat) (hb : b < B) (u : Value) : (w.setCell ⟨b, i, none⟩ u).ownsRow B e k v n xs := by
  refine h.kept (grown_set w ⟨b, i, none⟩ u) ?_
  cases hv : v.ownBlock with
  | none => exact .inl rfl
  | some g =>
    refine .inr (fun e => ?_)
    have h2 := (h.lt g hv).1
    have h3 : g = b := by simpa using e
    omega

/-- writes as cells -/
theorem Bx.drewN {b : Nat} {cs : Array Value} {T : TypeId} {W : World} (h : Bx b cs T W) (n : Nat) : Bx b cs T (W.drewN n) := h
theorem bdrewN {B : Nat} {w W : World} (h : Below B w W) (n : Nat) : Below B w (W.drewN n) := h.trans ⟨rfl, rfl, rfl, Nat.le_refl _, fun _ _ => rfl⟩
theorem cell1_below {W W' : World} {b i : Nat} {u : Value} (h : W.cell? ⟨b, i, none⟩ = some u) (hb : Below W.heap.size W W') : W'.cell? ⟨b, i, none⟩ = some u := by
  rw [(bcell hb).1 _ _ (World.block_lt_of_cell? W _ h)]; exact h
theorem cell1_set {W : World} {b i c j : Nat} {u : Value} (v : Value) (h1 : c ≠ b) (h : W.cell? ⟨b, i, none⟩ = some u) : (W.setCell ⟨c, j, none⟩ v).cell? ⟨b, i, none⟩ = some u := by
  rw [World.cell?_setCell_far _ _ _ _ h1]; exact h
theorem Bx.new1 (w : World) (a : Obj) (cs : Array Value) (T : TypeId) : Bx (w.heap.size + 1) cs T ((w.alloc a).alloc (.cells cs T)) := by
  have := Bx.new (w.alloc a) cs T; simpa using this
theorem Bx.new2 (w : World) (a b : Obj) (cs : Array Value) (T : TypeId) : Bx (w.heap.size + 2) cs T (((w.alloc a).alloc b).alloc (.cells cs T)) := by
  have := Bx.new ((w.alloc a).alloc b) cs T; simpa using this

/-- 'append(data[:len(data):len(data)], s...)': a row without spare capacity grows into a new one -/
theorem below_set {B : Nat} {w W : World} (h : Below B w W) (b i : Nat) (hb : B ≤ b) (u : Value) : Below B w (W.setCell ⟨b, i, none⟩ u) := h.setCell hb u
theorem Bx.sets3 {b : Nat} {T : TypeId} {W : World} {z0 z1 z2 : Value} (h : Bx b #[z0, z1, z2] T W) (u0 u1 u2 : Value) :
    Bx b #[u0, u1, u2] T (((W.setCell ⟨b, 0, none⟩ u0).setCell ⟨b, 1, none⟩ u1).setCell ⟨b, 2, none⟩ u2) := by
  have := ((h.set 0 u0).set 1 u1).set 2 u2
  simpa using this
theorem Bx.sets3_ne {b c : Nat} {cs : Array Value} {T : TypeId} {W : World} (h : Bx b cs T W) (hne : b ≠ c) (u0 u1 u2 : Value) :
    Bx b cs T (((W.setCell ⟨c, 0, none⟩ u0).setCell ⟨c, 1, none⟩ u1).setCell ⟨c, 2, none⟩ u2) := ((h.other hne u0).other hne u1).other hne u2
theorem below_sets3 {B : Nat} {w W : World} (h : Below B w W) (b : Nat) (hb : B ≤ b) (u0 u1 u2 : Value) :
    Below B w (((W.setCell ⟨b, 0, none⟩ u0).setCell ⟨b, 1, none⟩ u1).setCell ⟨b, 2, none⟩ u2) := below_set (below_set (below_set h b 0 hb u0) b 1 hb u1) b 2 hb u2
end Go.Proofs.YtkmmdkklpbafdaaGreatDoor
