/- Layer 44 (disk): disks as plain data, what the operations compute, and how a disk lies in memory. No conditions. -/
import Derived.Test.YtkpfkknldeafkaaStrs2
import Derived.Test.YtkpfkknldeafkaaRegion
import Derived.Test.YtkpfkknldeafkaaAppend
namespace Go.Proofs.Ytkpfkknldeafkaa
open Go.RowKit

structure Dk where
  S : List (List UInt8)
  P : List (Int × List UInt8)
  fuse : Int
  ops : Int
  dead : Bool
deriving DecidableEq

def okW (n : Nat) (x : Int × List UInt8) : Bool := decide (0 ≤ x.1) && (decide (x.1 < (n : Int)) && decide (x.2.length = 64))
def len64 (s : List UInt8) : Bool := decide (s.length = 64)
def numsB (d : Dk) : Bool := decide (16 ≤ d.S.length ∧ d.S.length ≤ 1024 ∧ 0 ≤ d.fuse ∧ d.fuse ≤ 1099511627776 ∧ 0 ≤ d.ops ∧ d.ops ≤ 1099511627776)
def validB (d : Dk) : Bool := numsB d && (d.S.all len64 && d.P.all (okW d.S.length))
def hasB (d : Dk) (at_ : Int) : Bool := decide (0 ≤ at_) && decide (at_ < (d.S.length : Int))
theorem okW_iff (n : Nat) (x : Int × List UInt8) : okW n x = true ↔ 0 ≤ x.1 ∧ x.1 < (n : Int) ∧ x.2.length = 64 := by unfold okW; simp
theorem len64_iff (s : List UInt8) : len64 s = true ↔ s.length = 64 := by unfold len64; simp
theorem numsB_iff (d : Dk) : numsB d = true ↔ 16 ≤ d.S.length ∧ d.S.length ≤ 1024 ∧ 0 ≤ d.fuse ∧ d.fuse ≤ 1099511627776 ∧ 0 ≤ d.ops ∧ d.ops ≤ 1099511627776 := by unfold numsB; simp
theorem numsB_no (d : Dk) (h : numsB d = false) : validB d = false := by unfold validB; rw [h]; rfl
theorem validB_iff (d : Dk) : validB d = true ↔ numsB d = true ∧ (∀ s ∈ d.S, s.length = 64) ∧ ∀ x ∈ d.P, 0 ≤ x.1 ∧ x.1 < (d.S.length : Int) ∧ x.2.length = 64 := by
  unfold validB
  rw [Bool.and_eq_true, Bool.and_eq_true, List.all_eq_true, List.all_eq_true]
  simp only [len64_iff, okW_iff]
theorem valid_sec {d : Dk} (k : Nat) (hk : k < d.S.length) (h : d.S[k].length ≠ 64) : validB d = false := by
  rw [Bool.eq_false_iff]
  intro h2
  exact h (((validB_iff d).1 h2).2.1 _ (List.getElem_mem hk))
theorem valid_pen {d : Dk} (k : Nat) (hk : k < d.P.length) (h : ¬ (0 ≤ d.P[k].1 ∧ d.P[k].1 < (d.S.length : Int) ∧ d.P[k].2.length = 64)) : validB d = false := by
  rw [Bool.eq_false_iff]
  intro h2
  exact h (((validB_iff d).1 h2).2.2 _ (List.getElem_mem hk))
theorem valid_all {d : Dk} (hn : numsB d = true) (hs : (d.S.take d.S.length).all len64 = true) (hp : (d.P.take d.P.length).all (okW d.S.length) = true) : validB d = true := by
  rw [List.take_length] at hs hp
  unfold validB
  rw [hn, hs, hp]; rfl

/-- the last write of a sector, or s -/
def lastW (s : List UInt8) (P : List (Int × List UInt8)) (at_ : Int) : List UInt8 := P.foldl (fun s x => if x.1 = at_ then x.2 else s) s
theorem lastW_snoc (s : List UInt8) (P : List (Int × List UInt8)) (x : Int × List UInt8) (at_ : Int) : lastW s (P ++ [x]) at_ = if x.1 = at_ then x.2 else lastW s P at_ := by
  unfold lastW; rw [List.foldl_append]; rfl
def readS (d : Dk) (at_ : Int) : List UInt8 × Int :=
  if validB d = true ∧ hasB d at_ = true then (if d.dead = true then ([], 18) else (lastW (d.S.getD at_.toNat []) d.P at_, 0)) else ([], 1)
def tick (d : Dk) : Dk := { d with ops := min (d.ops + 1) 1099511627776 }
/-- an operation happens: either the fuse blows, or f is done -/
def happenS (d : Dk) (f : Dk → Dk) : Dk × Int :=
  if d.fuse = 1 then ({ d with ops := min (d.ops + 1) 1099511627776, fuse := 0, dead := true }, 18)
  else (f { d with ops := min (d.ops + 1) 1099511627776, fuse := max (d.fuse - 1) 0 }, 0)
def addW (at_ : Int) (data : List UInt8) (d : Dk) : Dk := { d with P := d.P ++ [(at_, data)] }
def perform (S : List (List UInt8)) (P : List (Int × List UInt8)) : List (List UInt8) := P.foldl (fun S x => S.set x.1.toNat x.2) S
def syncD (d : Dk) : Dk := { d with S := perform d.S d.P, P := [] }
def writeS (d : Dk) (at_ : Int) (data : List UInt8) : Dk × Int :=
  if validB d = true ∧ hasB d at_ = true ∧ data.length = 64 then (if d.dead = true then (d, 18) else happenS d (addW at_ data)) else (d, 1)
def syncS (d : Dk) : Dk × Int := if validB d = true then (if d.dead = true then (d, 18) else happenS d syncD) else (d, 1)
def fuseS (d : Dk) (n : Int) : Dk := if validB d = true then { d with fuse := min (max n 0) 1099511627776 } else d
theorem perform_snoc (S : List (List UInt8)) (P : List (Int × List UInt8)) (x : Int × List UInt8) : perform S (P ++ [x]) = (perform S P).set x.1.toNat x.2 := by
  unfold perform; rw [List.foldl_append]; rfl
theorem perform_len (S : List (List UInt8)) (P : List (Int × List UInt8)) : (perform S P).length = S.length := by
  unfold perform
  induction P generalizing S with
  | nil => rfl
  | cons x r ih => rw [List.foldl_cons, ih, List.length_set]

/-! ### in memory -/
theorem lt_heap {W : World} {b : Nat} {o : Obj} (h : W.heap[b]? = some o) : b < W.heap.size := by
  rcases Nat.lt_or_ge b W.heap.size with h1 | h1
  · exact h1
  · rw [Array.getElem?_eq_none h1] at h; cases h
/-- block b holds these cells, and may be written -/
def Bx (b : Nat) (cs : Array Value) (T : TypeId) (W : World) : Prop := W.heap[b]? = some (.cells cs T (0, 0))
theorem Bx.lt {b : Nat} {cs : Array Value} {T : TypeId} {W : World} (h : Bx b cs T W) : b < W.heap.size := lt_heap h
theorem Bx.new (w : World) (cs : Array Value) (T : TypeId) : Bx w.heap.size cs T (w.alloc (.cells cs T)) := heap_alloc_new w _
theorem Bx.below {b B : Nat} {cs : Array Value} {T : TypeId} {W W' : World} (h : Bx b cs T W) (hb : Below B W W') (hB : b < B) : Bx b cs T W' := (hb.block _ hB).trans h
theorem Bx.call {b : Nat} {cs : Array Value} {T : TypeId} {W W' : World} (h : Bx b cs T W) (hb : Below W.heap.size W W') : Bx b cs T W' := h.below hb h.lt
theorem Bx.alloc {b : Nat} {cs : Array Value} {T : TypeId} {W : World} (h : Bx b cs T W) (o : Obj) : Bx b cs T (W.alloc o) := h.call ((Below.refl _ _).alloc (Nat.le_refl _) _)
theorem Bx.drew {b : Nat} {cs : Array Value} {T : TypeId} {W : World} (h : Bx b cs T W) : Bx b cs T W.drew := h
theorem Bx.cell {b : Nat} {cs : Array Value} {T : TypeId} {W : World} (h : Bx b cs T W) (i : Nat) : W.cell? ⟨b, i, none⟩ = cs[i]? := by
  unfold Bx at h; simp [World.cell?, h]
theorem Bx.free {b : Nat} {cs : Array Value} {T : TypeId} {W : World} (h : Bx b cs T W) (i : Nat) : W.frozen? ⟨b, i, none⟩ = false := by
  unfold Bx at h; simp [World.frozen?, h]

/-- v is a slice whose elements are the writes M -/
def WrS (W : World) (v : Value) (M : List (Int × List UInt8)) : Prop :=
  ∃ a cap, v = .slice a M.length cap ∧ M.length ≤ cap ∧ (M ≠ [] → ∃ b off, a = some ⟨b, off, none⟩ ∧ ∀ i (h : i < M.length), W.cell? ⟨b, off + i * 2, none⟩ = some (.int .i64 M[i].1) ∧ W.cell? ⟨b, off + i * 2 + 1, none⟩ = some (strV M[i].2))
set_option maxRecDepth 100000 in
theorem WrS.below {W W' : World} {v : Value} {M : List (Int × List UInt8)} (h : WrS W v M) (hb : Below W.heap.size W W') : WrS W' v M := by
  obtain ⟨a, cap, rfl, hc, hM⟩ := h
  refine ⟨a, cap, rfl, hc, fun hne => ?_⟩
  obtain ⟨b, off, rfl, hcell⟩ := hM hne
  refine ⟨b, off, rfl, fun i hi => ?_⟩
  obtain ⟨h1, h2⟩ := hcell i hi
  constructor
  · rw [(bcell hb).1 _ _ (World.block_lt_of_cell? W _ h1)]; exact h1
  · rw [(bcell hb).1 _ _ (World.block_lt_of_cell? W _ h2)]; exact h2
def dAgg (vs vp : Value) (d : Dk) : Value := .agg #[vs, vp, .int .i64 d.fuse, .int .i64 d.ops, .bool d.dead]
def dArr (vs vp : Value) (d : Dk) : Array Value := #[vs, vp, .int .i64 d.fuse, .int .i64 d.ops, .bool d.dead]
end Go.Proofs.Ytkpfkknldeafkaa
