/- Small facts that the other texts of this seat use: strings as lists of bytes, a new row of bytes read as a string, cells below an old heap. No conditions. -/
import Derived.Test.YtkmmdkklpbafdaaGreatDoorRows
import Derived.WalkKit
import Derived.WalkSpells
import Derived.WalkLawsBesides
import Derived.Lib.SlBytesRow
import Derived.Lib.Hide
namespace Go.Proofs.YtkmmdkklpbafdaaGreatDoor
open Go.RowKit

/-- the string of a list of bytes -/
def bs (l : List UInt8) : ByteArray := ⟨l.toArray⟩
theorem bs_toList' (l : List UInt8) : (bs l).toList = l := by rw [ByteArray.toList_eq]; simp [bs]
theorem bs_size (l : List UInt8) : (bs l).size = l.length := by simp [bs, ByteArray.size]
theorem bs_get (l : List UInt8) (j : Nat) (h : j < (bs l).size) : (bs l)[j] = l[j]'(by rw [bs_size] at h; exact h) := rfl
theorem bs_toList (s : ByteArray) : bs s.data.toList = s := by cases s; simp [bs]
theorem toList_bs (l : List UInt8) : (bs l).data.toList = l := by simp [bs]
theorem bs_inj {a b : List UInt8} (h : bs a = bs b) : a = b := by simpa [bs] using h
theorem toList_inj {a b : ByteArray} (h : a.data.toList = b.data.toList) : a = b := by rw [← bs_toList a, ← bs_toList b, h]
theorem len_toList (s : ByteArray) : s.data.toList.length = s.size := by simp
theorem get_toList (s : ByteArray) (k : Nat) (h : k < s.size) : s.data.toList[k]'(by simpa using h) = s[k] := rfl
theorem take_snoc (s : ByteArray) (k : Nat) (h : k < s.size) : s.data.toList.take (k + 1) = s.data.toList.take k ++ [s[k]] := by
  rw [List.take_succ_eq_append_getElem (by simpa using h)]; rfl
theorem take_all (s : ByteArray) {k : Nat} (h : ¬ k < s.size) : s.data.toList.take k = s.data.toList := List.take_of_length_le (by simp; omega)

theorem append_bs (s : ByteArray) (l : List UInt8) : s ++ bs l = bs (s.data.toList ++ l) := by
  apply ByteArray.ext; simp [bs]
theorem bs_append (l r : List UInt8) : bs l ++ bs r = bs (l ++ r) := by
  apply ByteArray.ext; simp [bs]
theorem toList_append (s t : ByteArray) : (s ++ t).data.toList = s.data.toList ++ t.data.toList := by simp
theorem bs_eq_iff (s : ByteArray) (l : List UInt8) : s = bs l ↔ s.data.toList = l := ⟨fun h => by rw [h, toList_bs], fun h => by rw [← h, bs_toList]⟩
theorem extract_bs (s : ByteArray) (a b : Nat) : s.extract a b = bs ((s.data.toList.take b).drop a) := by
  apply toList_inj
  rw [Lib.extract_data, toList_bs, List.drop_take]

theorem bs_extract (l : List UInt8) (a b : Nat) : (bs l).extract a b = bs ((l.take b).drop a) := by rw [extract_bs, toList_bs]
attribute [go_sem] bs_toList' bs_size bs_get bs_append bs_extract
theorem open_bs (s : ByteArray) : ∃ l : List UInt8, s = bs l ∧ s.data.toList = l := ⟨_, (bs_toList s).symm, rfl⟩
theorem ltake_snoc (l : List UInt8) (k : Nat) (h : k < l.length) : l.take (k + 1) = l.take k ++ [l[k]] := List.take_succ_eq_append_getElem h
theorem ltake_all (l : List UInt8) {k : Nat} (h : ¬ k < l.length) : l.take k = l := List.take_of_length_le (by omega)
theorem ret_bs {a b : List UInt8} (h : a = b) : Ending.returned (.string (bs a)) = .returned (.string (bs b)) := by rw [h]
theorem ret_int {k : IntKind} {a b : Int} (h : a = b) : Ending.returned (.int k a) = .returned (.int k b) := by rw [h]
theorem ret_str {a b : ByteArray} (h : a = b) : Ending.returned (.string a) = .returned (.string b) := by rw [h]

theorem bcell {W w1 : World} (hb : Below W.heap.size W w1) : (∀ b o, b < W.heap.size → w1.cell? ⟨b, o, none⟩ = W.cell? ⟨b, o, none⟩) ∧ (∀ b o, b < W.heap.size → w1.frozen? ⟨b, o, none⟩ = W.frozen? ⟨b, o, none⟩) :=
  ⟨fun b o h => hb.cell (p := ⟨b, o, none⟩) h, fun b o h => hb.frozen (p := ⟨b, o, none⟩) h⟩
theorem bsize {W w1 : World} (hb : Below W.heap.size W w1) : W.heap.size ≤ w1.heap.size := hb.size
theorem btrans {B : Nat} {W w1 w2 : World} (h : Below B W w1) (hB : B ≤ w1.heap.size) (h2 : Below w1.heap.size w1 w2) : Below B W w2 := h.trans (h2.mono hB)

set_option maxRecDepth 100000 in
/-- 'string(b)' where b is the whole of a new row of bytes -/
theorem run_str_new {P : Program} (w : World) (C : Array Value) (e src dst : TypeId) (s : ByteArray) (n cap : Nat) (hs : P.underlying src = some (.slice e)) (he : P.underlying e = some (.int .u8)) (hd : P.underlying dst = some .string)
    (hn : s.size = n) (h : ∀ j (hj : j < s.size), C[j]? = some (.int .u8 (s[j].toNat : Int))) :
    (convert src dst (.slice (some ⟨w.heap.size, 0, none⟩) n cap)).run P (w.alloc (.cells C e)) = .ok (.string s) (w.alloc (.cells C e)) := by
  subst hn
  refine Lib.run_convert_whole (P := P) _ src e dst hs he hd w.heap.size 0 s ?_ cap
  intro i hi
  rw [World.cell?_alloc_at _ _ _ _ rfl, Nat.zero_add]
  exact h i hi
/-- a byte out of a number -/
def byt (v : Int) : UInt8 := UInt8.ofNat v.toNat
theorem byt_toNat (v : Int) (h0 : 0 ≤ v) (h1 : v < 256) : ((byt v).toNat : Int) = v := by
  unfold byt; rw [UInt8.toNat_ofNat']; omega
theorem byt_of (b : UInt8) : byt (b.toNat : Int) = b := by unfold byt; simp
set_option maxRecDepth 100000 in
/-- 'string([]byte{v})' -/
theorem run_str_one {P : Program} (w : World) (v : Int) (e src dst : TypeId) (cap : Nat) (hs : P.underlying src = some (.slice e)) (he : P.underlying e = some (.int .u8)) (hd : P.underlying dst = some .string)
    (h0 : 0 ≤ v) (h1 : v < 256) :
    (convert src dst (.slice (some ⟨w.heap.size, 0, none⟩) 1 cap)).run P (w.alloc (.cells #[.int .u8 v] e)) = .ok (.string (bs [byt v])) (w.alloc (.cells #[.int .u8 v] e)) := by
  refine run_str_new w _ e src dst (bs [byt v]) 1 cap hs he hd rfl ?_
  intro j hj
  have hj0 : j = 0 := by rw [bs_size] at hj; simp at hj; exact hj
  subst hj0
  rw [bs_get]
  simp [byt_toNat v h0 h1]
end Go.Proofs.YtkmmdkklpbafdaaGreatDoor
