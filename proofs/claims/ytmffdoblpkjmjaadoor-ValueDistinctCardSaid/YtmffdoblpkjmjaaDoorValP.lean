/- Layer 5 (value) as plain functions on values and lists of bytes. No conditions. -/
import Derived.Test.YtmffdoblpkjmjaaDoorNumLaw
import Derived.Test.YtmffdoblpkjmjaaDoorWireRef
import Derived.Test.YtmffdoblpkjmjaaDoorValBld
namespace Go.Proofs.YtmffdoblpkjmjaaDoor
open Go.RowKit

structure Vl where
  k : Int
  n : Int
  s : List UInt8
deriving DecidableEq
def vV (v : Vl) : Array Value := #[.int .i64 v.k, .int .i64 v.n, .string (bs v.s)]
def v00 : Vl := ⟨0, 0, []⟩
def okc (c : UInt8) : Bool := decide (32 ≤ c.toNat) && decide (c.toNat ≤ 126)
theorem okc_iff (c : UInt8) : okc c = true ↔ 32 ≤ c.toNat ∧ c.toNat ≤ 126 := by unfold okc; simp
theorem okc_lo {c : UInt8} (h : (c.toNat : Int) < 32) : okc c = false := by rw [Bool.eq_false_iff]; intro h2; have := (okc_iff c).1 h2; omega
theorem okc_hi {c : UInt8} (h : (126 : Int) < (c.toNat : Int)) : okc c = false := by rw [Bool.eq_false_iff]; intro h2; have := (okc_iff c).1 h2; omega
def plB (l : List UInt8) : Bool := l.all okc && decide (l.length ≤ 64)
theorem all_bad {l : List UInt8} (k : Nat) (hk : k < l.length) (h : okc l[k] = false) : l.all okc = false := by
  rw [List.all_eq_false]; exact ⟨l[k], List.getElem_mem hk, by rw [h]; simp⟩
theorem plB_bad {l : List UInt8} (k : Nat) (hk : k < l.length) (h : okc l[k] = false) : plB l = false := by unfold plB; rw [all_bad k hk h]; rfl
def vaB (v : Vl) : Bool := if v.k = 0 then decide (v.n = 0) && (v.s == []) else if v.k = 1 then (v.s == []) else if v.k = 2 then decide (v.n = 0) && plB v.s else false
def strV5 (l : List UInt8) : Vl × Int := if plB l = true then (⟨2, 0, l⟩, 0) else (v00, 1)
def intV5 (n : Int) : Vl := ⟨1, n, []⟩
def cmpV (a b : Vl) : Int := if a.k = b.k then (if a.n = b.n then Lib.compareBytes a.s b.s else Lib.compareInt a.n b.n) else Lib.compareInt a.k b.k
def esc (c : UInt8) : List UInt8 := if c = 34 ∨ c = 92 then [92, c] else [c]
def quoS (l : List UInt8) : List UInt8 := 34 :: (l.flatMap esc ++ [34])
def nilT : List UInt8 := [110, 105, 108]
def fmtV (v : Vl) : List UInt8 := if vaB v = true then (if v.k = 0 then nilT else if v.k = 1 then Lib.itoa v.n else quoS v.s) else []
/-- the contents of a string in double quotes, behind the first one; whether it ends with the second one -/
def unq : List UInt8 → List UInt8 → List UInt8 × Bool
  | _, [] => ([], false)
  | acc, c :: r =>
    if c = 34 then (acc, r.isEmpty)
    else if c = 92 then
      match r with
      | [] => ([], false)
      | d :: t => if d = 34 ∨ d = 92 then unq (acc ++ [d]) t else ([], false)
    else if okc c = true then unq (acc ++ [c]) r else ([], false)
def parV (s : List UInt8) : Vl × Int :=
  if s = nilT then (v00, 0)
  else if s.head? = some 34 then
    (if (unq [] s.tail).2 = true then (if 64 < (unq [] s.tail).1.length then (v00, 2) else (⟨2, 0, (unq [] s.tail).1⟩, 0)) else (v00, 5))
  else if (parseS s).2 = 0 then (⟨1, (parseS s).1, []⟩, 0) else (v00, (parseS s).2)
/-- the zigzag number -/
def zig (n : Int) : Nat := if n < 0 then (2 * (-(n + 1)) + 1).toNat else (2 * n).toNat
def zag (u : Nat) : Int := if u % 2 = 1 then -((u / 2 : Nat) : Int) - 1 else ((u / 2 : Nat) : Int)
def textS (s : List UInt8) : List UInt8 := uintS s.length ++ s
def encV (v : Vl) : List UInt8 := if v.k = 1 then uintS 1 ++ uintS (zig v.n) else if v.k = 2 then uintS 2 ++ textS v.s else uintS 0
def takeI (s : List UInt8) (at_ : Int) : Int × Int × Int := if (takeS s at_).2.2 = 0 then (zag (takeS s at_).1, (takeS s at_).2.1, 0) else (0, 0, (takeS s at_).2.2)
def takeT (s : List UInt8) (at_ most : Int) : List UInt8 × Int × Int :=
  if (takeS s at_).2.2 = 0 then
    (if most < 0 ∨ most < ((takeS s at_).1 : Int) then ([], 0, 2)
     else if (s.length : Int) - (takeS s at_).2.1 < ((takeS s at_).1 : Int) then ([], 0, 6)
     else ((s.drop (takeS s at_).2.1.toNat).take (takeS s at_).1, (takeS s at_).2.1 + ((takeS s at_).1 : Int), 0))
  else ([], 0, (takeS s at_).2.2)
def decV (s : List UInt8) (at_ : Int) : Vl × Int × Int :=
  if (takeS s at_).2.2 = 0 then
    (if (takeS s at_).1 = 0 then (v00, (takeS s at_).2.1, 0)
     else if (takeS s at_).1 = 1 then
       (if (takeI s (takeS s at_).2.1).2.2 = 0 then (⟨1, (takeI s (takeS s at_).2.1).1, []⟩, (takeI s (takeS s at_).2.1).2.1, 0) else (v00, 0, (takeI s (takeS s at_).2.1).2.2))
     else if (takeS s at_).1 = 2 then
       (if (takeT s (takeS s at_).2.1 64).2.2 = 0 then
          (if plB (takeT s (takeS s at_).2.1 64).1 = true then (⟨2, 0, (takeT s (takeS s at_).2.1 64).1⟩, (takeT s (takeS s at_).2.1 64).2.1, 0) else (v00, 0, 5))
        else (v00, 0, (takeT s (takeS s at_).2.1 64).2.2))
     else (v00, 0, 5))
  else (v00, 0, (takeS s at_).2.2)
end Go.Proofs.YtmffdoblpkjmjaaDoor
