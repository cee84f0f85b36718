/- Layer 16 (bytecode) as plain functions. No conditions. -/
import Derived.Test.YtkmmdkklpbafdaaGreatDoorLexP
namespace Go.Proofs.YtkmmdkklpbafdaaGreatDoor
open Go.RowKit

structure Ins where
  op : Int
  a : Int
  b : Int
  n : Int
  s : List UInt8
deriving DecidableEq
structure Cd where
  p : List Int
  sl : Int
  l : List Ins
deriving DecidableEq
def ins0 : Ins := ⟨0, 0, 0, 0, []⟩
def cd0 : Cd := ⟨[], 0, []⟩
def insL (x : Ins) : List Value := [.int .i64 x.op, .int .i64 x.a, .int .i64 x.b, .int .i64 x.n, .string (bs x.s)]
def insV (x : Ins) : Array Value := #[.int .i64 x.op, .int .i64 x.a, .int .i64 x.b, .int .i64 x.n, .string (bs x.s)]
def insLs (L : List Ins) : List Value := L.flatMap insL
def intsL (L : List Int) : List Value := L.map (Value.int .i64)
def OPN : List (List UInt8) := [[105, 110, 116], [115, 116, 114], [108, 111, 97, 100], [115, 116, 111, 114, 101], [111, 112], [106, 117, 109, 112], [102, 97, 108, 115, 101], [112, 117, 116], [100, 101, 108], [101, 109, 105, 116], [97, 98, 111, 114, 116], [108, 111, 111, 112], [101, 110, 100], [116, 105, 99, 107]]
def OPR : List (List UInt8) := [[97, 100, 100], [115, 117, 98], [109, 117, 108], [100, 105, 118], [109, 111, 100], [110, 101, 103], [101, 113], [110, 101], [108, 116], [108, 101], [103, 116], [103, 101], [97, 110, 100], [111, 114], [110, 111, 116], [99, 97, 116], [116, 101, 120, 116], [108, 101, 110], [103, 101, 116, 105, 110, 116], [103, 101, 116, 115, 116, 114], [104, 97, 115]]
def nameS (op : Int) : List UInt8 := if 1 ≤ op ∧ op ≤ 14 then OPN.getD (op - 1).toNat [] else []
def arS (op : Int) : Int := if op < 1 ∨ 27 < op then -1 else if op ≤ 3 ∨ 25 ≤ op then 0 else if op = 9 ∨ op = 18 ∨ 20 ≤ op then 1 else 2
def uA (op : Int) : Bool := (decide (3 ≤ op) && decide (op ≤ 7)) || (decide (op = 11) || decide (op = 12))
def uB (op : Int) : Bool := decide (op = 12)
def uN (op : Int) : Bool := decide (op = 1) || decide (op = 12)
def uS (op : Int) : Bool := decide (op = 2)
def fldS (op : Int) : Int := (if uA op then 1 else 0) + (if uB op then 2 else 0) + (if uN op then 4 else 0) + (if uS op then 8 else 0)
def takeI (x : Ins) : Int := if x.op = 4 ∨ x.op = 7 ∨ x.op = 9 ∨ x.op = 10 then 1 else if x.op = 8 then 2 else if x.op = 5 then arS x.a else 0
def putI (x : Ins) : Int := if x.op = 1 ∨ x.op = 2 ∨ x.op = 3 ∨ x.op = 5 then 1 else 0
def plainS (s : List UInt8) : Bool := s.all okc && decide (s.length ≤ 64)
def unuS (x : Ins) : Bool := (uA x.op || decide (x.a = 0)) && ((uB x.op || decide (x.b = 0)) && ((uN x.op || decide (x.n = 0)) && (uS x.op || decide (x.s = []))))
def inR (v hi : Int) : Bool := decide (0 ≤ v) && decide (v < hi)
/-- an instruction by itself, in code with sl slots and n instructions -/
def insS (sl n : Int) (x : Ins) : Bool :=
  (decide (1 ≤ x.op) && decide (x.op ≤ 14)) && (unuS x &&
  (if x.op = 2 then plainS x.s else if x.op = 3 ∨ x.op = 4 then inR x.a sl else if x.op = 5 then decide (1 ≤ arS x.a) else if x.op = 6 ∨ x.op = 7 then inR x.a n
   else if x.op = 11 then inR x.a 1000 else if x.op = 12 then inR x.a sl && (inR x.b sl && (decide (1 ≤ x.n) && decide (x.n ≤ 16))) else true))
def leaI (x : Ins) : Bool := decide (x.op = 6) || (decide (x.op = 11) || decide (x.op = 13))
def jmpI (x : Ins) : Bool := decide (x.op = 6) || decide (x.op = 7)
/-- the depth behind an instruction -/
def behI (d : Int) (x : Ins) : Int := d + (putI x - takeI x)
def badI (d : Int) (x : Ins) : Bool := decide (64 < behI d x) || (decide (behI d x ≠ 0) && (leaI x || decide (x.op = 7)))
def depG : List Int → Int → List Ins → List Int × Bool
  | acc, _, [] => (acc, true)
  | acc, d, x :: r => if d < takeI x then ([], false) else if badI d x = true then ([], false) else depG (acc ++ [d]) (behI d x) r
def jokS (B : List Int) (x : Ins) : Bool := !jmpI x || decide (B.getD x.a.toNat 1 = 0)
def tyB (t : Int) : Bool := decide (t = 1) || decide (t = 2)
def lastI (l : List Ins) : Ins := l.getLastD ins0
def valC (c : Cd) : Int :=
  if 4096 < c.l.length ∨ 64 < c.sl then 2 else if c.p.all tyB = false then 23 else if c.sl < (c.p.length : Int) ∨ c.l.length = 0 then 23
  else if c.l.all (insS c.sl (c.l.length : Int)) = false then 23 else if (depG [] 0 c.l).2 = false ∨ leaI (lastI c.l) = false then 23
  else if c.l.all (jokS (depG [] 0 c.l).1) = false then 23 else 0
def fldT (x : Ins) : List UInt8 :=
  (if x.op = 5 then 32 :: OPR.getD (x.a - 4).toNat [] else if uA x.op = true then 32 :: Lib.itoa x.a else []) ++ ((if uB x.op = true then 32 :: Lib.itoa x.b else []) ++
  ((if uN x.op = true then 32 :: Lib.itoa x.n else []) ++ (if uS x.op = true then 32 :: (quoL x.s).1 else [])))
def lineT (i : Nat) (x : Ins) : List UInt8 := Lib.itoa (i : Int) ++ (32 :: (nameS x.op ++ fldT x))
def linesT : Nat → List Ins → List UInt8
  | _, [] => []
  | i, x :: r => lineT i x ++ (10 :: linesT (i + 1) r)
def tyT (t : Int) : List UInt8 := if t = 1 then [32, 105, 110, 116] else [32, 115, 116, 114]
def headT (c : Cd) : List UInt8 := [112, 97, 114, 97, 109, 115] ++ (c.p.flatMap tyT ++ ([10, 115, 108, 111, 116, 115, 32] ++ (Lib.itoa c.sl ++ [10])))
def textC (c : Cd) : List UInt8 := headT c ++ linesT 0 c.l
def fmtC (c : Cd) : List UInt8 := if valC c = 0 then textC c else []
/-- the pieces of a text between the bytes x -/
def splX (x : UInt8) : List UInt8 → List (List UInt8)
  | [] => [[]]
  | c :: r => if c = x then [] :: splX x r else match splX x r with
    | [] => [[c]]
    | h :: t => (c :: h) :: t
def parG : List Int → List (List UInt8) → List Int × Bool
  | acc, [] => (acc, true)
  | acc, w :: r => if w = [105, 110, 116] then parG (acc ++ [1]) r else if w = [115, 116, 114] then parG (acc ++ [2]) r else ([], false)
def parP (line : List UInt8) : List Int × Bool := match splX 32 line with
  | [] => ([], false)
  | w :: r => if w = [112, 97, 114, 97, 109, 115] then parG [] r else ([], false)
def litS (s : List UInt8) : List UInt8 × Bool := match tokenS s with
  | ([x], _, e) => if e = 0 ∧ x.k = 4 then (x.t, decide ((quoL x.t).2 = 0) && decide ((quoL x.t).1 = s)) else ([], false)
  | _ => ([], false)
def numG : List Int → List (List UInt8) → List Int × Bool
  | acc, [] => (acc, true)
  | acc, w :: r => if (parseS w).2 = 0 then numG (acc ++ [(parseS w).1]) r else ([], false)
/-- an instruction's numbers, laid into its fields -/
def layN (op : Int) (N : List Int) : Option Ins :=
  match uA op, uB op, uN op, N with
  | false, false, false, [] => some ⟨op, 0, 0, 0, []⟩
  | true, false, false, [a] => some ⟨op, a, 0, 0, []⟩
  | false, false, true, [n] => some ⟨op, 0, 0, n, []⟩
  | true, true, true, [a, b, n] => some ⟨op, a, b, n, []⟩
  | _, _, _, _ => none
def numsI (op : Int) (l : List (List UInt8)) : Option Ins := if (numG [] l).2 = true then layN op (numG [] l).1 else none
def cutX (x : UInt8) : List UInt8 → List UInt8 × List UInt8 × Bool
  | [] => ([], [], false)
  | c :: r => if c = x then ([], r, true) else (c :: (cutX x r).1, (cutX x r).2.1, (cutX x r).2.2)
def insP (i : Nat) (line : List UInt8) : Option Ins :=
  if (Lib.itoa (i : Int) ++ [32]).isPrefixOf line = true then
    let rest := line.drop (Lib.itoa (i : Int) ++ [32]).length
    let q := cutX 32 rest
    let k := OPN.idxOf q.1
    if k < 14 then
      let op : Int := (k : Int) + 1
      if q.2.2 = false then (if fldS op = 0 then some ⟨op, 0, 0, 0, []⟩ else none)
      else if op = 2 then (if (litS q.2.1).2 = true then some ⟨2, 0, 0, 0, (litS q.2.1).1⟩ else none)
      else if op = 5 then (if OPR.idxOf q.2.1 < 21 then some ⟨5, (OPR.idxOf q.2.1 : Int) + 4, 0, 0, []⟩ else none)
      else numsI op (splX 32 q.2.1)
    else none
  else none
/-- the instructions' lines from number i on: what is read, or the number of the first line that is none -/
def linG : List Ins → Nat → List (List UInt8) → List Ins × Option Nat
  | acc, _, [] => (acc, none)
  | acc, i, w :: r => match insP i w with
    | none => ([], some i)
    | some x => linG (acc ++ [x]) (i + 1) r
def chop (L : List (List UInt8)) : List (List UInt8) := if L.getLastD [] = [] then L.dropLast else L
def parL : List (List UInt8) → Cd × Int × Int
  | [] => (cd0, 1, 5)
  | p :: r => if (parP p).2 = false then (cd0, 1, 5) else match r with
    | [] => (cd0, 2, 5)
    | q :: t => if [115, 108, 111, 116, 115, 32].isPrefixOf q = true ∧ (parseS (q.drop 6)).2 = 0 then
        match (linG [] 0 t).2 with
        | some i => (cd0, (i : Int) + 3, 5)
        | none => if valC ⟨(parP p).1, (parseS (q.drop 6)).1, (linG [] 0 t).1⟩ = 0 then (⟨(parP p).1, (parseS (q.drop 6)).1, (linG [] 0 t).1⟩, 0, 0) else (cd0, 0, valC ⟨(parP p).1, (parseS (q.drop 6)).1, (linG [] 0 t).1⟩)
      else (cd0, 2, 5)
def parC (s : List UInt8) : Cd × Int × Int := parL (chop (splX 10 s))
end Go.Proofs.YtkmmdkklpbafdaaGreatDoor
