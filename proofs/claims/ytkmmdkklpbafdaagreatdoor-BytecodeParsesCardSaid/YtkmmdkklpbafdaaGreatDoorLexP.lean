/- Layer 7 (lexer) as plain functions on lists of bytes. No conditions. -/
import Derived.Test.YtkmmdkklpbafdaaGreatDoorNumLaw
import Derived.Test.YtkmmdkklpbafdaaGreatDoorBox
import Derived.Test.YtkmmdkklpbafdaaGreatDoorValBld
import Derived.Test.YtkmmdkklpbafdaaGreatDoorAppend
namespace Go.Proofs.YtkmmdkklpbafdaaGreatDoor
open Go.RowKit

structure Tk where
  k : Int
  t : List UInt8
  n : Int
  ln : Int
deriving DecidableEq
def tkL (x : Tk) : List Value := [.int .i64 x.k, .string (bs x.t), .int .i64 x.n, .int .i64 x.ln]
def tkV (x : Tk) : Array Value := #[.int .i64 x.k, .string (bs x.t), .int .i64 x.n, .int .i64 x.ln]
def tk0 : Tk := ⟨0, [], 0, 0⟩
def okc (c : UInt8) : Bool := decide (32 ≤ c.toNat) && decide (c.toNat ≤ 126)
theorem okc_iff (c : UInt8) : okc c = true ↔ 32 ≤ c.toNat ∧ c.toNat ≤ 126 := by unfold okc; simp
theorem okc_lo {c : UInt8} (h : (c.toNat : Int) < 32) : okc c = false := by rw [Bool.eq_false_iff]; intro h2; have := (okc_iff c).1 h2; omega
theorem okc_hi {c : UInt8} (h : (126 : Int) < (c.toNat : Int)) : okc c = false := by rw [Bool.eq_false_iff]; intro h2; have := (okc_iff c).1 h2; omega
theorem all_bad {l : List UInt8} (k : Nat) (hk : k < l.length) (h : okc l[k] = false) : l.all okc = false := by
  rw [List.all_eq_false]; exact ⟨l[k], List.getElem_mem hk, by rw [h]; simp⟩
def esc (c : UInt8) : List UInt8 := if c = 34 ∨ c = 92 then [92, c] else [c]
def quoS (l : List UInt8) : List UInt8 := 34 :: (l.flatMap esc ++ [34])
def ltr (c : UInt8) : Bool := decide (97 ≤ c.toNat) && decide (c.toNat ≤ 122)
theorem ltr_iff (c : UInt8) : ltr c = true ↔ 97 ≤ c.toNat ∧ c.toNat ≤ 122 := by unfold ltr; simp
def prt (c : UInt8) : Bool := ltr c || (isDig c || c == 95)
set_option maxRecDepth 100000 in
theorem prt_iff (c : UInt8) : prt c = true ↔ (97 ≤ c.toNat ∧ c.toNat ≤ 122) ∨ (48 ≤ c.toNat ∧ c.toNat ≤ 57) ∨ c.toNat = 95 := by
  unfold prt; rw [Bool.or_eq_true, Bool.or_eq_true, ltr_iff, isDig_iff, beq_iff_eq]
  constructor
  · rintro (h | h | h)
    · exact .inl h
    · exact .inr (.inl h)
    · subst h; exact .inr (.inr rfl)
  · rintro (h | h | h)
    · exact .inl h
    · exact .inr (.inl h)
    · exact .inr (.inr (UInt8.toNat_inj.1 h))
/-- the length of the word with which a text begins -/
def wlen (l : List UInt8) : Nat := (l.takeWhile prt).length
def KW : List (List UInt8) := [[112, 114, 111, 99], [108, 101, 116], [112, 117, 116], [100, 101, 108, 101, 116, 101], [105, 102], [101, 108, 115, 101], [102, 111, 114], [116, 111], [109, 97, 120], [101, 109, 105, 116], [97, 98, 111, 114, 116], [110, 111, 116], [97, 110, 100], [111, 114], [105, 110, 116], [115, 116, 114], [98, 111, 111, 108], [116, 101, 120, 116], [108, 101, 110], [103, 101, 116, 105, 110, 116], [103, 101, 116, 115, 116, 114], [104, 97, 115], [110, 111, 119], [114, 97, 110, 100, 111, 109], [110, 111, 100, 101]]
def isKw (l : List UInt8) : Bool := decide (l ∈ KW)
def isNm (l : List UInt8) : Bool := match l with
  | [] => false
  | c :: r => decide ((c :: r).length ≤ 16) && (ltr c && (decide (wlen (c :: r) = (c :: r).length) && !isKw (c :: r)))
def quoL (l : List UInt8) : List UInt8 × Int := if 64 < l.length then ([], 2) else if l.all okc = true then (quoS l, 0) else ([], 1)
def MK : List (List UInt8) := [[61, 61], [33, 61], [60, 61], [62, 61], [43, 43], [40], [41], [123], [125], [44], [59], [58], [61], [60], [62], [43], [45], [42], [47], [37]]
def mkS (l : List UInt8) : List UInt8 := (MK.find? fun m => m.isPrefixOf l).getD []
/-- a literal's bytes behind its first quote, of which the next lies at offset i: the text, the offset behind the literal, the error -/
def lit : List UInt8 → List UInt8 → Nat → List UInt8 × Nat × Int
  | _, [], _ => ([], 0, 6)
  | acc, c :: r, i =>
    if c = 34 then (acc, i + 1, 0)
    else if c = 92 then
      match r with
      | [] => ([], 0, 6)
      | d :: t => if d = 34 ∨ d = 92 then (if acc.length = 64 then ([], 0, 2) else lit (acc ++ [d]) t (i + 2)) else ([], 0, 5)
    else if okc c = true then (if acc.length = 64 then ([], 0, 2) else lit (acc ++ [c]) r (i + 1)) else ([], 0, 5)
def wTok (w : List UInt8) : Tk × Int := match w with
  | [] => (tk0, 5)
  | c :: r => if ltr c = true then (if isKw (c :: r) = true then (⟨2, c :: r, 0, 0⟩, 0) else if isNm (c :: r) = true then (⟨1, c :: r, 0, 0⟩, 0) else (tk0, 2))
    else if (parseS (c :: r)).2 = 0 then (⟨3, [], (parseS (c :: r)).1, 0⟩, 0) else (tk0, (parseS (c :: r)).2)
def tokS (s : List UInt8) : Tk × Nat × Int :=
  if 0 < wlen s then ((wTok (s.take (wlen s))).1, wlen s, (wTok (s.take (wlen s))).2)
  else if s.head? = some 34 then (⟨4, (lit [] (s.drop 1) 1).1, 0, 0⟩, (lit [] (s.drop 1) 1).2.1, (lit [] (s.drop 1) 1).2.2)
  else if mkS s = [] then (tk0, 0, 5) else (⟨5, mkS s, 0, 0⟩, (mkS s).length, 0)
def toks : Nat → List UInt8 → Int → List Tk → List Tk × Int × Int
  | 0, _, _, acc => (acc, 0, 0)
  | _ + 1, [], _, acc => (acc, 0, 0)
  | f + 1, c :: r, ln, acc =>
    if c = 10 then toks f r (ln + 1) acc
    else if c = 32 ∨ c = 9 then toks f r ln acc
    else if c = 35 then toks f (r.dropWhile fun x => x != 10) ln acc
    else if (tokS (c :: r)).2.2 = 0 then toks f ((c :: r).drop (tokS (c :: r)).2.1) ln (acc ++ [⟨(tokS (c :: r)).1.k, (tokS (c :: r)).1.t, (tokS (c :: r)).1.n, ln⟩])
    else ([], ln, (tokS (c :: r)).2.2)
/-- the tokens of a text -/
def tokenS (s : List UInt8) : List Tk × Int × Int := if 16384 < s.length then ([], 0, 2) else toks (s.length + 1) s 1 []
def valT (x : Tk) : Bool :=
  if x.k = 1 then isNm x.t && decide (x.n = 0) else if x.k = 2 then isKw x.t && decide (x.n = 0) else if x.k = 3 then (x.t == []) && decide (0 ≤ x.n)
  else if x.k = 4 then decide (x.t.length ≤ 64) && (x.t.all okc && decide (x.n = 0)) else if x.k = 5 then decide (x.t ∈ MK) && decide (x.n = 0) else false
def txtT (x : Tk) : List UInt8 := if x.k = 3 then Lib.itoa x.n else if x.k = 4 then (quoL x.t).1 else x.t
def catT : List Tk → List UInt8
  | [] => []
  | [x] => txtT x
  | x :: y :: r => txtT x ++ 32 :: catT (y :: r)
def joinT (l : List Tk) : List UInt8 × Int := if l.all valT = true then (if 16384 < (catT l).length then ([], 2) else (catT l, 0)) else ([], 1)
end Go.Proofs.YtkmmdkklpbafdaaGreatDoor
