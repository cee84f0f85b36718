/- What the claim needs of: Base, WireP, SumPlain, CrcWalk, Strs, Bytes, SecPlain, SecWalk, SecOpen, Strs2, Region, Append, DiskP, DiskWalk, DiskOwn, DiskClone, DiskFn, DiskOps, DiskRead, Shelf, DiskNew, DiskKept, Calm. No conditions. -/
import Derived.Test.YtkpfkknldeafkaaRows
import Derived.WalkKit
import Derived.WalkSpells
import Derived.WalkLawsBesides
import Derived.Lib.SlBytesRow
import Derived.Lib.Hide
import Derived.Laws.Bits64
import Derived.Laws.CopyOwn
import Derived.Lib.BufferWrite
import Derived.Deep.RegionLaw
import Derived.Deep.DeepCutAuto
import Derived.ChangeAlike
import Derived.RegionTactic
import Derived.Deep.RegionHeld3
import Derived.Laws.ResultCell
import Derived.RangeFuncNested
import Derived.RangeFuncBound
import Derived.RangeFuncCalls
import Derived.RangeFuncLeaves
import Derived.Shelf.Abstract
import Derived.Shelf.RegionOpen
import Derived.OwnWalkIn
import Derived.TacticsInMore
import Derived.LoopNIn
import Derived.LoopIn
import Derived.Laws.AppendOwnNone
import Derived.Deep.DeepAppendWide
import Derived.Laws.OwnMore
import Derived.Deep.AppendLies
import Derived.Outline
import Derived.Shelf.Bits.Mul64
import Derived.OrdersIn
import Derived.TacticsIn
import Derived.Deep.QuietTactic
import Derived.BigQuiet
import Derived.Deep.Cut
import Derived.Deep.CutRange
import Derived.ProofKit
import Derived.OpenShut
import Derived.Lib.SmallJoins
import Derived.SliceStrings
import Derived.Deep.Slices
import Derived.SizedLaws
import Derived.ArgAppend
import Derived.Lib.AppendStr
import Derived.Tactics
import Derived.Tactics2
import Derived.Defers
import Derived.Recover
import Derived.Laws.Pointers
namespace Go.Proofs.Ytkpfkknldeafkaa
open Go.RowKit

/-- the string of a list of bytes -/
def bs (l : List UInt8) : ByteArray := ⟨l.toArray⟩
theorem bs_toList' (l : List UInt8) : (bs l).toList = l := by rw [ByteArray.toList_eq]; simp [bs]
theorem bs_size (l : List UInt8) : (bs l).size = l.length := by simp [bs, ByteArray.size]
theorem bs_get (l : List UInt8) (j : Nat) (h : j < (bs l).size) : (bs l)[j] = l[j]'(by rw [bs_size] at h; exact h) := rfl
theorem bs_toList (s : ByteArray) : bs s.data.toList = s := by cases s; simp [bs]
theorem toList_bs (l : List UInt8) : (bs l).data.toList = l := by simp [bs]
theorem toList_inj {a b : ByteArray} (h : a.data.toList = b.data.toList) : a = b := by rw [← bs_toList a, ← bs_toList b, h]
theorem bs_append (l r : List UInt8) : bs l ++ bs r = bs (l ++ r) := by
  apply ByteArray.ext; simp [bs]
theorem toList_append (s t : ByteArray) : (s ++ t).data.toList = s.data.toList ++ t.data.toList := by simp
theorem extract_bs (s : ByteArray) (a b : Nat) : s.extract a b = bs ((s.data.toList.take b).drop a) := by
  apply toList_inj
  rw [Lib.extract_data, toList_bs, List.drop_take]

theorem bs_extract (l : List UInt8) (a b : Nat) : (bs l).extract a b = bs ((l.take b).drop a) := by rw [extract_bs, toList_bs]
attribute [go_sem] bs_toList' bs_size bs_get bs_append bs_extract
theorem ltake_snoc (l : List UInt8) (k : Nat) (h : k < l.length) : l.take (k + 1) = l.take k ++ [l[k]] := List.take_succ_eq_append_getElem h
theorem ltake_all (l : List UInt8) {k : Nat} (h : ¬ k < l.length) : l.take k = l := List.take_of_length_le (by omega)
theorem ret_int {k : IntKind} {a b : Int} (h : a = b) : Ending.returned (.int k a) = .returned (.int k b) := by rw [h]
theorem bcell {W w1 : World} (hb : Below W.heap.size W w1) : (∀ b o, b < W.heap.size → w1.cell? ⟨b, o, none⟩ = W.cell? ⟨b, o, none⟩) ∧ (∀ b o, b < W.heap.size → w1.frozen? ⟨b, o, none⟩ = W.frozen? ⟨b, o, none⟩) :=
  ⟨fun b o h => hb.cell (p := ⟨b, o, none⟩) h, fun b o h => hb.frozen (p := ⟨b, o, none⟩) h⟩
theorem btrans {B : Nat} {W w1 w2 : World} (h : Below B W w1) (hB : B ≤ w1.heap.size) (h2 : Below w1.heap.size w1 w2) : Below B W w2 := h.trans (h2.mono hB)

set_option maxRecDepth 100000 in
/-- 'string(b)' where b is the whole of a new row of bytes -/
theorem run_str_new {P : Program} (w : World) (C : Array Value) (e src dst : TypeId) (s : ByteArray) (n cap : Nat) (hs : P.underlying src = some (.slice e)) (he : P.underlying e = some (.int .u8)) (hd : P.underlying dst = some .string)
    (hn : s.size = n) (h : ∀ j (hj : j < s.size), C[j]? = some (.int .u8 (s[j].toNat : Int))) :
    (convert src dst (.slice (some ⟨w.heap.size, 0, none⟩) n cap)).run P (w.alloc (.cells C e)) = .ok (.string s) (w.alloc (.cells C e)) := by
  subst hn
  refine Lib.run_convert_whole (P := P) _ src e dst hs he hd w.heap.size 0 s ?_ cap
  intro i hi
  rw [World.cell?_alloc_at _ _ _ _ rfl, Nat.zero_add]
  exact h i hi
end Go.Proofs.Ytkpfkknldeafkaa
namespace Go.Proofs.Ytkpfkknldeafkaa
open Go.RowKit

/-- the varint of u, with at most k continued bytes -/
def uintF : Nat → Nat → List UInt8
  | 0, u => [UInt8.ofNat u]
  | k + 1, u => if u < 128 then [UInt8.ofNat u] else UInt8.ofNat (u % 128 + 128) :: uintF k (u / 128)
def uintS (u : Nat) : List UInt8 := uintF 9 u
theorem uintF_len (k u : Nat) : 1 ≤ (uintF k u).length ∧ (uintF k u).length ≤ k + 1 := by
  induction k generalizing u with
  | zero => simp [uintF]
  | succ k ih => unfold uintF; split
                 · simp
                 · have := ih (u / 128); simp; omega
set_option maxRecDepth 100000 in
theorem uintF_small (k m u : Nat) (hk : m ≤ k) (h : u < 128 ^ (m + 1)) : (uintF k u).length ≤ m + 1 := by
  induction k generalizing u m with
  | zero => have := (uintF_len 0 u).2; omega
  | succ k ih =>
    unfold uintF; split
    · simp
    · rename_i h128
      cases m with
      | zero => simp at h; omega
      | succ m =>
        have h2 : u / 128 < 128 ^ (m + 1) := by
          rw [Nat.pow_succ] at h
          exact Nat.div_lt_of_lt_mul (by rw [Nat.mul_comm]; exact h)
        have := ih m (u / 128) (by omega) h2
        simp; omega

/-- a varint taken off the bytes r, behind i bytes that gave u: the number, the count of bytes, the error -/
def tkF : Nat → List UInt8 → Nat → Nat → Nat × Nat × Int
  | 0, _, _, _ => (0, 0, 5)
  | _ + 1, [], _, _ => (0, 0, 6)
  | k + 1, c :: r, i, u =>
    if (i = 9 ∧ 1 < c.toNat) ∨ (c.toNat = 0 ∧ 0 < i) then (0, 0, 5)
    else if c.toNat < 128 then (u + c.toNat % 128 * 128 ^ i, i + 1, 0) else tkF k r (i + 1) (u + c.toNat % 128 * 128 ^ i)
def takeS (s : List UInt8) (at_ : Int) : Nat × Int × Int :=
  if 0 ≤ at_ ∧ at_ ≤ (s.length : Int) then
    (if (tkF 10 (s.drop at_.toNat) 0 0).2.2 = 0 then ((tkF 10 (s.drop at_.toNat) 0 0).1, at_ + ((tkF 10 (s.drop at_.toNat) 0 0).2.1 : Int), 0) else (0, 0, (tkF 10 (s.drop at_.toNat) 0 0).2.2))
  else (0, 0, 1)
set_option maxRecDepth 100000 in
theorem tkF_err (k : Nat) (r : List UInt8) (i u : Nat) : (tkF k r i u).2.2 = 0 ∨ ((tkF k r i u).1 = 0 ∧ (tkF k r i u).2.1 = 0 ∧ ((tkF k r i u).2.2 = 5 ∨ (tkF k r i u).2.2 = 6)) := by
  induction k generalizing r i u with
  | zero => right; simp [tkF]
  | succ k ih =>
    cases r with
    | nil => right; simp [tkF]
    | cons c r =>
      unfold tkF
      split
      · right; simp
      · split
        · left; rfl
        · exact ih _ _ _
set_option maxRecDepth 100000 in
theorem tkF_app (k : Nat) (u : Nat) (rest : List UInt8) : ∀ (i v : Nat), i + k = 9 → u < 128 ^ k * 2 → (0 < i → 0 < u) → tkF (k + 1) (uintF k u ++ rest) i v = (v + u * 128 ^ i, i + (uintF k u).length, 0) := by
  induction k generalizing u with
  | zero =>
    intro i v hi hu h0
    obtain rfl : i = 9 := by omega
    have hu2 : u < 2 := by simpa using hu
    have hc : (UInt8.ofNat u).toNat = u := by rw [UInt8.toNat_ofNat']; omega
    simp only [uintF, List.cons_append, List.nil_append, tkF, hc]
    have h1 := h0 (by omega)
    rw [if_neg (by omega), if_pos (by omega)]
    rw [Nat.mod_eq_of_lt (by omega)]; rfl
  | succ k ih =>
    intro i v hi hu h0
    unfold uintF
    split
    · rename_i h128
      have hc : (UInt8.ofNat u).toNat = u := by rw [UInt8.toNat_ofNat']; omega
      simp only [List.cons_append, List.nil_append, tkF, hc]
      rw [if_neg (by omega), if_pos h128, Nat.mod_eq_of_lt h128]; rfl
    · rename_i h128
      have hc : (UInt8.ofNat (u % 128 + 128)).toNat = u % 128 + 128 := by rw [UInt8.toNat_ofNat']; omega
      rw [List.cons_append]
      unfold tkF
      rw [hc, if_neg (by omega), if_neg (by omega)]
      have hq : u / 128 < 128 ^ k * 2 := by
        refine Nat.div_lt_of_lt_mul ?_
        rw [Nat.pow_succ] at hu
        have : 128 * (128 ^ k * 2) = 128 ^ k * 128 * 2 := by rw [Nat.mul_comm (128 ^ k) 128, Nat.mul_assoc]
        omega
      rw [ih (u / 128) (i + 1) _ (by omega) hq (fun _ => by omega)]
      have e1 : (u % 128 + 128) % 128 = u % 128 := by omega
      rw [e1, Nat.pow_succ, List.length_cons]
      have e2 : v + u % 128 * 128 ^ i + u / 128 * (128 ^ i * 128) = v + u * 128 ^ i := by
        have h1 : u * 128 ^ i = (u % 128 + 128 * (u / 128)) * 128 ^ i := by rw [Nat.mod_add_div]
        rw [h1, Nat.add_mul, Nat.add_assoc]
        congr 2
        rw [Nat.mul_comm (128 ^ i) 128, ← Nat.mul_assoc, Nat.mul_comm (u / 128) 128]
      rw [e2]
      simp only [Prod.mk.injEq, true_and, and_true]; omega
set_option maxRecDepth 100000 in
/-- what was encoded is taken -/
theorem take_uint (u : Nat) (hu : u < 18446744073709551616) (pre rest : List UInt8) : takeS (pre ++ (uintS u ++ rest)) (pre.length : Int) = (u, ((pre.length + (uintS u).length : Nat) : Int), 0) := by
  unfold takeS
  have e : (pre ++ (uintS u ++ rest)).drop ((pre.length : Int)).toNat = uintS u ++ rest := by rw [Int.toNat_natCast, List.drop_left']; rfl
  rw [if_pos (by simp; omega), e]
  unfold uintS
  rw [tkF_app 9 u rest 0 0 rfl (by have : (128 : Nat) ^ 9 * 2 = 18446744073709551616 := by decide
                                   omega) (by omega)]
  simp
set_option maxRecDepth 100000 in
/-- what is taken was encoded -/
theorem tkF_inv (k : Nat) : ∀ (r : List UInt8) (i v : Nat), i + k = 9 → (tkF (k + 1) r i v).2.2 = 0 → ∃ u, u < 128 ^ k * 2 ∧ (0 < i → 0 < u) ∧ (tkF (k + 1) r i v).1 = v + u * 128 ^ i ∧ (tkF (k + 1) r i v).2.1 = i + (uintF k u).length ∧ ∃ rest, r = uintF k u ++ rest := by
  induction k with
  | zero =>
    intro r i v hi h
    obtain rfl : i = 9 := by omega
    cases r with
    | nil => simp [tkF] at h
    | cons c r =>
      have hlt := c.toNat_lt
      unfold tkF at h ⊢
      by_cases h1 : (9 = 9 ∧ 1 < c.toNat) ∨ (c.toNat = 0 ∧ 0 < 9)
      · rw [if_pos h1] at h; simp at h
      · rw [if_neg h1] at h ⊢
        rw [if_pos (by omega)]
        refine ⟨c.toNat, by omega, fun _ => by omega, ?_, ?_, r, ?_⟩
        · simp only; rw [Nat.mod_eq_of_lt (by omega)]
        · simp [uintF]
        · simp [uintF]
  | succ k ih =>
    intro r i v hi h
    cases r with
    | nil => simp [tkF] at h
    | cons c r =>
      have hlt := c.toNat_lt
      unfold tkF at h ⊢
      by_cases h1 : (i = 9 ∧ 1 < c.toNat) ∨ (c.toNat = 0 ∧ 0 < i)
      · rw [if_pos h1] at h; simp at h
      · rw [if_neg h1] at h ⊢
        by_cases h2 : c.toNat < 128
        · rw [if_pos h2]
          refine ⟨c.toNat, ?_, fun _ => by omega, ?_, ?_, r, ?_⟩
          · have : 0 < 128 ^ k := Nat.pow_pos (by decide)
            rw [Nat.pow_succ]; omega
          · simp only; rw [Nat.mod_eq_of_lt h2]
          · unfold uintF; rw [if_pos h2]; rfl
          · unfold uintF; rw [if_pos h2]; simp
        · rw [if_neg h2] at h ⊢
          obtain ⟨u, q1, q2, q3, q4, rest, q5⟩ := ih r (i + 1) _ (by omega) h
          have q2' := q2 (by omega)
          refine ⟨u * 128 + c.toNat % 128, ?_, fun _ => by omega, ?_, ?_, rest, ?_⟩
          · rw [Nat.pow_succ]
            have : u * 128 + c.toNat % 128 < (u + 1) * 128 := by omega
            have : (u + 1) * 128 ≤ (128 ^ k * 2) * 128 := Nat.mul_le_mul_right _ q1
            have e : 128 ^ k * 128 * 2 = 128 ^ k * 2 * 128 := by rw [Nat.mul_assoc, Nat.mul_assoc]
            omega
          · rw [q3, Nat.pow_succ, Nat.add_mul, ← Nat.add_assoc, Nat.add_assoc, Nat.add_assoc, Nat.add_comm (c.toNat % 128 * 128 ^ i)]
            congr 2
            rw [Nat.mul_assoc, Nat.mul_comm 128]
          · rw [q4]
            have : ¬ u * 128 + c.toNat % 128 < 128 := by omega
            conv => rhs; unfold uintF
            rw [if_neg this, show (u * 128 + c.toNat % 128) / 128 = u by omega, List.length_cons]; omega
          · have : ¬ u * 128 + c.toNat % 128 < 128 := by omega
            unfold uintF
            rw [if_neg this, show (u * 128 + c.toNat % 128) / 128 = u by omega, show (u * 128 + c.toNat % 128) % 128 + 128 = c.toNat by omega, UInt8.ofNat_toNat, List.cons_append, ← q5]
set_option maxRecDepth 100000 in
theorem take_inv {s : List UInt8} {at_ : Nat} (h : (takeS s at_).2.2 = 0) : ∃ u rest, u < 18446744073709551616 ∧ at_ ≤ s.length ∧ takeS s at_ = (u, ((at_ + (uintS u).length : Nat) : Int), 0) ∧ s.drop at_ = uintS u ++ rest := by
  unfold takeS at h ⊢
  by_cases h1 : (0 : Int) ≤ (at_ : Int) ∧ (at_ : Int) ≤ (s.length : Int)
  · rw [if_pos h1] at h ⊢
    rw [Int.toNat_natCast] at h ⊢
    have h2 : (tkF 10 (s.drop at_) 0 0).2.2 = 0 := by
      split at h
      · assumption
      · exact h
    obtain ⟨u, q1, _, q3, q4, rest, q5⟩ := tkF_inv 9 (s.drop at_) 0 0 rfl h2
    have hb : (128 : Nat) ^ 9 * 2 = 18446744073709551616 := by decide
    refine ⟨u, rest, by omega, by omega, ?_, q5⟩
    rw [if_pos h2, q3, q4]
    simp only [Prod.mk.injEq, and_true]
    refine ⟨by simp, ?_⟩
    show _ = ((at_ + (uintF 9 u).length : Nat) : Int)
    omega
  · rw [if_neg h1] at h; simp at h
set_option maxRecDepth 100000 in
/-- a number that is taken off bytes in front of nothing -/
theorem takeS_bounds (s : List UInt8) (at_ : Int) : (takeS s at_).1 < 18446744073709551616 ∧ 0 ≤ (takeS s at_).2.1 ∧ (takeS s at_).2.1 ≤ (s.length : Int) ∧ 0 ≤ (takeS s at_).2.2 ∧ (takeS s at_).2.2 ≤ 6 ∧ ((takeS s at_).2.2 = 0 → at_ < (takeS s at_).2.1) := by
  by_cases h1 : (0 : Int) ≤ at_ ∧ at_ ≤ (s.length : Int)
  · obtain ⟨n, rfl⟩ : ∃ n : Nat, at_ = n := ⟨at_.toNat, by omega⟩
    by_cases h : (takeS s n).2.2 = 0
    · obtain ⟨u, rest, q1, q2, q3, q4⟩ := take_inv h
      rw [q3]
      have hl : (uintS u).length + rest.length = s.length - n := by rw [← List.length_append, ← q4, List.length_drop]
      have := (uintF_len 9 u).1
      have : 1 ≤ (uintS u).length := this
      refine ⟨q1, ?_, ?_, by simp, by simp, fun _ => ?_⟩ <;> simp only <;> omega
    · unfold takeS at h ⊢
      rw [if_pos h1] at h ⊢
      by_cases h2 : (tkF 10 (s.drop (n : Int).toNat) 0 0).2.2 = 0
      · rw [if_pos h2] at h; simp at h
      · rw [if_neg h2]
        rcases tkF_err 10 (s.drop (n : Int).toNat) 0 0 with e | ⟨_, _, e | e⟩
        · exact absurd e h2
        · rw [e]; simp
        · rw [e]; simp
  · unfold takeS; rw [if_neg h1]; simp
end Go.Proofs.Ytkpfkknldeafkaa
namespace Go.Proofs.Ytkpfkknldeafkaa
open Go.RowKit

/-! ### the hash -/
def extS (h : Nat) (c : UInt8) : Nat := ((h ^^^ c.toNat) * 1099511628211) % 18446744073709551616
def ext (h : Nat) (l : List UInt8) : Nat := l.foldl extS h
attribute [irreducible] extS

/-! ### the checksum -/
def crc1 (c : Nat) : Nat := if c % 2 = 1 then (c / 2) ^^^ 2197175160 else c / 2
def crcN : Nat → Nat → Nat
  | 0, c => c
  | n + 1, c => crcN n (crc1 c)
def crcS (c : Nat) (b : UInt8) : Nat := crcN 8 (c ^^^ b.toNat)
def crcF (c : Nat) (l : List UInt8) : Nat := l.foldl crcS c
def upd (sum : Nat) (l : List UInt8) : Nat := crcF (sum ^^^ 4294967295) l ^^^ 4294967295
def crc (l : List UInt8) : Nat := upd 0 l

theorem crcN_succ (n c : Nat) : crcN (n + 1) c = crc1 (crcN n c) := by
  induction n generalizing c with
  | zero => rfl
  | succ n ih => exact ih (crc1 c)
theorem xor32 {a b : Nat} (ha : a < 4294967296) (hb : b < 4294967296) : a ^^^ b < 4294967296 := by
  have := Nat.xor_lt_two_pow (x := a) (y := b) (n := 32) (by omega) (by omega); omega
theorem crc1_lt {c : Nat} (h : c < 4294967296) : crc1 c < 4294967296 := by
  unfold crc1; split
  · exact xor32 (by omega) (by omega)
  · omega
theorem crcN_lt (n : Nat) {c : Nat} (h : c < 4294967296) : crcN n c < 4294967296 := by
  induction n generalizing c with
  | zero => exact h
  | succ n ih => exact ih (crc1_lt h)
theorem byte32 (b : UInt8) : b.toNat < 4294967296 := by have := b.toNat_lt; omega
theorem crcS_lt {c : Nat} (h : c < 4294967296) (b : UInt8) : crcS c b < 4294967296 := crcN_lt 8 (xor32 h (byte32 b))
theorem crcF_lt {c : Nat} (h : c < 4294967296) (l : List UInt8) : crcF c l < 4294967296 := by
  induction l generalizing c with
  | nil => exact h
  | cons b l ih => exact ih (crcS_lt h b)
theorem crcF_snoc (c : Nat) (l : List UInt8) (b : UInt8) : crcF c (l ++ [b]) = crcS (crcF c l) b := by unfold crcF; rw [List.foldl_append]; rfl
theorem upd_lt {c : Nat} (h : c < 4294967296) (l : List UInt8) : upd c l < 4294967296 := xor32 (crcF_lt (xor32 h (by omega)) l) (by omega)
theorem crc_lt (l : List UInt8) : crc l < 4294967296 := upd_lt (by omega) l
/-! ### bytes, the least significant one first -/
def lit : Nat → Nat → List UInt8
  | _, 0 => []
  | u, n + 1 => UInt8.ofNat u :: lit (u / 256) n
theorem lit_length (u n : Nat) : (lit u n).length = n := by
  induction n generalizing u with
  | zero => rfl
  | succ n ih => simp [lit, ih]
set_option maxRecDepth 100000 in
theorem lit_get (u n j : Nat) (h : j < (lit u n).length) : (lit u n)[j] = UInt8.ofNat (u / 256 ^ j) := by
  induction n generalizing u j with
  | zero => simp [lit] at h
  | succ n ih =>
    cases j with
    | zero => simp [lit]
    | succ j =>
      simp only [lit, List.getElem_cons_succ]
      rw [ih (u / 256) j (by simpa [lit] using h), Nat.div_div_eq_div_mul, Nat.pow_succ, Nat.mul_comm 256]
set_option maxRecDepth 100000 in
theorem lit_inj (n : Nat) {u v : Nat} (hu : u < 256 ^ n) (hv : v < 256 ^ n) (h : lit u n = lit v n) : u = v := by
  induction n generalizing u v with
  | zero => simp at hu hv; omega
  | succ n ih =>
    simp only [lit, List.cons.injEq] at h
    have h0 := congrArg UInt8.toNat h.1
    simp only [UInt8.toNat_ofNat'] at h0
    rw [Nat.pow_succ] at hu hv
    have h1 := ih (u := u / 256) (v := v / 256) (by omega) (by omega) h.2
    omega

/-! ### sealed strings -/
end Go.Proofs.Ytkpfkknldeafkaa
namespace Go.Proofs.Ytkpfkknldeafkaa
open Go.RowKit

set_option maxRecDepth 100000 in
theorem bits_xor_u32_nat (a b : Nat) (ha : a < 4294967296) (hb : b < 4294967296) :
    bits .xor .u32 (a : Int) (b : Int) = ((a ^^^ b : Nat) : Int) := by
  have hx : a ^^^ b < 4294967296 := xor32 ha hb
  have h1 : (BitVec.ofInt 32 (a : Int)).toNat = a := by
    rw [BitVec.ofInt_natCast, BitVec.toNat_ofNat]; exact Nat.mod_eq_of_lt (by omega)
  have h2 : (BitVec.ofInt 32 (b : Int)).toNat = b := by
    rw [BitVec.ofInt_natCast, BitVec.toNat_ofNat]; exact Nat.mod_eq_of_lt (by omega)
  show IntKind.u32.wrap ((BitVec.ofInt 32 (a : Int) ^^^ BitVec.ofInt 32 (b : Int)).toNat : Int) = _
  rw [BitVec.toNat_xor, h1, h2, IntKind.wrap_u32]
  omega
theorem and_one_u32 (c : Nat) (hc : c < 4294967296) : bits .and .u32 (c : Int) 1 = ((c % 2 : Nat) : Int) := by
  have h1 : (BitVec.ofInt 32 (c : Int)).toNat = c := by
    rw [BitVec.ofInt_natCast, BitVec.toNat_ofNat]; exact Nat.mod_eq_of_lt (by omega)
  show IntKind.u32.wrap ((BitVec.ofInt 32 (c : Int) &&& BitVec.ofInt 32 1).toNat : Int) = _
  rw [BitVec.toNat_and, h1, show (BitVec.ofInt 32 1).toNat = 1 from by decide, Nat.and_one_is_mod, IntKind.wrap_u32]
  omega
theorem odd_u32 (c : Nat) (hc : c < 4294967296) (h : c % 2 = 1) : (bits .and .u32 (c : Int) 1 == 1) = true := by rw [and_one_u32 c hc, h]; rfl
theorem even_u32 (c : Nat) (hc : c < 4294967296) (h : ¬ c % 2 = 1) : (bits .and .u32 (c : Int) 1 == 1) = false := by
  rw [and_one_u32 c hc]; rw [beq_eq_false_iff_ne]; omega
theorem xor_ones (c : Nat) (hc : c < 4294967296) : bits .xor .u32 (c : Int) 4294967295 = ((c ^^^ 4294967295 : Nat) : Int) := bits_xor_u32_nat c 4294967295 hc (by decide)
theorem xor_poly (c : Nat) (hc : c < 4294967296) : bits .xor .u32 ((c : Int) / 2) 2197175160 = ((c / 2 ^^^ 2197175160 : Nat) : Int) :=
  bits_xor_u32_nat (c / 2) 2197175160 (by omega) (by decide)
theorem xor_byte (c : Nat) (b : UInt8) (hc : c < 4294967296) : bits .xor .u32 (c : Int) ((b.toNat : Int) % 4294967296) = ((c ^^^ b.toNat : Nat) : Int) := by
  have := b.toNat_lt
  rw [show ((b.toNat : Int) % 4294967296) = ((b.toNat : Nat) : Int) from by omega]
  exact bits_xor_u32_nat c b.toNat hc (by omega)
theorem int_u32 {a b : Int} (h : a = b) : Value.int .u32 a = .int .u32 b := by rw [h]

set_option maxRecDepth 100000 in
set_option maxHeartbeats 800000 in
theorem Update_any (c : Int) (l : List UInt8) (w : World) (hs : l.length ≤ maxLen) (h0 : 0 ≤ c) (h1 : c < 4294967296) :
    Calls Try.prog 122 #[.int .u32 c, .string (bs l)] w fun e w' => e = .returned (.int .u32 (upd c.toNat l : Nat)) ∧ w = w' := by
  unfold maxLen at hs
  have hco : bits .xor .u32 c 4294967295 = ((c.toNat ^^^ 4294967295 : Nat) : Int) := by
    have := xor_ones c.toNat (by omega); rwa [Int.toNat_of_nonneg h0] at this
  have HCO := Lib.hid hco; clear hco
  go_enter Try.func122, Try.ntmps122
  go_wp2
  go_loop [5, 12] (fun hh i => ∃ (k c1 : Nat), k ≤ l.length ∧ i = .int .i64 k ∧ hh = .int .u32 c1 ∧ c1 < 4294967296 ∧ c1 = crcF (c.toNat ^^^ 4294967295) (l.take k)) (fun _ i => l.length - (intOf i).toNat)
  case atStart => exact ⟨0, _, Nat.zero_le _, rfl, int_u32 HCO.out, xor32 (by omega) (by decide), by rw [List.take_zero]; rfl⟩
  case round =>
    obtain ⟨k, c1, hk, rfl, rfl, hc1, he⟩ := hrel
    have HE := Lib.hid he; clear he
    by_cases hlt : k < l.length
    · have HB := Lib.hid (xor_byte c1 l[k] hc1)
      go_wp2
      go_loop [5, 21] (fun hh i => ∃ (j c2 : Nat), j ≤ 8 ∧ i = .int .i64 j ∧ hh = .int .u32 c2 ∧ c2 < 4294967296 ∧ c2 = crcN j (c1 ^^^ l[k].toNat)) (fun _ i => 8 - (intOf i).toNat)
      case atStart => exact ⟨0, _, Nat.zero_le _, rfl, int_u32 HB.out, xor32 hc1 (byte32 _), rfl⟩
      case round =>
        obtain ⟨j, c2, hj, rfl, rfl, hc2, he2⟩ := hrel
        have HE2 := Lib.hid he2; clear he2
        by_cases hjt : j < 8
        · by_cases hodd : c2 % 2 = 1
          · have HX := Lib.hid (xor_poly c2 hc2)
            have ht := odd_u32 c2 hc2 hodd
            go_wp2
            go_round
            case rel => exact ⟨j + 1, _, by omega, by go_num, int_u32 HX.out, xor32 (by omega) (by decide), by rw [crcN_succ, ← HE2.out]; unfold crc1; rw [if_pos hodd]⟩
            case measure => simp [intOf]; omega
          · have ht := even_u32 c2 hc2 hodd
            go_wp2
            go_round
            case rel => exact ⟨j + 1, c2 / 2, by omega, by go_num, by go_num, by omega, by rw [crcN_succ, ← HE2.out]; unfold crc1; rw [if_neg hodd]⟩
            case measure => simp [intOf]; omega
        · go_wp2
          go_round
          case rel =>
            refine ⟨k + 1, c2, by omega, by go_num, rfl, hc2, ?_⟩
            rw [ltake_snoc l k hlt, crcF_snoc, ← HE.out, HE2.out]
            unfold crcS
            rw [show j = 8 by omega]
          case measure => simp [intOf]; omega
    · have HO := Lib.hid (xor_ones c1 hc1)
      go_wp2
      go_ret
      exact ⟨ret_int (by rw [HO.out, HE.out, ltake_all l hlt]; rfl), rfl⟩

set_option maxRecDepth 100000 in
set_option maxHeartbeats 400000 in
theorem CRC_any (l : List UInt8) (w : World) (hs : l.length ≤ maxLen) :
    Calls Try.prog 115 #[.string (bs l)] w fun e w' => e = .returned (.int .u32 (crc l : Nat)) ∧ w = w' := by
  have H := Lib.hid hs; clear hs
  go_enter Try.func115, Try.ntmps115
  go_wp2_with fail
  refine (Update_any _ _ _ H.out (by decide) (by decide)).mono ?_
  rintro e w' ⟨rfl, rfl⟩
  go_wp2
  go_ret
  exact ⟨rfl, rfl⟩

end Go.Proofs.Ytkpfkknldeafkaa
namespace Go.Proofs.Ytkpfkknldeafkaa
open Go.RowKit

theorem Try.info9 : (Try.prog.info? 9).map (fun i => (i.zero, i.size, i.bytes)) = some (some (.string ⟨#[]⟩), 1, 16) := by kernel_rfl
def strV (l : List UInt8) : Value := .string (bs l)
theorem own_below {B : Nat} {e : TypeId} {k : Nat} {v : Value} {n : Nat} {xs : List Value} {w w' : World} (h : w.ownsRow B e k v n xs) (hb : Below w.heap.size w w') : w'.ownsRow B e k v n xs :=
  h.kept (row := none) ⟨hb.os, hb.tape, hb.output, hb.size, fun j hj _ => hb.block j hj⟩ (by cases hv : v.ownBlock <;> simp)
theorem own_mono {w : World} {base base' size n : Nat} {e : TypeId} {v : Value} {xs : List Value} (h : w.ownsRow base e size v n xs) (hb : base' ≤ base) : w.ownsRow base' e size v n xs := by
  refine ⟨h.1, ?_⟩
  rcases h.2 with hn | ⟨g, cap, cur, h1, h2, h3⟩
  · exact .inl hn
  · exact .inr ⟨g, cap, cur, h1, by omega, h3⟩
theorem own_form {w : World} {base size n : Nat} {e : TypeId} {v : Value} {xs : List Value} (h : w.ownsRow base e size v n xs) : (v = .slice none 0 0 ∧ n = 0) ∨ ∃ g cap, v = .slice (some ⟨g, 0, none⟩) n cap ∧ n ≤ cap ∧ base ≤ g := by
  rcases h.2 with hn | ⟨g, cap, cur, h1, h2, h3, h4, _⟩
  · exact .inl hn
  · exact .inr ⟨g, cap, h1, h4, h2⟩

/-- v is a slice whose elements are the strings L -/
def StrS (W : World) (v : Value) (L : List (List UInt8)) : Prop :=
  ∃ a cap, v = .slice a L.length cap ∧ L.length ≤ cap ∧ (L ≠ [] → ∃ b off, a = some ⟨b, off, none⟩ ∧ ∀ i (h : i < L.length), W.cell? ⟨b, off + i, none⟩ = some (strV L[i]))
set_option maxRecDepth 100000 in
theorem StrS.below {W W' : World} {v : Value} {L : List (List UInt8)} (h : StrS W v L) (hb : Below W.heap.size W W') : StrS W' v L := by
  obtain ⟨a, cap, rfl, hc, hL⟩ := h
  refine ⟨a, cap, rfl, hc, fun hne => ?_⟩
  obtain ⟨b, off, rfl, hcell⟩ := hL hne
  refine ⟨b, off, rfl, fun i hi => ?_⟩
  have := hcell i hi
  rw [(bcell hb).1 _ _ (World.block_lt_of_cell? W _ this)]
  exact this
set_option maxRecDepth 100000 in
theorem StrS.of_own {W : World} {B : Nat} {v : Value} {L : List (List UInt8)} (h : W.ownsRow B 9 1 v L.length (L.map strV)) : StrS W v L := by
  rcases own_form h with ⟨rfl, h0⟩ | ⟨g, cap, rfl, hc, _⟩
  · have : L = [] := List.eq_nil_of_length_eq_zero h0
    subst this
    exact ⟨none, 0, rfl, Nat.le_refl _, fun hne => absurd rfl hne⟩
  · refine ⟨_, cap, rfl, hc, fun _ => ⟨g, 0, rfl, fun i hi => ?_⟩⟩
    have := h.cells (g := g) rfl i (strV L[i]) (by simp [hi])
    have e : (⟨g, 0, none⟩ : Addr).add i = ⟨g, 0 + i, none⟩ := by unfold Addr.add; split <;> simp_all
    rw [← e]
    exact this

set_option maxRecDepth 100000 in
/-- 'v = append(v, y)', v a slice of strings of the call's own; the new element lies in a block of its own -/
theorem wpList_append_str {w1 : World} {ops : Array Oper} {rest : List Oper} {o : Oper} {a : Act} {Q : Exit → Act → World → Prop} (hgd : o.guard = none) (s x : Operand)
    (ho : o.op = .call { callee := .builtin .append, args := #[s, x], argTypes := #[35, 35] }) (B : Nat) (v : Value) (L : List (List UInt8)) (y : List UInt8) (hown : w1.ownsRow B 9 1 v L.length (L.map strV))
    (hs : a.eval s = v) (hx : a.eval x = .slice (some ⟨w1.heap.size, 0, none⟩) 1 1) (hlen : L.length ≤ 1000000000000) (W0 : World) (hbel : Below B W0 w1) (hB : B ≤ w1.heap.size)
    (h : ∀ v' w', w'.ownsRow B 9 1 v' (L ++ [y]).length ((L ++ [y]).map strV) → Below B W0 w' → w1.grownBy w' v.ownBlock → wpList Try.prog ops Q rest (a.put o.dst v') w') :
    wpList Try.prog ops Q (o :: rest) a (w1.alloc (.cells #[.string (bs y)] 9)) := by
  obtain ⟨i0, hi, hz0, hz1, hz2⟩ := info_parts Try.info9
  refine wpList_append_own _ hgd s x 35 ho B 9 i0 (.string ⟨#[]⟩) 1 16 Try.underlying35 hi hz0 hz1 hz2 rfl (by decide) v L.length (L.map strV) hs (hown.alloc _) ⟨w1.heap.size, 0, none⟩ 1 1 [strV y] hx rfl ?_ ?_ ?_ ?_ ?_ ?_
  · exact cell_one_new _ _ _
  · intro u hu; simp at hu; subst hu; rfl
  · unfold maxLen; omega
  · omega
  · simp; omega
  · intro v' w2 hown2 hgrow _
    refine h v' w2 (by simpa using hown2) ?_ ?_
    · refine (hbel.alloc hB _).grown hgrow (by simp; omega) ?_
      intro k hk
      exact (hown.lt k hk).1
    · exact ⟨hgrow.os, hgrow.tape, hgrow.output, Nat.le_trans (by simp) hgrow.size, fun k hk hne => (hgrow.block k (by simp; omega) hne).trans ((World.grownBy_alloc w1 (.cells #[.string (bs y)] 9) none).block k hk (by simp))⟩
end Go.Proofs.Ytkpfkknldeafkaa
namespace Go.Proofs.Ytkpfkknldeafkaa
open Go.RowKit

theorem Try.infoByte : (Try.prog.info? 5).map (fun i => (i.zero, i.size, i.bytes)) = some (some (.int .u8 0), 1, 1) := by kernel_rfl
/-- bytes as cells -/
def bcs (L : List UInt8) : List Value := L.map fun b => Value.int .u8 (b.toNat : Int)
theorem bcs_length (L : List UInt8) : (bcs L).length = L.length := by simp [bcs]
theorem bcs_get (L : List UInt8) (j : Nat) : (bcs L)[j]? = L[j]?.map fun b => Value.int .u8 (b.toNat : Int) := by simp [bcs]

set_option maxRecDepth 100000 in
/-- 'v = append(v, c)', v a slice of bytes of the call's own; the new byte lies in a block of its own -/
theorem wpList_append_byte {w1 : World} {ops : Array Oper} {rest : List Oper} {o : Oper} {a : Act} {Q : Exit → Act → World → Prop} (hgd : o.guard = none) (s x : Operand)
    (ho : o.op = .call { callee := .builtin .append, args := #[s, x], argTypes := #[81, 81] }) (B : Nat) (v : Value) (L : List UInt8) (y : UInt8) (hown : w1.ownsRow B 5 1 v L.length (bcs L))
    (hs : a.eval s = v) (hx : a.eval x = .slice (some ⟨w1.heap.size, 0, none⟩) 1 1) (hlen : L.length ≤ 1000000000000) (W0 : World) (hbel : Below B W0 w1) (hB : B ≤ w1.heap.size) (z : Int) (hz : z = (y.toNat : Int))
    (h : ∀ v' w', w'.ownsRow B 5 1 v' (L ++ [y]).length (bcs (L ++ [y])) → Below B W0 w' → w1.grownBy w' v.ownBlock → wpList Try.prog ops Q rest (a.put o.dst v') w') :
    wpList Try.prog ops Q (o :: rest) a (w1.alloc (.cells #[.int .u8 z] 5)) := by
  subst hz
  obtain ⟨i0, hi, hz0, hz1, hz2⟩ := info_parts Try.infoByte
  refine wpList_append_own _ hgd s x 81 ho B 5 i0 (.int .u8 0) 1 1 Try.underlying81 hi hz0 hz1 hz2 rfl (by decide) v L.length (bcs L) hs (hown.alloc _) ⟨w1.heap.size, 0, none⟩ 1 1 [.int .u8 (y.toNat : Int)] hx rfl ?_ ?_ ?_ ?_ ?_ ?_
  · exact cell_one_new _ _ _
  · intro u hu; simp at hu; subst hu; rfl
  · unfold maxLen; omega
  · omega
  · simp; omega
  · intro v' w2 hown2 hgrow _
    refine h v' w2 (by simpa [bcs] using hown2) ?_ ?_
    · refine (hbel.alloc hB _).grown hgrow (by simp; omega) ?_
      intro k hk
      exact (hown.lt k hk).1
    · exact ⟨hgrow.os, hgrow.tape, hgrow.output, Nat.le_trans (by simp) hgrow.size, fun k hk hne => (hgrow.block k (by simp; omega) hne).trans ((World.grownBy_alloc w1 (.cells #[.int .u8 (y.toNat : Int)] 5) none).block k hk (by simp))⟩

set_option maxRecDepth 100000 in
/-- 'string(v)', v a slice of bytes of the call's own -/
theorem own_conv {W : World} {B : Nat} {v : Value} {L : List UInt8} (h : W.ownsRow B 5 1 v L.length (bcs L)) : (convert 81 9 v).run Try.prog W = .ok (.string (bs L)) W := by
  rcases own_form h with ⟨rfl, h0⟩ | ⟨g, cap, rfl, hc, _⟩
  · have : L = [] := List.eq_nil_of_length_eq_zero h0
    subst this
    rw [run_convert_bytes_string (P := Try.prog) W 81 9 5 none 0 0 Try.underlying81 Try.underlying5 Try.underlying9]
    unfold Conv.bytesToString
    simp [Sem.run_pure]
    rfl
  · have hb : Lib.Bytes W g 0 (bs L) := by
      intro i hi
      have hi' : i < L.length := by rw [bs_size] at hi; exact hi
      have := h.cells (g := g) rfl i (.int .u8 (L[i].toNat : Int)) (by rw [bcs_get, List.getElem?_eq_getElem hi']; rfl)
      have e : (⟨g, 0, none⟩ : Addr).add i = ⟨g, 0 + i, none⟩ := by unfold Addr.add; split <;> simp_all
      rw [← e, bs_get]
      exact this
    have := Lib.run_convert_whole (P := Try.prog) W 81 5 9 Try.underlying81 Try.underlying5 Try.underlying9 g 0 (bs L) hb cap
    rwa [bs_size] at this
end Go.Proofs.Ytkpfkknldeafkaa
namespace Go.Proofs.Ytkpfkknldeafkaa
open Go.RowKit

/-! ### bytes, the highest first -/
def be (u n : Nat) : List UInt8 := (lit u n).reverse
theorem be_length (u n : Nat) : (be u n).length = n := by simp [be, lit_length]
attribute [go_sem] lit_length be_length
theorem be_get (u n j : Nat) (h : j < (be u n).length) : (be u n)[j] = UInt8.ofNat (u / 256 ^ (n - 1 - j)) := by
  have hj : j < n := by rw [be_length] at h; exact h
  simp only [be, List.getElem_reverse]
  rw [lit_get]
  simp only [lit_length]
theorem be_inj (n : Nat) {u v : Nat} (hu : u < 256 ^ n) (hv : v < 256 ^ n) (h : be u n = be v n) : u = v :=
  lit_inj n hu hv (List.reverse_inj.1 h)
theorem be_succ (u n : Nat) : be u (n + 1) = be (u / 256) n ++ [UInt8.ofNat u] := by simp [be, lit]

/-- the number of some bytes, the highest first -/
def numS (x : Nat) (c : UInt8) : Nat := x * 256 + c.toNat
def num (l : List UInt8) : Nat := l.foldl numS 0
theorem num_snoc (l : List UInt8) (c : UInt8) : num (l ++ [c]) = num l * 256 + c.toNat := by unfold num; rw [List.foldl_append]; rfl
set_option maxRecDepth 100000 in
theorem num_lt (l : List UInt8) : num l < 256 ^ l.length := by
  induction hn : l.length generalizing l with
  | zero => rw [List.eq_nil_of_length_eq_zero hn]; simp [num]
  | succ n ih =>
    obtain ⟨r, c, rfl⟩ : ∃ r c, l = r ++ [c] := ⟨l.dropLast, l.getLast (by intro h; rw [h] at hn; simp at hn), (List.dropLast_concat_getLast _).symm⟩
    have hr : r.length = n := by simpa using hn
    have := ih r hr
    have hc := c.toNat_lt
    rw [num_snoc, Nat.pow_succ]; omega
set_option maxRecDepth 100000 in
theorem be_num (l : List UInt8) : be (num l) l.length = l := by
  induction hn : l.length generalizing l with
  | zero => rw [List.eq_nil_of_length_eq_zero hn]; rfl
  | succ n ih =>
    obtain ⟨r, c, rfl⟩ : ∃ r c, l = r ++ [c] := ⟨l.dropLast, l.getLast (by intro h; rw [h] at hn; simp at hn), (List.dropLast_concat_getLast _).symm⟩
    have hr : r.length = n := by simpa using hn
    have hc := c.toNat_lt
    rw [num_snoc, be_succ, show (num r * 256 + c.toNat) / 256 = num r by omega, ih r hr]
    congr 2
    apply UInt8.toNat_inj.1
    rw [UInt8.toNat_ofNat']; omega
theorem num_be (u n : Nat) (h : u < 256 ^ n) : num (be u n) = u :=
  be_inj n (by have := num_lt (be u n); rwa [be_length] at this) h (by have := be_num (be u n); rwa [be_length] at this)

/-! ### a row of bytes in memory -/
theorem bcs_splice (L : List UInt8) (o : Nat) (l : List UInt8) : (bcs L).take o ++ bcs l ++ (bcs L).drop (o + l.length) = bcs (splice L o l) := by
  simp [bcs, splice, List.map_take, List.map_drop, List.append_assoc]
theorem byteCells_eq (L : List UInt8) : Lib.byteCells L = bcs L := rfl

/-- block g is a row that holds the bytes L -/
def RowB (W : World) (g : Nat) (T : TypeId) (L : List UInt8) : Prop := W.heap[g]? = some (.cells (bcs L).toArray T (0, 0))
theorem RowB.cell {W : World} {g : Nat} {T : TypeId} {L : List UInt8} (h : RowB W g T L) (j : Nat) (hj : j < L.length) : W.cell? ⟨g, j, none⟩ = some (.int .u8 (L[j].toNat : Int)) := by
  simp [World.cell?, RowB] at h ⊢
  simp [h, bcs, hj]
theorem RowB.frozen {W : World} {g : Nat} {T : TypeId} {L : List UInt8} (h : RowB W g T L) (j : Nat) : W.frozen? ⟨g, j, none⟩ = false := by
  unfold RowB at h
  simp [World.frozen?, h]
theorem RowB.bytes {W : World} {g : Nat} {T : TypeId} {L : List UInt8} (h : RowB W g T L) : Lib.Bytes W g 0 (bs L) := by
  intro i hi
  rw [Nat.zero_add, h.cell i (by rw [bs_size] at hi; exact hi), bs_get]
theorem RowB.lt {W : World} {g : Nat} {T : TypeId} {L : List UInt8} (h : RowB W g T L) : g < W.heap.size := by
  unfold RowB at h
  rcases Nat.lt_or_ge g W.heap.size with h' | h'
  · exact h'
  · rw [Array.getElem?_eq_none h'] at h; cases h
theorem RowB.below {W W' : World} {g B : Nat} {T : TypeId} {L : List UInt8} (h : RowB W g T L) (hb : Below B W W') (hg : g < B) : RowB W' g T L := by
  unfold RowB at h ⊢; rw [hb.block g hg]; exact h
theorem RowB.drew {W : World} {g : Nat} {T : TypeId} {L : List UInt8} (h : RowB W g T L) : RowB W.drew g T L := h
theorem RowB.store {W : World} {g : Nat} {T : TypeId} {L : List UInt8} (h : RowB W g T L) (j : Nat) (b : UInt8) : RowB (W.setCell ⟨g, j, none⟩ (.int .u8 (b.toNat : Int))) g T (L.set j b) := by
  unfold RowB at h ⊢
  rw [Lib.heap_setCell_same h]
  simp [bcs, List.map_set]
set_option maxRecDepth 100000 in
/-- 'string(b[j:j+n])' of a row of bytes -/
theorem RowB.conv {P : Program} {W : World} {g : Nat} {T : TypeId} {L : List UInt8} (h : RowB W g T L) (src e dst : TypeId) (hs : P.underlying src = some (.slice e)) (he : P.underlying e = some (.int .u8)) (hd : P.underlying dst = some .string)
    (j n cap : Nat) (hj : j + n ≤ L.length) : (convert src dst (.slice (some ⟨g, j, none⟩) n cap)).run P W = .ok (.string (bs ((L.drop j).take n))) W := by
  have := Lib.run_convert_window (P := P) W src e dst hs he hd g 0 (bs L) h.bytes j n cap (by rw [bs_size]; exact hj)
  rw [Nat.zero_add] at this
  rw [this, bs_extract, List.drop_take, show j + n - j = n by omega]

set_option maxRecDepth 100000 in
/-- 'copy(b[o:..], s)': one step of a region that draws its order, and of one that does not -/
theorem step_copy_bytes {P : Program} {ops : Array Oper} {o : Oper} {a : Act} {w : World} {K : Act → World → Prop} {Q : Exit → Act → World → Prop} {E : Prop} (hgd : o.guard = none) (d s : Operand) (dT sT : TypeId)
    (ho : o.op = .call { callee := .builtin .copy, args := #[d, s], argTypes := #[dT, sT] }) (elem : TypeId) (hu : P.underlying dT = some (.slice elem)) (hsz : (P.info? elem).map (·.size) = some 1)
    (g off dLen dCap : Nat) (l : List UInt8) (hd : a.eval d = .slice (some ⟨g, off, none⟩) dLen dCap) (hs : a.eval s = .string (bs l)) (T : TypeId) (L : List UInt8) (hg : RowB w g T L) (hle : l.length ≤ dLen) (hfit : off + l.length ≤ L.length)
    (h : ∀ w', RowB w' g T (splice L off l) → (∀ B, B ≤ g → ∀ w0, Below B w0 w → Below B w0 w') → (∀ k, k ≠ g → w'.heap[k]? = w.heap[k]?) → K (a.put o.dst (goInt l.length)) w') :
    if Region.wanted o (yielded ops a.tmps) = true then Oper.wp P o a w K Q else E := by
  have hw : Region.wanted o (yielded ops a.tmps) = true := by simp [Region.wanted, hgd]
  rw [if_pos hw]
  have hrun := Lib.run_copy_row_string (P := P) w dT sT o.type elem g off dLen dCap (bs l) (bcs L).toArray T hu hsz hg (by rw [bs_size]; exact hle) (by rw [bs_size]; simpa [bcs] using hfit)
  rw [toList_bs, bs_size, byteCells_eq] at hrun
  simp only [bcs_splice] at hrun
  unfold Oper.wp
  simp only [execOp, ho, resolve, invoke, builtin]
  simp [hd, hs, hrun, Result.andThen]
  refine h _ ?_ (fun B hB w0 hb => below_setRow hb hB _) (fun k hk => setRow_other w g k _ hk)
  show _ = _
  rw [setRow_heap w g _ _ T _ hg]
set_option maxRecDepth 100000 in
theorem wpList_copy_bytes {P : Program} {w : World} {ops : Array Oper} {rest : List Oper} {o : Oper} {a : Act} {Q : Exit → Act → World → Prop} (hgd : o.guard = none) (d s : Operand) (dT sT : TypeId)
    (ho : o.op = .call { callee := .builtin .copy, args := #[d, s], argTypes := #[dT, sT] }) (elem : TypeId) (hu : P.underlying dT = some (.slice elem)) (hsz : (P.info? elem).map (·.size) = some 1)
    (g off dLen dCap : Nat) (l : List UInt8) (hd : a.eval d = .slice (some ⟨g, off, none⟩) dLen dCap) (hs : a.eval s = .string (bs l)) (T : TypeId) (L : List UInt8) (hg : RowB w g T L) (hle : l.length ≤ dLen) (hfit : off + l.length ≤ L.length)
    (h : ∀ w', RowB w' g T (splice L off l) → (∀ B, B ≤ g → ∀ w0, Below B w0 w → Below B w0 w') → (∀ k, k ≠ g → w'.heap[k]? = w.heap[k]?) → wpList P ops Q rest (a.put o.dst (goInt l.length)) w') :
    wpList P ops Q (o :: rest) a w := by
  refine wpList_plain hgd fun K hK => ?_
  have hrun := Lib.run_copy_row_string (P := P) w dT sT o.type elem g off dLen dCap (bs l) (bcs L).toArray T hu hsz hg (by rw [bs_size]; exact hle) (by rw [bs_size]; simpa [bcs] using hfit)
  rw [toList_bs, bs_size, byteCells_eq] at hrun
  simp only [bcs_splice] at hrun
  unfold Oper.wp
  simp only [execOp, ho, resolve, invoke, builtin]
  simp [hd, hs, hrun, Result.andThen]
  refine hK _ _ (h _ ?_ (fun B hB w0 hb => below_setRow hb hB _) (fun k hk => setRow_other w g k _ hk))
  show _ = _
  rw [setRow_heap w g _ _ T _ hg]

/-! ### the sealed sector -/
def headL (g p q n : Nat) : List UInt8 := be g 6 ++ be p 2 ++ be q 2 ++ be n 2
def bodyL (l : List UInt8) : List UInt8 := l ++ List.replicate (40 - l.length) 0
def markL (g p : Nat) : List UInt8 := be g 6 ++ be p 2
def sealedL (g p q : Nat) (l : List UInt8) : List UInt8 :=
  headL g p q l.length ++ lit (crc (headL g p q l.length ++ bodyL l)) 4 ++ bodyL l ++ markL g p
theorem headL_length (g p q n : Nat) : (headL g p q n).length = 12 := by simp [headL, be_length]
theorem bodyL_length (l : List UInt8) (h : l.length ≤ 40) : (bodyL l).length = 40 := by simp [bodyL]; omega
theorem markL_length (g p : Nat) : (markL g p).length = 8 := by simp [markL, be_length]
theorem sealedL_length (g p q : Nat) (l : List UInt8) (h : l.length ≤ 40) : (sealedL g p q l).length = 64 := by
  simp only [sealedL, List.length_append, headL_length, lit_length, bodyL_length l h, markL_length]
attribute [go_sem] headL_length markL_length
set_option maxRecDepth 100000 in
theorem splice_at {α : Type} (A X C Y : List α) (o : Nat) (ho : o = A.length) (hX : X.length = Y.length) : splice (A ++ (X ++ C)) o Y = A ++ (Y ++ C) := by
  subst ho
  unfold splice
  rw [List.take_left', List.drop_append]
  · congr 2
    rw [List.drop_of_length_le (by omega), List.nil_append, show A.length + Y.length - A.length = X.length by omega, List.drop_left']
    rfl
  · rfl
/-- 64 bytes 0 -/
def Z64 : List UInt8 := List.replicate 64 0
def zs (n : Nat) : List UInt8 := List.replicate n 0
theorem zs_add (a b : Nat) : zs (a + b) = zs a ++ zs b := by simp [zs]
theorem zs_length (n : Nat) : (zs n).length = n := by simp [zs]
def L1 (g p : Nat) : List UInt8 := markL g p ++ zs 56
def L2 (g p q : Nat) : List UInt8 := (markL g p ++ be q 2) ++ zs 54
def L3 (g p q n : Nat) : List UInt8 := headL g p q n ++ zs 52
def L4 (g p q : Nat) (l : List UInt8) : List UInt8 := headL g p q l.length ++ (zs 4 ++ (bodyL l ++ zs 8))
def L5 (g p q : Nat) (l : List UInt8) : List UInt8 := headL g p q l.length ++ (zs 4 ++ (bodyL l ++ markL g p))
theorem step1 (g p : Nat) : splice Z64 0 (markL g p) = L1 g p := by
  have := splice_at [] (zs 8) (zs 56) (markL g p) 0 rfl (by rw [markL_length, zs_length])
  exact this
theorem L1_length (g p : Nat) : (L1 g p).length = 64 := by simp [L1, markL_length, zs_length]
theorem L2_length (g p q : Nat) : (L2 g p q).length = 64 := by simp [L2, markL_length, be_length, zs_length]
theorem L3_length (g p q n : Nat) : (L3 g p q n).length = 64 := by simp [L3, headL_length, zs_length]
theorem L4_length (g p q : Nat) (l : List UInt8) (hl : l.length ≤ 40) : (L4 g p q l).length = 64 := by simp [L4, headL_length, zs_length, bodyL_length l hl]
theorem step2 (g p q : Nat) : splice (L1 g p) 8 (be q 2) = L2 g p q := by
  unfold L1 L2
  rw [show zs 56 = zs 2 ++ zs 54 from zs_add 2 54, splice_at _ _ _ _ 8 (by rw [markL_length]) (by rw [be_length, zs_length]), List.append_assoc]
theorem step3 (g p q n : Nat) : splice (L2 g p q) 10 (be n 2) = L3 g p q n := by
  unfold L2 L3 headL
  rw [show zs 54 = zs 2 ++ zs 52 from zs_add 2 52, splice_at _ _ _ _ 10 (by simp [markL_length, be_length]) (by rw [be_length, zs_length])]
  simp [markL, List.append_assoc]
theorem step4 (g p q : Nat) (l : List UInt8) (hl : l.length ≤ 40) : splice (L3 g p q l.length) 16 l = L4 g p q l := by
  unfold L3 L4 bodyL
  rw [show zs 52 = zs 4 ++ (zs l.length ++ (zs (40 - l.length) ++ zs 8)) by rw [← zs_add, ← zs_add, ← zs_add]; congr 1; omega]
  rw [← List.append_assoc (headL g p q l.length), splice_at _ _ _ _ 16 (by simp [headL_length, zs_length]) (by rw [zs_length])]
  simp [zs, List.append_assoc]
theorem step5 (g p q : Nat) (l : List UInt8) (hl : l.length ≤ 40) : splice (L4 g p q l) 56 (markL g p) = L5 g p q l := by
  unfold L4 L5
  have h := splice_at (headL g p q l.length ++ (zs 4 ++ bodyL l)) (zs 8) [] (markL g p) 56 (by simp [headL_length, zs_length, bodyL_length l hl]) (by rw [zs_length, markL_length])
  simpa [List.append_assoc] using h
theorem L5_length (g p q : Nat) (l : List UInt8) (hl : l.length ≤ 40) : (L5 g p q l).length = 64 := by
  simp [L5, headL_length, zs_length, bodyL_length l hl, markL_length]
theorem L5_head (g p q : Nat) (l : List UInt8) : ((L5 g p q l).drop 0).take 12 = headL g p q l.length := by
  unfold L5
  rw [List.drop_zero, List.take_left' (headL_length _ _ _ _)]
theorem L5_body (g p q : Nat) (l : List UInt8) (hl : l.length ≤ 40) : ((L5 g p q l).drop 16).take 40 = bodyL l := by
  unfold L5
  rw [← List.append_assoc, List.drop_left' (by simp [headL_length, zs_length]), List.take_left' (bodyL_length l hl)]
/-- with k bytes of the checksum stored -/
def L6 (g p q : Nat) (l : List UInt8) (k : Nat) : List UInt8 :=
  headL g p q l.length ++ ((lit (crc (headL g p q l.length ++ bodyL l)) 4).take k ++ (zs (4 - k) ++ (bodyL l ++ markL g p)))
theorem L6_zero (g p q : Nat) (l : List UInt8) : L6 g p q l 0 = L5 g p q l := by simp [L6, L5]
theorem L6_four (g p q : Nat) (l : List UInt8) : L6 g p q l 4 = sealedL g p q l := by
  unfold L6 sealedL
  rw [List.take_of_length_le (by rw [lit_length]; omega)]
  simp [zs, List.append_assoc]
set_option maxRecDepth 100000 in
theorem L6_succ (g p q : Nat) (l : List UInt8) (k : Nat) (hk : k < 4) : (L6 g p q l k).set (12 + k) (UInt8.ofNat (crc (headL g p q l.length ++ bodyL l) / 256 ^ k)) = L6 g p q l (k + 1) := by
  unfold L6
  have hlen : (lit (crc (headL g p q l.length ++ bodyL l)) 4).length = 4 := lit_length _ _
  have hget := lit_get (crc (headL g p q l.length ++ bodyL l)) 4 k (by rw [hlen]; exact hk)
  rw [← hget]
  generalize hS : lit (crc (headL g p q l.length ++ bodyL l)) 4 = S at *
  rw [List.set_append_right _ _ (by rw [headL_length]; omega), headL_length, show 12 + k - 12 = k by omega]
  rw [List.set_append_right _ _ (by rw [List.length_take]; omega), List.length_take, show k - min k S.length = 0 by omega]
  rw [show zs (4 - k) = 0 :: zs (4 - (k + 1)) by rw [show 4 - k = (4 - (k + 1)) + 1 by omega]; rfl]
  rw [List.cons_append, List.set_cons_zero, List.take_succ_eq_append_getElem (by omega), List.append_assoc]
  rfl
theorem L6_length (g p q : Nat) (l : List UInt8) (hl : l.length ≤ 40) (k : Nat) (hk : k ≤ 4) : (L6 g p q l k).length = 64 := by
  simp [L6, headL_length, lit_length, zs_length, bodyL_length l hl, markL_length]; omega
end Go.Proofs.Ytkpfkknldeafkaa
namespace Go.Proofs.Ytkpfkknldeafkaa
open Go.RowKit

theorem wrap64_u8 (c : UInt8) : wrap64 (c.toNat : Int) = (c.toNat : Int) := by
  have := c.toNat_lt; unfold wrap64; omega
set_option maxRecDepth 100000 in
theorem num_step (x : Nat) (c : UInt8) (hx : x < 281474976710656) : bits .or .i64 ((x : Int) * 256) (wrap64 (c.toNat : Int)) = ((numS x c : Nat) : Int) := by
  rw [wrap64_u8]
  have hc := c.toNat_lt
  have h1 : (BitVec.ofInt 64 ((256 * x : Nat) : Int)).toNat = 256 * x := by
    rw [BitVec.ofInt_natCast, BitVec.toNat_ofNat]; exact Nat.mod_eq_of_lt (by omega)
  have h2 : (BitVec.ofInt 64 (c.toNat : Int)).toNat = c.toNat := by
    rw [BitVec.ofInt_natCast, BitVec.toNat_ofNat]; exact Nat.mod_eq_of_lt (by omega)
  rw [show ((x : Int) * 256) = ((256 * x : Nat) : Int) by omega]
  show IntKind.i64.wrap ((BitVec.ofInt 64 ((256 * x : Nat) : Int) ||| BitVec.ofInt 64 (c.toNat : Int)).toNat : Int) = _
  have e := Nat.two_pow_add_eq_or_of_lt (i := 8) (b := c.toNat) (by omega) x
  rw [BitVec.toNat_or, h1, h2, show 256 * x = 2 ^ 8 * x from rfl, ← e, IntKind.wrap_i64]
  unfold numS
  omega

set_option maxRecDepth 100000 in
set_option maxHeartbeats 400000 in
theorem number_any (l : List UInt8) (w : World) (h : l.length ≤ 6) :
    Calls Try.prog 96 #[.string (bs l)] w fun e w' => e = .returned (.int .i64 (num l : Nat)) ∧ w = w' := by
  go_enter Try.func96, Try.ntmps96
  go_wp2
  go_loop [3, 7] (fun x i => ∃ (k n : Nat), k ≤ l.length ∧ i = .int .i64 k ∧ x = .int .i64 n ∧ n < 281474976710656 ∧ n = num (l.take k)) (fun _ i => l.length - (intOf i).toNat)
  case atStart => exact ⟨0, 0, Nat.zero_le _, rfl, rfl, by omega, by simp [num]⟩
  case round =>
    obtain ⟨k, n, hk, rfl, rfl, hn, hne⟩ := hrel
    have HN := Lib.hid hne; clear hne
    by_cases hlt : k < l.length
    · have H := Lib.hid (num_step n l[k] hn)
      go_wp2
      go_round
      case rel =>
        have e : num (l.take (k + 1)) = numS n l[k] := by rw [ltake_snoc l k hlt, num_snoc, ← HN.out]; rfl
        refine ⟨k + 1, num (l.take (k + 1)), by omega, by go_num, by rw [H.out, e], ?_, rfl⟩
        have := num_lt (l.take (k + 1))
        have h2 : (l.take (k + 1)).length ≤ 6 := by rw [List.length_take]; omega
        exact Nat.lt_of_lt_of_le this (Nat.pow_le_pow_right (n := 256) (by decide) h2)
      case measure => simp [intOf]; omega
    · go_wp2
      go_ret
      exact ⟨ret_int (by rw [HN.out, ltake_all l hlt]), rfl⟩

theorem big_byte (x : Int) (m : Nat) (h0 : 0 ≤ x) : x / 2 ^ (8 * m) % 256 = ((UInt8.ofNat (x.toNat / 256 ^ m)).toNat : Int) := by
  rw [show ((2 : Int) ^ (8 * m)) = ((256 ^ m : Nat) : Int) from by rw [Int.pow_mul]; simp]
  conv => lhs; rw [← Int.toNat_of_nonneg h0]
  simp only [UInt8.toNat_ofNat']
  omega

set_option maxRecDepth 100000 in
set_option maxHeartbeats 400000 in
theorem big_any (x n : Int) (w : World) (x0 : 0 ≤ x) (_x1 : x < 9223372036854775808) (n0 : 0 ≤ n) (hn : n ≤ 8) :
    Calls Try.prog 114 #[.int .i64 x, .int .i64 n] w fun e w' => e = .returned (.string (bs (be x.toNat n.toNat))) ∧ Below w.heap.size w w' := by
  obtain ⟨n, rfl⟩ := Int.eq_ofNat_of_zero_le n0
  rw [Int.toNat_natCast]
  go_enter Try.func114, Try.ntmps114
  go_wp2
  go_loopw [8] (fun c wr => ∃ (k : Nat) (C : Array Value), k ≤ n ∧ c = .int .i64 k ∧ C.size = 8 ∧ wr = w.alloc (.cells C 156) ∧ (∀ j, j < k → C[j]? = some (.int .u8 ((UInt8.ofNat (x.toNat / 256 ^ (n - 1 - j))).toNat : Int)))) (fun c _ => n - (intOf c).toNat)
  case atStart => exact ⟨0, _, Nat.zero_le _, rfl, rfl, rfl, fun j hj => absurd hj (Nat.not_lt_zero _)⟩
  case round =>
    obtain ⟨k, C, hk, rfl, hC, rfl, hcells⟩ := hrel
    have HC := Lib.hid hcells; clear hcells
    have HS := Lib.hid hC; clear hC
    by_cases hlt : k < n
    · have hC : k < C.size := by rw [HS.out]; omega
      go_wp2
      go_roundw
      case rel =>
        refine ⟨k + 1, _, by omega, by go_num, by rw [Array.size_setIfInBounds]; exact HS.out, rfl, ?_⟩
        intro j hj
        rw [Array.getElem?_setIfInBounds]
        by_cases hjk : k = j
        · subst hjk
          rw [if_pos rfl, if_pos hC, big_byte x _ x0]
        · rw [if_neg hjk]
          exact HC.out j (by omega)
      case measure => simp [intOf]; omega
    · have hkn : k = n := by omega
      have hcv := run_str_new (P := Try.prog) w C 156 81 9 (bs (be x.toNat n)) n 8
      have hcv : (convert 81 9 (.slice (some ⟨w.heap.size, 0, none⟩) n 8)).run Try.prog (w.alloc (.cells C 156)) = .ok (.string (bs (be x.toNat n))) (w.alloc (.cells C 156)) := by
        have hb : Lib.Bytes (w.alloc (.cells C 156)) w.heap.size 0 (bs (be x.toNat n)) := by
          intro i hi
          rw [World.cell?_alloc_at _ _ _ _ rfl, Nat.zero_add]
          have hi' : i < n := by rw [bs_size, be_length] at hi; exact hi
          rw [HC.out i (by omega), bs_get, be_get]
        have := Lib.run_convert_whole (P := Try.prog) _ 81 5 9 Try.underlying81 Try.underlying5 Try.underlying9 w.heap.size 0 (bs (be x.toNat n)) hb 8
        rwa [bs_size, be_length] at this
      have HK := Lib.hid hkn; clear hkn
      go_wp2
      go_ret
      exact ⟨rfl, (Below.refl _ _).alloc (Nat.le_refl _) _⟩

theorem cell_box (w : World) (C : Array Value) (T : TypeId) (j : Nat) : (w.alloc (.cells C T)).cell? ⟨w.heap.size, j, none⟩ = C[j]? := World.cell?_alloc_at _ _ _ _ rfl
theorem keep_draw {w W : World} {B : Nat} {a b : Addr} {u v : Value} (h : W.cell? a = some u ∧ W.cell? b = some v ∧ Below B w W) : W.drew.cell? a = some u ∧ W.drew.cell? b = some v ∧ Below B w W.drew := ⟨h.1, h.2.1, h.2.2.drew⟩
theorem mark_end {w W : World} {g p : Int} (h : W.cell? ⟨w.heap.size, 0, none⟩ = some (.int .i64 g) ∧ W.cell? ⟨w.heap.size, 1, none⟩ = some (.int .i64 p) ∧ Below w.heap.size w W) : Below w.heap.size w W := h.2.2
theorem keep_call {w W W' : World} {n i j : Nat} {u v : Value} (h : W.cell? ⟨n, i, none⟩ = some u ∧ W.cell? ⟨n, j, none⟩ = some v ∧ Below w.heap.size w W) (hb : Below W.heap.size W W') :
    W'.cell? ⟨n, i, none⟩ = some u ∧ W'.cell? ⟨n, j, none⟩ = some v ∧ Below w.heap.size w W' := by
  have hn : n < W.heap.size := World.block_lt_of_cell? W ⟨n, i, none⟩ h.1
  exact ⟨((bcell hb).1 n i hn).trans h.1, ((bcell hb).1 n j hn).trans h.2.1, btrans h.2.2 h.2.2.size hb⟩

set_option maxRecDepth 100000 in
set_option maxHeartbeats 1000000 in
theorem mark_any (g p q : Int) (w : World) (g0 : 0 ≤ g) (g1 : g < 9223372036854775808) (p0 : 0 ≤ p) (p1 : p < 9223372036854775808) :
    Calls Try.prog 113 #[.agg #[.int .i64 g, .int .i64 p, .int .i64 q]] w fun e w' => e = .returned (.string (bs (markL g.toNat p.toNat))) ∧ Below w.heap.size w w' := by
  have hS : (w.alloc (.cells #[.int .i64 g, .int .i64 p, .int .i64 q] 87)).cell? ⟨w.heap.size, 0, none⟩ = some (.int .i64 g) ∧ (w.alloc (.cells #[.int .i64 g, .int .i64 p, .int .i64 q] 87)).cell? ⟨w.heap.size, 1, none⟩ = some (.int .i64 p) ∧ Below w.heap.size w (w.alloc (.cells #[.int .i64 g, .int .i64 p, .int .i64 q] 87)) :=
    ⟨cell_box _ _ _ _, cell_box _ _ _ _, (Below.refl _ _).alloc (Nat.le_refl _) _⟩
  go_enter Try.func113, Try.ntmps113
  go_wp2
  go_region_held3 (fun w' => w'.cell? ⟨w.heap.size, 0, none⟩ = some (.int .i64 g) ∧ w'.cell? ⟨w.heap.size, 1, none⟩ = some (.int .i64 p) ∧ Below w.heap.size w w')
    (first | assumption | exact hS | exact keep_draw (by assumption) | exact keep_call (by assumption) (by assumption))
    ((go_at_call 114; refine (big_any _ _ _ (by omega) (by omega) (by decide) (by decide)).mono ?_; rintro e w' ⟨rfl, hb⟩))
  all_goals go_wp2
  all_goals go_ret
  all_goals exact ⟨rfl, mark_end (g := g) (p := p) (by assumption)⟩

def stampB (g p q : Int) : Bool := decide (1 ≤ g ∧ g ≤ 1099511627776 ∧ 1 ≤ q ∧ q ≤ 1024 ∧ 0 ≤ p ∧ p < q)
theorem stampB_iff (g p q : Int) : stampB g p q = true ↔ 1 ≤ g ∧ g ≤ 1099511627776 ∧ 1 ≤ q ∧ q ≤ 1024 ∧ 0 ≤ p ∧ p < q := by simp [stampB]
theorem stampB_no {g p q : Int} (h : ¬ (1 ≤ g ∧ g ≤ 1099511627776 ∧ 1 ≤ q ∧ q ≤ 1024 ∧ 0 ≤ p ∧ p < q)) : stampB g p q = false := by
  cases hb : stampB g p q with
  | false => rfl
  | true => exact absurd ((stampB_iff g p q).1 hb) h
theorem ret_bool {a b : Bool} (h : a = b) : Ending.returned (.bool a) = .returned (.bool b) := by rw [h]
set_option maxRecDepth 100000 in
set_option maxHeartbeats 400000 in
theorem ValidStamp_any (g p q : Int) (w : World) :
    Calls Try.prog 92 #[.agg #[.int .i64 g, .int .i64 p, .int .i64 q]] w fun e w' => e = .returned (.bool (stampB g p q)) ∧ Below w.heap.size w w' := by
  go_enter Try.func92, Try.ntmps92
  go_wp2
  all_goals go_ret
  all_goals refine ⟨ret_bool ?_, (Below.refl _ _).alloc (Nat.le_refl _) _⟩
  all_goals first
    | exact ((stampB_iff g p q).2 (by omega)).symm
    | exact Eq.symm (stampB_no (g := g) (p := p) (q := q) (by omega))
    | (show decide (p < q) = stampB g p q; rw [Bool.eq_iff_iff, stampB_iff, decide_eq_true_iff]; omega)
/-! ### sealed -/
/-- what sealed's own memory holds: the stamp and the array of bytes -/
def SInv (w : World) (g p q : Int) (L : List UInt8) (W : World) : Prop :=
  W.heap[w.heap.size]? = some (.cells #[.int .i64 g, .int .i64 p, .int .i64 q] 87 (0, 0)) ∧ RowB W (w.heap.size + 1) 146 L ∧ L.length = 64 ∧ Below w.heap.size w W
theorem SInv.drew {w W : World} {g p q : Int} {L : List UInt8} (h : SInv w g p q L W) : SInv w g p q L W.drew := ⟨h.1, h.2.1, h.2.2.1, h.2.2.2.drew⟩
theorem SInv.call {w W W' : World} {g p q : Int} {L : List UInt8} (h : SInv w g p q L W) (hb : Below W.heap.size W W') : SInv w g p q L W' := by
  have hl := h.2.1.lt
  exact ⟨(hb.block _ (by omega)).trans h.1, h.2.1.below hb hl, h.2.2.1, btrans h.2.2.2 h.2.2.2.size hb⟩
theorem SInv.copy {w W W' : World} {g p q : Int} {L : List UInt8} (h : SInv w g p q L W) {o : Nat} {l : List UInt8} (hfit : o + l.length ≤ L.length) (hr : RowB W' (w.heap.size + 1) 146 (splice L o l))
    (hB : ∀ B, B ≤ w.heap.size + 1 → ∀ w0, Below B w0 W → Below B w0 W') (hk : ∀ k, k ≠ w.heap.size + 1 → W'.heap[k]? = W.heap[k]?) : SInv w g p q (splice L o l) W' :=
  ⟨(hk _ (by omega)).trans h.1, hr, by rw [length_splice _ _ _ hfit]; exact h.2.2.1, hB _ (by omega) _ h.2.2.2⟩
theorem SInv.cells {w W : World} {g p q : Int} {L : List UInt8} (h : SInv w g p q L W) : W.cell? ⟨w.heap.size, 0, none⟩ = some (.int .i64 g) ∧ W.cell? ⟨w.heap.size, 1, none⟩ = some (.int .i64 p) ∧ W.cell? ⟨w.heap.size, 2, none⟩ = some (.int .i64 q) := by
  have h1 := h.1
  refine ⟨?_, ?_, ?_⟩ <;> simp [World.cell?, h1]
theorem SInv.store {w W : World} {g p q : Int} {L : List UInt8} (h : SInv w g p q L W) (j : Nat) (b : UInt8) : SInv w g p q (L.set j b) (W.setCell ⟨w.heap.size + 1, j, none⟩ (.int .u8 (b.toNat : Int))) :=
  ⟨by rw [heap_setCell_other _ _ _ _ (by simp)]; exact h.1, h.2.1.store j b, by rw [List.length_set]; exact h.2.2.1, h.2.2.2.setCell (by simp) _⟩
theorem SInv.row {w W : World} {g p q : Int} {L : List UInt8} (h : SInv w g p q L W) : RowB W (w.heap.size + 1) 146 L := h.2.1
theorem size_u8 : (Try.prog.info? 5).map (·.size) = some 1 := by kernel_rfl
set_option maxRecDepth 100000 in
theorem SInv.start (w : World) (g p q : Int) : SInv w g p q Z64 ((w.alloc (.cells #[.int .i64 g, .int .i64 p, .int .i64 q] 87)).alloc (.cells (bcs Z64).toArray 146)) := by
  refine ⟨?_, ?_, rfl, ((Below.refl _ _).alloc (Nat.le_refl _) _).alloc (by simp) _⟩
  · show ((w.heap.push _).push _)[w.heap.size]? = _
    simp only [Array.getElem?_push, Array.size_push]
    rw [if_neg (by omega), if_pos trivial]
  · show ((w.heap.push _).push _)[w.heap.size + 1]? = _
    simp only [Array.getElem?_push, Array.size_push]
    rw [if_pos trivial]
theorem z64_cells : (#[.int .u8 0, .int .u8 0, .int .u8 0, .int .u8 0, .int .u8 0, .int .u8 0, .int .u8 0, .int .u8 0, .int .u8 0, .int .u8 0, .int .u8 0, .int .u8 0, .int .u8 0, .int .u8 0, .int .u8 0, .int .u8 0, .int .u8 0, .int .u8 0, .int .u8 0, .int .u8 0, .int .u8 0, .int .u8 0, .int .u8 0, .int .u8 0, .int .u8 0, .int .u8 0, .int .u8 0, .int .u8 0, .int .u8 0, .int .u8 0, .int .u8 0, .int .u8 0, .int .u8 0, .int .u8 0, .int .u8 0, .int .u8 0, .int .u8 0, .int .u8 0, .int .u8 0, .int .u8 0, .int .u8 0, .int .u8 0, .int .u8 0, .int .u8 0, .int .u8 0, .int .u8 0, .int .u8 0, .int .u8 0, .int .u8 0, .int .u8 0, .int .u8 0, .int .u8 0, .int .u8 0, .int .u8 0, .int .u8 0, .int .u8 0, .int .u8 0, .int .u8 0, .int .u8 0, .int .u8 0, .int .u8 0, .int .u8 0, .int .u8 0, .int .u8 0] : Array Value) = (bcs Z64).toArray := rfl

set_option maxRecDepth 100000 in
set_option maxHeartbeats 1000000 in
theorem sealed_any (g p q : Int) (l : List UInt8) (w : World) (g0 : 0 ≤ g) (g1 : g < 9223372036854775808) (p0 : 0 ≤ p) (p1 : p < 9223372036854775808) (q0 : 0 ≤ q) (q1 : q < 9223372036854775808) (hl : l.length ≤ 40) :
    Calls Try.prog 93 #[.agg #[.int .i64 g, .int .i64 p, .int .i64 q], .string (bs l)] w fun e w' => e = .returned (.string (bs (sealedL g.toNat p.toNat q.toNat l))) ∧ Below w.heap.size w w' := by
  have hs0 := SInv.start w g p q
  go_enter Try.func93, Try.ntmps93
  go_upto_region 2 with (fail)
  rw [z64_cells]
  go_cut [] (fun wx => SInv w g p q (L1 g.toNat p.toNat) wx)
  case first =>
    have hc := hs0.cells
    go_region_law (first
      | (refine step_copy_bytes rfl (.tmp 8) (.tmp 10) 81 9 rfl 5 Try.underlying81 size_u8 (w.heap.size + 1) 0 8 64 (markL g.toNat p.toNat) rfl rfl 146 Z64 (SInv.row (by assumption)) (by rw [markL_length]; omega) (by rw [markL_length]; decide) ?_; intro w2 hr hB hk)
      | (go_simp; go_at_call 113; refine (mark_any _ _ _ _ g0 g1 p0 p1).mono ?_; rintro e w1 ⟨rfl, hb⟩; have hs1 := hs0.drew.call hb))
    have hs2 := hs1.copy (by rw [markL_length]; decide) hr hB hk
    rw [step1] at hs2
    go_wp2_with fail
    go_meet
    exact hs2
  case rest =>
    clear hs0
    go_upto_region 3 with (fail)
    go_cut [] (fun wx => SInv w g p q (L2 g.toNat p.toNat q.toNat) wx)
    case first =>
      have hc := hcut.cells
      go_region_law (first
        | (refine step_copy_bytes rfl (.tmp 12) (.tmp 15) 81 9 rfl 5 Try.underlying81 size_u8 (w.heap.size + 1) 8 2 56 (be q.toNat 2) rfl rfl 146 (L1 g.toNat p.toNat) (SInv.row (by assumption)) (by rw [be_length]; omega) (by rw [be_length, L1_length]; decide) ?_; intro w2 hr hB hk)
        | (go_simp; go_at_call 114; refine (big_any _ _ _ q0 q1 (by decide) (by decide)).mono ?_; rintro e w1 ⟨rfl, hb⟩; have hs1 := hcut.drew.call hb))
      have hs2 := hs1.copy (by rw [be_length, L1_length]; decide) hr hB hk
      rw [step2] at hs2
      go_wp2_with fail
      go_meet
      exact hs2
    case rest =>
      go_upto_region 4 with (fail)
      go_cut [] (fun wx => SInv w g p q (L3 g.toNat p.toNat q.toNat l.length) wx)
      case first =>
        have hc := hcut.cells
        have hl' : (l.length : Int) ≤ 40 := by omega
        go_region_law (first
          | (refine step_copy_bytes rfl (.tmp 17) (.tmp 20) 81 9 rfl 5 Try.underlying81 size_u8 (w.heap.size + 1) 10 2 54 (be l.length 2) rfl rfl 146 (L2 g.toNat p.toNat q.toNat) (SInv.row (by assumption)) (by rw [be_length]; omega) (by rw [be_length, L2_length]; decide) ?_; intro w2 hr hB hk)
          | (go_simp; go_at_call 114; refine (big_any _ _ _ (by omega) (by omega) (by decide) (by decide)).mono ?_; rintro e w1 ⟨rfl, hb⟩; have hs1 := hcut.drew.call hb))
        have hs2 := hs1.copy (by rw [be_length, L2_length]; decide) hr hB hk
        rw [step3] at hs2
        go_wp2_with fail
        go_meet
        exact hs2
      case rest =>
        go_upto_region 5 with (fail)
        go_cut [] (fun wx => SInv w g p q (L4 g.toNat p.toNat q.toNat l) wx)
        case first =>
          go_wp2_with (with_reducible refine wpList_copy_bytes rfl (.tmp 22) (.tmp 23) 81 9 rfl 5 Try.underlying81 size_u8 (w.heap.size + 1) 16 40 48 l rfl rfl 146 (L3 g.toNat p.toNat q.toNat l.length) hcut.row hl (by rw [L3_length]; omega) ?_; intro w2 hr hB hk)
          have hs2 := hcut.copy (by rw [L3_length]; omega) hr hB hk
          rw [step4 _ _ _ _ hl] at hs2
          go_meet
          exact hs2
        case rest =>
          go_upto_region 6 with (fail)
          go_cut [] (fun wx => SInv w g p q (L5 g.toNat p.toNat q.toNat l) wx)
          case first =>
            have hc := hcut.cells
            have hlen := L4_length g.toNat p.toNat q.toNat l hl
            have HL := Lib.hid hlen; clear hlen
            go_region_law (first
              | (refine step_copy_bytes rfl (.tmp 25) (.tmp 27) 81 9 rfl 5 Try.underlying81 size_u8 (w.heap.size + 1) 56 8 8 (markL g.toNat p.toNat) rfl rfl 146 (L4 g.toNat p.toNat q.toNat l) (SInv.row (by assumption)) (by rw [markL_length]; omega) (by rw [markL_length, HL.out]; decide) ?_; intro w2 hr hB hk)
              | (go_simp; go_at_call 113; refine (mark_any _ _ _ _ g0 g1 p0 p1).mono ?_; rintro e w1 ⟨rfl, hb⟩; have hs1 := hcut.drew.call hb))
            have hs2 := hs1.copy (by rw [markL_length, HL.out]; decide) hr hB hk
            rw [step5 _ _ _ _ hl] at hs2
            go_wp2_with fail
            go_meet
            exact hs2
          case rest =>
            go_upto_region 7 with (fail)
            go_cut [6] (fun s6 wx => SInv w g p q (L5 g.toNat p.toNat q.toNat l) wx ∧ s6 = .int .u32 (crc (headL g.toNat p.toNat q.toNat l.length ++ bodyL l) : Nat))
            case first =>
              have hlen := L5_length g.toNat p.toNat q.toNat l hl
              have c1 := hcut.drew.row.conv (P := Try.prog) 81 5 9 Try.underlying81 Try.underlying5 Try.underlying9 0 12 64 (by rw [hlen]; omega)
              have c2 := hcut.drew.row.conv (P := Try.prog) 81 5 9 Try.underlying81 Try.underlying5 Try.underlying9 16 40 48 (by rw [hlen]; omega)
              rw [L5_head] at c1
              rw [L5_body _ _ _ _ hl] at c2
              have hbl := bodyL_length l hl
              have hbl1 : (bodyL l).length ≤ 40 := by omega
              have HM := Lib.hid (show (headL g.toNat p.toNat q.toNat l.length ++ bodyL l).length ≤ maxLen by rw [List.length_append, headL_length, hbl]; decide)
              have hbl3 : ¬ 9223372036854775807 < 12 + (bodyL l).length := by omega
              clear hlen hbl
              go_region_law (first
                | (go_simp; go_at_call 115; refine (CRC_any _ _ HM.out).mono ?_; rintro e w1 ⟨rfl, rfl⟩))
              all_goals go_wp2_with fail
              all_goals go_meet
              all_goals exact ⟨hcut.drew, rfl⟩
            case rest =>
              obtain ⟨hS, rfl⟩ := hcut
              rw [← L6_zero] at hS
              have hcr := crc_lt (headL g.toNat p.toNat q.toNat l.length ++ bodyL l)
              obtain ⟨sum, hsum⟩ : ∃ sum, sum = crc (headL g.toNat p.toNat q.toNat l.length ++ bodyL l) := ⟨_, rfl⟩
              rw [← hsum]
              rw [← hsum] at hcr
              have HSUM := Lib.hid hsum; clear hsum
              go_wp2
              go_loopw [35] (fun c wr => ∃ (k : Nat), k ≤ 4 ∧ c = .int .i64 k ∧ SInv w g p q (L6 g.toNat p.toNat q.toNat l k) wr) (fun c _ => 4 - (intOf c).toNat)
              case atStart => exact ⟨0, Nat.zero_le _, rfl, hS⟩
              case round =>
                obtain ⟨k, hk, rfl, hS⟩ := hrel
                have hlen := L6_length g.toNat p.toNat q.toNat l hl k hk
                by_cases hlt : k < 4
                · have hcell := hS.row.cell (12 + k) (by rw [hlen]; omega)
                  have hfz := hS.row.frozen (12 + k)
                  obtain ⟨v, hv⟩ : ∃ v : Value, wr.cell? ⟨w.heap.size + 1, 12 + k, none⟩ = some v := ⟨_, hcell⟩
                  clear hcell hlen
                  have hb := Lib.hid (big_byte (sum : Int) k (by omega))
                  go_wp2
                  go_roundw
                  case rel =>
                    have hst := hS.store (12 + k) (UInt8.ofNat (sum / 256 ^ k))
                    rw [HSUM.out, L6_succ _ _ _ _ _ hlt, ← HSUM.out] at hst
                    refine ⟨k + 1, by omega, by go_num, ?_⟩
                    rw [hb.out, Int.toNat_natCast]
                    exact hst
                  case measure => simp [intOf]; omega
                · obtain rfl : k = 4 := by omega
                  have hcv := hS.row.conv (P := Try.prog) 81 5 9 Try.underlying81 Try.underlying5 Try.underlying9 0 64 64 (by rw [hlen]; omega)
                  rw [L6_four, List.drop_zero, List.take_of_length_le (by rw [sealedL_length _ _ _ _ hl]; omega)] at hcv
                  clear hlen
                  go_wp2
                  go_ret
                  exact ⟨rfl, hS.2.2.2⟩
end Go.Proofs.Ytkpfkknldeafkaa
namespace Go.Proofs.Ytkpfkknldeafkaa
open Go.RowKit

/-- what Seal answers -/
def sealS (g p q : Int) (l : List UInt8) : List UInt8 × Int :=
  if stampB g p q then (if l.length ≤ 40 then (sealedL g.toNat p.toNat q.toNat l, 0) else ([], 2)) else ([], 1)

theorem stamp_bounds {g p q : Int} (h : stampB g p q = true) : 0 ≤ g ∧ g < 9223372036854775808 ∧ 0 ≤ p ∧ p < 9223372036854775808 ∧ 0 ≤ q ∧ q < 9223372036854775808 := by
  obtain ⟨h1, h2, h3, h4, h5, h6⟩ := (stampB_iff g p q).1 h
  refine ⟨?_, ?_, ?_, ?_, ?_, ?_⟩ <;> omega

set_option maxRecDepth 100000 in
set_option maxHeartbeats 400000 in
theorem Seal_any (g p q : Int) (l : List UInt8) (w : World) (hl : l.length ≤ 9223372036854775807) :
    Calls Try.prog 52 #[.agg #[.int .i64 g, .int .i64 p, .int .i64 q], .string (bs l)] w fun e w' => e = .returned (.tuple #[.string (bs (sealS g p q l).1), .int .i64 (sealS g p q l).2]) ∧ Below w.heap.size w w' := by
  have hB0 : Below w.heap.size w (w.alloc (.cells #[.int .i64 g, .int .i64 p, .int .i64 q] 87)) := (Below.refl _ _).alloc (Nat.le_refl _) _
  cases hs : stampB g p q with
  | false =>
    have hfin : sealS g p q l = ([], 1) := by unfold sealS; rw [hs]; rfl
    rw [hfin]
    have HS := Lib.hid hs; clear hs hfin
    go_enter Try.func52, Try.ntmps52
    go_wp2_with fail
    refine (ValidStamp_any _ _ _ _).mono ?_
    rw [HS.out]
    rintro e w1 ⟨rfl, hb⟩
    go_wp2
    go_ret2
    exact ⟨rfl, btrans hB0 hB0.size hb⟩
  | true =>
    have HS := Lib.hid hs; clear hs
    obtain ⟨g0, g1, p0, p1, q0, q1⟩ := stamp_bounds HS.out
    by_cases h40 : l.length ≤ 40
    · have hfin : sealS g p q l = (sealedL g.toNat p.toNat q.toNat l, 0) := by unfold sealS; rw [HS.out, if_pos h40]; rfl
      rw [hfin]
      clear hfin
      go_enter Try.func52, Try.ntmps52
      go_wp2_with fail
      refine (ValidStamp_any _ _ _ _).mono ?_
      rw [HS.out]
      rintro e w1 ⟨rfl, hb⟩
      have hB1 := btrans hB0 hB0.size hb
      have c0 := (bcell hb).1 w.heap.size 0 (by simp)
      have c1 := (bcell hb).1 w.heap.size 1 (by simp)
      have c2 := (bcell hb).1 w.heap.size 2 (by simp)
      rw [cell_box] at c0 c1 c2
      clear hb hB0
      go_wp2_with fail
      refine (sealed_any _ _ _ _ _ g0 g1 p0 p1 q0 q1 h40).mono ?_
      rintro e w2 ⟨rfl, hb2⟩
      go_wp2
      go_ret2
      exact ⟨rfl, btrans hB1 hB1.size hb2⟩
    · have hfin : sealS g p q l = ([], 2) := by unfold sealS; rw [HS.out, if_neg h40]; rfl
      rw [hfin]
      clear hfin
      go_enter Try.func52, Try.ntmps52
      go_wp2_with fail
      refine (ValidStamp_any _ _ _ _).mono ?_
      rw [HS.out]
      rintro e w1 ⟨rfl, hb⟩
      go_wp2
      go_ret2
      exact ⟨rfl, btrans hB0 hB0.size hb⟩

/-! ### Open -/
def fld (l : List UInt8) (a n : Nat) : Nat := num ((l.drop a).take n)
/-- what Open answers: the stamp, the data, the error -/
def openS (l : List UInt8) : (Int × Int × Int) × List UInt8 × Int :=
  if l.length < 64 then ((0, 0, 0), [], 6) else
  if 64 < l.length then ((0, 0, 0), [], 20) else
  if stampB (fld l 0 6) (fld l 6 2) (fld l 8 2) = true ∧ fld l 10 2 ≤ 40 then
    (if sealedL (fld l 0 6) (fld l 6 2) (fld l 8 2) ((l.drop 16).take (fld l 10 2)) = l then ((fld l 0 6, fld l 6 2, fld l 8 2), (l.drop 16).take (fld l 10 2), 0) else ((0, 0, 0), [], 20))
  else ((0, 0, 0), [], 20)

/-- Open's own memory: its result's place, empty still, and the stamp that it read -/
def Two (w : World) (g p q : Int) (W : World) : Prop :=
  W.heap[w.heap.size]? = some (.cells #[.int .i64 0, .int .i64 0, .int .i64 0] 87 (0, 0)) ∧ W.heap[w.heap.size + 1]? = some (.cells #[.int .i64 g, .int .i64 p, .int .i64 q] 87 (0, 0)) ∧ Below w.heap.size w W
set_option maxRecDepth 100000 in
theorem Two.start (w : World) (g p q : Int) : Two w g p q ((w.alloc (.cells #[.int .i64 0, .int .i64 0, .int .i64 0] 87)).alloc (.cells #[.int .i64 g, .int .i64 p, .int .i64 q] 87)).drew := by
  refine ⟨?_, ?_, (((Below.refl _ _).alloc (Nat.le_refl _) _).alloc (by simp) _).drew⟩
  · show ((w.heap.push _).push _)[w.heap.size]? = _
    simp only [Array.getElem?_push, Array.size_push]
    rw [if_neg (by omega), if_pos trivial]
  · show ((w.heap.push _).push _)[w.heap.size + 1]? = _
    simp only [Array.getElem?_push, Array.size_push]
    rw [if_pos trivial]
theorem lt_of_heap {W : World} {b : Nat} {o : Obj} (h : W.heap[b]? = some o) : b < W.heap.size := by
  rcases Nat.lt_or_ge b W.heap.size with h' | h'
  · exact h'
  · rw [Array.getElem?_eq_none h'] at h; cases h
theorem Two.call {w W W' : World} {g p q : Int} (h : Two w g p q W) (hb : Below W.heap.size W W') : Two w g p q W' :=
  ⟨(hb.block _ (lt_of_heap h.1)).trans h.1, (hb.block _ (lt_of_heap h.2.1)).trans h.2.1, btrans h.2.2 h.2.2.size hb⟩
theorem Two.cells {w W : World} {g p q : Int} (h : Two w g p q W) : (W.cell? ⟨w.heap.size, 0, none⟩ = some (.int .i64 0) ∧ W.cell? ⟨w.heap.size, 1, none⟩ = some (.int .i64 0) ∧ W.cell? ⟨w.heap.size, 2, none⟩ = some (.int .i64 0)) ∧
    (W.cell? ⟨w.heap.size + 1, 0, none⟩ = some (.int .i64 g) ∧ W.cell? ⟨w.heap.size + 1, 1, none⟩ = some (.int .i64 p) ∧ W.cell? ⟨w.heap.size + 1, 2, none⟩ = some (.int .i64 q)) ∧
    (W.frozen? ⟨w.heap.size, 0, none⟩ = false ∧ W.frozen? ⟨w.heap.size, 1, none⟩ = false ∧ W.frozen? ⟨w.heap.size, 2, none⟩ = false) := by
  obtain ⟨h1, h2, _⟩ := h
  refine ⟨⟨?_, ?_, ?_⟩, ⟨?_, ?_, ?_⟩, ⟨?_, ?_, ?_⟩⟩ <;> simp [World.cell?, World.frozen?, h1, h2]
theorem fld_eq (l : List UInt8) (a n : Nat) : fld l a n = num ((l.take (a + n)).drop a) := by
  unfold fld; rw [List.drop_take, show a + n - a = n by omega]
set_option maxRecDepth 100000 in
/-- what Open answers, by the numbers that it reads -/
theorem fields_of (l : List UInt8) (h : l.length = 64) (g p q n : Nat) (hg : g = num (l.take 6)) (hp : p = num ((l.take 8).drop 6)) (hq : q = num ((l.take 10).drop 8)) (hn : n = num ((l.take 12).drop 10)) :
    openS l = (if stampB g p q = true ∧ n ≤ 40 then (if sealedL g p q ((l.drop 16).take n) = l then (((g : Int), (p : Int), (q : Int)), (l.drop 16).take n, (0 : Int)) else ((0, 0, 0), [], 20)) else ((0, 0, 0), [], 20)) := by
  have eg : fld l 0 6 = g := by rw [fld_eq, hg]; rfl
  have ep : fld l 6 2 = p := by rw [fld_eq, hp]
  have eq : fld l 8 2 = q := by rw [fld_eq, hq]
  have en : fld l 10 2 = n := by rw [fld_eq, hn]
  unfold openS
  rw [if_neg (by omega), if_neg (by omega), eg, ep, eq, en]
set_option maxRecDepth 100000 in
set_option maxHeartbeats 1000000 in
theorem Open_any (l : List UInt8) (w : World) (hl : l.length ≤ 9223372036854775807) :
    Calls Try.prog 55 #[.string (bs l)] w fun e w' =>
      e = .returned (.tuple #[.agg #[.int .i64 (openS l).1.1, .int .i64 (openS l).1.2.1, .int .i64 (openS l).1.2.2], .string (bs (openS l).2.1), .int .i64 (openS l).2.2]) ∧ Below w.heap.size w w' := by
  by_cases h1 : l.length < 64
  · have hfin : openS l = ((0, 0, 0), [], 6) := by unfold openS; rw [if_pos h1]
    rw [hfin]
    clear hfin
    go_enter Try.func55, Try.ntmps55
    go_wp2
    exact bodyPost_ret (v := .tuple #[.agg #[.int .i64 0, .int .i64 0, .int .i64 0], .string (bs []), .int .i64 6]) (by simp [results, Try.results55, go_sem]; rfl) rfl ⟨rfl, (Below.refl _ _).alloc (Nat.le_refl _) _⟩
  · by_cases h2 : 64 < l.length
    · have hfin : openS l = ((0, 0, 0), [], 20) := by unfold openS; rw [if_neg h1, if_pos h2]
      rw [hfin]
      clear hfin
      go_enter Try.func55, Try.ntmps55
      go_wp2
      exact bodyPost_ret (v := .tuple #[.agg #[.int .i64 0, .int .i64 0, .int .i64 0], .string (bs []), .int .i64 20]) (by simp [results, Try.results55, go_sem]; rfl) rfl ⟨rfl, (Below.refl _ _).alloc (Nat.le_refl _) _⟩
    · go_enter Try.func55, Try.ntmps55
      go_upto_region 5 with (fail)
      have H6 := Lib.hid (show (l.take 6).length ≤ 6 by rw [List.length_take]; omega)
      have H8 := Lib.hid (show ((l.take 8).drop 6).length ≤ 6 by rw [List.length_drop, List.length_take]; omega)
      have H10 := Lib.hid (show ((l.take 10).drop 8).length ≤ 6 by rw [List.length_drop, List.length_take]; omega)
      have H12 := Lib.hid (show ((l.take 12).drop 10).length ≤ 6 by rw [List.length_drop, List.length_take]; omega)
      have i6 : (6 : Int) ≤ l.length := by omega
      have i8 : (8 : Int) ≤ l.length := by omega
      have i10 : (10 : Int) ≤ l.length := by omega
      have i12 : (12 : Int) ≤ l.length := by omega
      obtain ⟨g, hg⟩ : ∃ g, g = num (l.take 6) := ⟨_, rfl⟩
      obtain ⟨p, hp⟩ : ∃ p, p = num ((l.take 8).drop 6) := ⟨_, rfl⟩
      obtain ⟨q, hq⟩ : ∃ q, q = num ((l.take 10).drop 8) := ⟨_, rfl⟩
      obtain ⟨n, hn⟩ : ∃ n, n = num ((l.take 12).drop 10) := ⟨_, rfl⟩
      have HG := Lib.hid hg; clear hg
      have HP := Lib.hid hp; clear hp
      have HQ := Lib.hid hq; clear hq
      have HNN := Lib.hid hn; clear hn
      go_cut [5] (fun s5 wx => s5 = .pointer (some ⟨w.heap.size + 1, 0, none⟩) ∧ wx = ((w.alloc (.cells #[.int .i64 0, .int .i64 0, .int .i64 0] 87)).alloc (.cells #[.int .i64 g, .int .i64 p, .int .i64 q] 87)).drew)
      case first =>
        go_region_law (first
          | (go_simp; go_at_call 96; refine (number_any _ _ (by first | exact H6.out | exact H8.out | exact H10.out)).mono ?_; (first | rw [← HG.out] | rw [← HP.out] | rw [← HQ.out]); rintro e w1 ⟨rfl, rfl⟩))
        all_goals go_wp2_with fail
        all_goals go_meet
        all_goals exact ⟨rfl, rfl⟩
      case rest =>
        obtain ⟨rfl, rfl⟩ := hcut
        have hfld := fields_of l (by omega) g p q n HG.out HP.out HQ.out HNN.out
        have HF := Lib.hid hfld; clear hfld
        have hT := Two.start w g p q
        have hdr : (l.take (16 + n)).drop 16 = (l.drop 16).take n := by rw [List.drop_take, show 16 + n - 16 = n by omega]
        have HDR := Lib.hid hdr; clear hdr
        by_cases hv : stampB g p q = true
        · by_cases hn : n ≤ 40
          · have hs := hv
            clear hv
            have HS := Lib.hid hs; clear hs
            have HB := Lib.hid (stamp_bounds HS.out)
            have hdl : ((l.take (16 + n)).drop 16).length ≤ 40 := by rw [HDR.out, List.length_take]; omega
            have HDL := Lib.hid hdl; clear hdl
            have i16 : (16 : Int) + n ≤ l.length := by omega
            by_cases hq : sealedL g p q ((l.drop 16).take n) = l
            · have hfin : openS l = (((g : Int), (p : Int), (q : Int)), (l.drop 16).take n, (0 : Int)) := by rw [HF.out, if_pos ⟨HS.out, hn⟩, if_pos hq]
              have hc : (sealedL g p q ((l.take (16 + n)).drop 16) == l) = true := by rw [HDR.out]; simpa using hq
              have HFIN := Lib.hid hfin; clear hfin hq HF
              go_wp2_with (first
                | (go_at_call 96; refine (number_any _ _ H12.out).mono ?_; rw [← HNN.out]; rintro e w1 ⟨rfl, rfl⟩)
                | (go_at_call 92; refine (ValidStamp_any _ _ _ _).mono ?_; rw [HS.out]; rintro e w1 ⟨rfl, hb⟩; have hT1 := hT.call hb; clear hb hT; obtain ⟨⟨a0, a1, a2⟩, ⟨b0, b1, b2⟩, ⟨f0, f1, f2⟩⟩ := hT1.cells)
                | (go_at_call 93; refine (sealed_any _ _ _ _ _ HB.out.1 HB.out.2.1 HB.out.2.2.1 HB.out.2.2.2.1 HB.out.2.2.2.2.1 HB.out.2.2.2.2.2 HDL.out).mono ?_; rintro e w2 ⟨rfl, hb⟩; have hT2 := hT1.call hb; clear hb a0 a1 a2 b0 b1 b2 f0 f1 f2 hT1; obtain ⟨⟨a0, a1, a2⟩, ⟨b0, b1, b2⟩, ⟨f0, f1, f2⟩⟩ := hT2.cells))
              exact bodyPost_ret (v := .tuple #[.agg #[.int .i64 (g : Int), .int .i64 (p : Int), .int .i64 (q : Int)], .string (bs ((l.take (16 + n)).drop 16)), .int .i64 0]) (by simp [results, Try.results55, go_sem, a0, a1, a2]) rfl ⟨by rw [HFIN.out]; rw [HDR.out], ((hT2.2.2.setCell (Nat.le_refl _) _).setCell (Nat.le_refl _) _).setCell (Nat.le_refl _) _⟩
            · have hfin : openS l = ((0, 0, 0), [], 20) := by rw [HF.out, if_pos ⟨HS.out, hn⟩, if_neg hq]
              have hc : (sealedL g p q ((l.take (16 + n)).drop 16) == l) = false := by rw [HDR.out]; simpa using hq
              have HFIN := Lib.hid hfin; clear hfin hq HF
              go_wp2_with (first
                | (go_at_call 96; refine (number_any _ _ H12.out).mono ?_; rw [← HNN.out]; rintro e w1 ⟨rfl, rfl⟩)
                | (go_at_call 92; refine (ValidStamp_any _ _ _ _).mono ?_; rw [HS.out]; rintro e w1 ⟨rfl, hb⟩; have hT1 := hT.call hb; clear hb hT; obtain ⟨⟨a0, a1, a2⟩, ⟨b0, b1, b2⟩, ⟨f0, f1, f2⟩⟩ := hT1.cells)
                | (go_at_call 93; refine (sealed_any _ _ _ _ _ HB.out.1 HB.out.2.1 HB.out.2.2.1 HB.out.2.2.2.1 HB.out.2.2.2.2.1 HB.out.2.2.2.2.2 HDL.out).mono ?_; rintro e w2 ⟨rfl, hb⟩; have hT2 := hT1.call hb; clear hb a0 a1 a2 b0 b1 b2 f0 f1 f2 hT1; obtain ⟨⟨a0, a1, a2⟩, ⟨b0, b1, b2⟩, ⟨f0, f1, f2⟩⟩ := hT2.cells))
              exact bodyPost_ret (v := .tuple #[.agg #[.int .i64 0, .int .i64 0, .int .i64 0], .string (bs []), .int .i64 20]) (by simp [results, Try.results55, go_sem, a0, a1, a2]; rfl) rfl ⟨by rw [HFIN.out], ((hT2.2.2.setCell (Nat.le_refl _) _).setCell (Nat.le_refl _) _).setCell (Nat.le_refl _) _⟩
          · have HS := Lib.hid hv; clear hv
            have hfin : openS l = ((0, 0, 0), [], 20) := by rw [HF.out, if_neg (by intro h; exact hn h.2)]
            have HFIN := Lib.hid hfin; clear hfin HF
            have hn2 : 40 < n := by omega
            clear hn
            go_wp2_with (first
              | (go_at_call 96; refine (number_any _ _ H12.out).mono ?_; rw [← HNN.out]; rintro e w1 ⟨rfl, rfl⟩)
              | (go_at_call 92; refine (ValidStamp_any _ _ _ _).mono ?_; rw [HS.out]; rintro e w1 ⟨rfl, hb⟩; have hT1 := hT.call hb; clear hb hT; obtain ⟨⟨a0, a1, a2⟩, ⟨b0, b1, b2⟩, ⟨f0, f1, f2⟩⟩ := hT1.cells))
            exact bodyPost_ret (v := .tuple #[.agg #[.int .i64 0, .int .i64 0, .int .i64 0], .string (bs []), .int .i64 20]) (by simp [results, Try.results55, go_sem, a0, a1, a2]; rfl) rfl ⟨by rw [HFIN.out], ((hT1.2.2.setCell (Nat.le_refl _) _).setCell (Nat.le_refl _) _).setCell (Nat.le_refl _) _⟩
        · have hv' : stampB g p q = false := by simpa using hv
          have HS := Lib.hid hv'; clear hv'
          have hfin : openS l = ((0, 0, 0), [], 20) := by rw [HF.out, if_neg (by intro h; exact hv h.1)]
          have HFIN := Lib.hid hfin; clear hfin HF hv
          go_wp2_with (first
            | (go_at_call 96; refine (number_any _ _ H12.out).mono ?_; rw [← HNN.out]; rintro e w1 ⟨rfl, rfl⟩)
            | (go_at_call 92; refine (ValidStamp_any _ _ _ _).mono ?_; rw [HS.out]; rintro e w1 ⟨rfl, hb⟩; have hT1 := hT.call hb; clear hb hT; obtain ⟨⟨a0, a1, a2⟩, ⟨b0, b1, b2⟩, ⟨f0, f1, f2⟩⟩ := hT1.cells))
          exact bodyPost_ret (v := .tuple #[.agg #[.int .i64 0, .int .i64 0, .int .i64 0], .string (bs []), .int .i64 20]) (by simp [results, Try.results55, go_sem, a0, a1, a2]; rfl) rfl ⟨by rw [HFIN.out], ((hT1.2.2.setCell (Nat.le_refl _) _).setCell (Nat.le_refl _) _).setCell (Nat.le_refl _) _⟩
end Go.Proofs.Ytkpfkknldeafkaa
namespace Go.Proofs.Ytkpfkknldeafkaa
open Go.RowKit

theorem run_append_none_cap {P : Program} {w : World} (base : Nat) (t ty e : TypeId) (i : TypeInfo) (size : Nat) (ht : P.underlying t = some (.slice e)) (hi : P.info? e = some i)
    (v : Value) (n c : Nat) (xs : List Value) (hown : w.ownsRow base e size v n xs) : (Builtin.append_ #[t, t] ty #[v, .slice none 0 c]).run P w = .ok v w := by
  rcases hown.2 with ⟨rfl, rfl⟩ | ⟨g, cap, cur, rfl, _, _, hnc, _⟩
  · simp [Builtin.append_, run_underlying ht, sizeOf, typeInfo, hi, Builtin.lenOf, Builtin.firstCells]
  · simp [Builtin.append_, run_underlying ht, sizeOf, typeInfo, hi, Builtin.lenOf, Builtin.firstCells, hnc, storeCells]

set_option maxRecDepth 100000 in
/-- 'v = append(v, u...)', v a slice of strings of the call's own, u any slice of strings -/
theorem wpList_append_strs {w1 : World} {ops : Array Oper} {rest : List Oper} {o : Oper} {a : Act} {Q : Exit → Act → World → Prop} (hgd : o.guard = none) (s x : Operand)
    (ho : o.op = .call { callee := .builtin .append, args := #[s, x], argTypes := #[35, 35] }) (B : Nat) (v u : Value) (L M : List (List UInt8)) (hown : w1.ownsRow B 9 1 v L.length (L.map strV)) (hS : StrS w1 u M)
    (hs : a.eval s = v) (hx : a.eval x = u) (hlen : L.length ≤ 1000000000000) (hlen2 : M.length ≤ 1000000000000) (W0 : World) (hbel : Below B W0 w1) (hB : B ≤ w1.heap.size)
    (h : ∀ v' w', w'.ownsRow B 9 1 v' (L ++ M).length ((L ++ M).map strV) → Below B W0 w' → wpList Try.prog ops Q rest (a.put o.dst v') w') :
    wpList Try.prog ops Q (o :: rest) a w1 := by
  obtain ⟨i0, hi, hz0, hz1, hz2⟩ := info_parts Try.info9
  obtain ⟨ad, cap, rfl, hcap, hcell⟩ := hS
  cases ad with
  | none =>
    have hM : M = [] := by
      rcases M with _ | ⟨m, M'⟩
      · rfl
      · obtain ⟨b, off, hh, _⟩ := hcell (by simp)
        cases hh
    subst hM
    refine wpList_plain hgd fun K hK => ?_
    have hrun := run_append_none_cap (P := Try.prog) (w := w1) B 35 o.type 9 i0 1 Try.underlying35 hi v L.length cap (L.map strV) hown
    unfold Oper.wp
    simp [execOp, ho, resolve, invoke, builtin, hs, hx, hrun, Result.andThen]
    exact hK _ _ (h v w1 (by simpa using hown) hbel)
  | some ad =>
    have hnews : ∀ j y, (M.map strV)[j]? = some y → w1.cell? (ad.add j) = some y := by
      intro j y hj
      rw [List.getElem?_map] at hj
      rcases Nat.lt_or_ge j M.length with hjl | hjl
      · rw [List.getElem?_eq_getElem hjl] at hj
        simp only [Option.map_some, Option.some.injEq] at hj
        subst hj
        obtain ⟨b, off, hh, hc⟩ := hcell (by intro h0; rw [h0] at hjl; simp at hjl)
        cases hh
        have e : (⟨b, off, none⟩ : Addr).add j = ⟨b, off + j, none⟩ := by unfold Addr.add; split <;> simp_all
        rw [e]; exact hc j hjl
      · rw [List.getElem?_eq_none hjl] at hj; cases hj
    refine wpList_append_own _ hgd s x 35 ho B 9 i0 (.string ⟨#[]⟩) 1 16 Try.underlying35 hi hz0 hz1 hz2 rfl (by decide) v L.length (L.map strV) hs hown ad M.length cap (M.map strV) hx (by simp) hnews ?_ ?_ ?_ hB ?_
    · intro y hy
      obtain ⟨z, _, rfl⟩ := List.mem_map.1 hy
      rfl
    · unfold maxLen; omega
    · omega
    · intro v' w2 hown2 hgrow _
      refine h v' w2 (by simpa using hown2) (hbel.grown hgrow hB ?_)
      intro k hk
      exact (hown.lt k hk).1
end Go.Proofs.Ytkpfkknldeafkaa
namespace Go.Proofs.Ytkpfkknldeafkaa
open Go.RowKit

theorem takeH {P : Program} {ops : Array Oper} {Q : Exit → Act → World → Prop} {md : Region.Mode} {S : World → Prop} {i : Nat} {oi : Oper} {v : Value} {fuel : Nat} {listed : Array Bool} {tm : Array Value} {df : List Deferred} {w : World} (d : Nat) (hi : ops[i]? = some oi) (hd : oi.dst = some d)
    (hs : Region.noSelect ops = true) (hf : Region.free md ops listed i = true) (hr : (Region.ready md ops listed).contains i = true)
    (hQ : ∀ c a w, Q (.panic c) (a.put (some d) v) w → Q (.panic c) a w) (hy : YieldsIf P ops S oi v ⟨tm, df⟩) (hS : S w)
    (h : wpAnyH P md ops Q S fuel (listed.setIfInBounds i true) ⟨tm.setIfInBounds d v, df⟩ w) : wpAnyH P md ops Q S (fuel + 1) listed ⟨tm, df⟩ w :=
  wpAnyH_take hi hs hf hr (by rw [hd]; exact hQ) hy hS (by rw [hd]; exact h)
end Go.Proofs.Ytkpfkknldeafkaa
namespace Go.Proofs.Ytkpfkknldeafkaa
open Go.RowKit

/-- u is a slice of n elements whose cells are xs, whatever its address and its capacity -/
def CellsAt (W : World) (u : Value) (n : Nat) (xs : List Value) : Prop :=
  ∃ ad cap, u = .slice ad n cap ∧ (xs ≠ [] → ∃ b off, ad = some ⟨b, off, none⟩ ∧ ∀ j y, xs[j]? = some y → W.cell? ⟨b, off + j, none⟩ = some y)
set_option maxRecDepth 100000 in
theorem CellsAt.below {W W' : World} {u : Value} {n : Nat} {xs : List Value} (h : CellsAt W u n xs) (hb : Below W.heap.size W W') : CellsAt W' u n xs := by
  obtain ⟨ad, cap, rfl, hx⟩ := h
  refine ⟨ad, cap, rfl, fun hne => ?_⟩
  obtain ⟨b, off, rfl, hc⟩ := hx hne
  refine ⟨b, off, rfl, fun j y hj => ?_⟩
  have := hc j y hj
  rw [(bcell hb).1 _ _ (World.block_lt_of_cell? W _ this)]
  exact this

set_option maxRecDepth 100000 in
/-- 'v = append(v, u...)', v of the call's own, u any slice of known cells -/
theorem wpList_append_any {P : Program} {w1 : World} {ops : Array Oper} {rest : List Oper} {o : Oper} {a : Act} {Q : Exit → Act → World → Prop} (hgd : o.guard = none) (s x : Operand) (t : TypeId)
    (ho : o.op = .call { callee := .builtin .append, args := #[s, x], argTypes := #[t, t] })
    (B : Nat) (e : TypeId) (i : TypeInfo) (z : Value) (size bytes : Nat) (ht : P.underlying t = some (.slice e)) (hi : P.info? e = some i) (hz : i.zero = some z)
    (hsize : i.size = size) (hby : i.bytes = bytes) (hzs : z.cells.size = size) (hsz : 0 < size)
    (v u : Value) (n m : Nat) (xs ys : List Value) (hs : a.eval s = v) (hown : w1.ownsRow B e size v n xs) (hx : a.eval x = u) (hU : CellsAt w1 u m ys) (hl : ys.length = m * size) (h1 : ∀ y ∈ ys, y.oneCell' = true)
    (h63 : n + m ≤ maxLen) (hbytes : ((n + m) + (n + m) / 4 + 192) * bytes ≤ 281474976710656) (W0 : World) (B0 : Nat) (hbel : Below B0 W0 w1) (hB : B ≤ w1.heap.size) (hB0 : B0 ≤ B)
    (h : ∀ v' w', w'.ownsRow B e size v' (n + m) (xs ++ ys) → Below B0 W0 w' → w1.grownBy w' v.ownBlock → wpList P ops Q rest (a.put o.dst v') w') :
    wpList P ops Q (o :: rest) a w1 := by
  obtain ⟨ad, cap, rfl, hcell⟩ := hU
  cases ad with
  | none =>
    have hM : ys = [] := by
      rcases ys with _ | ⟨y, r⟩
      · rfl
      · obtain ⟨b, off, hh, _⟩ := hcell (by simp)
        cases hh
    subst hM
    have hm : m = 0 := by
      rcases Nat.eq_zero_or_pos m with h0 | h0
      · exact h0
      · have := Nat.mul_pos h0 hsz; rw [← hl] at this; simp at this
    subst hm
    refine wpList_plain hgd fun K hK => ?_
    have hrun : (Builtin.append_ #[t, t] o.type #[v, .slice none 0 cap]).run P w1 = .ok v w1 := by
      rcases hown.2 with ⟨rfl, rfl⟩ | ⟨g, cap, cur, rfl, _, _, hnc, _⟩
      · simp [Builtin.append_, run_underlying ht, sizeOf, typeInfo, hi, Builtin.lenOf, Builtin.firstCells]
      · simp [Builtin.append_, run_underlying ht, sizeOf, typeInfo, hi, Builtin.lenOf, Builtin.firstCells, hnc, storeCells]
    unfold Oper.wp
    simp [execOp, ho, resolve, invoke, builtin, hs, hx, hrun, Result.andThen]
    exact hK _ _ (h v w1 (by simpa using hown) hbel ⟨rfl, rfl, rfl, Nat.le_refl _, fun _ _ _ => rfl⟩)
  | some ad =>
    have hnews : ∀ j y, ys[j]? = some y → w1.cell? (ad.add j) = some y := by
      intro j y hj
      obtain ⟨b, off, hh, hc⟩ := hcell (by intro h0; rw [h0] at hj; simp at hj)
      cases hh
      have e : (⟨b, off, none⟩ : Addr).add j = ⟨b, off + j, none⟩ := by unfold Addr.add; split <;> simp_all
      rw [e]; exact hc j y hj
    refine wpList_append_own_wide _ hgd s x t ho B e i z size bytes ht hi hz hsize hby hzs hsz v n xs hs hown ad m cap ys hx hl hnews h1 h63 hbytes hB ?_
    intro v' w2 hown2 hgrow _
    refine h v' w2 hown2 (hbel.grown hgrow (by have := hbel.size; omega) ?_) hgrow
    intro k hk
    have := (hown.lt k hk).1; omega

set_option maxRecDepth 100000 in
/-- the same in a region that draws its order -/
theorem step_append_wide {P : Program} (w1 : World) {ops : Array Oper} {o : Oper} {a : Act} {K : Act → World → Prop} {Q : Exit → Act → World → Prop} {E : Prop} (hgd : o.guard = none) (s x : Operand) (t : TypeId)
    (ho : o.op = .call { callee := .builtin .append, args := #[s, x], argTypes := #[t, t] })
    (B : Nat) (e : TypeId) (i : TypeInfo) (z : Value) (size bytes : Nat) (ht : P.underlying t = some (.slice e)) (hi : P.info? e = some i) (hz : i.zero = some z)
    (hsize : i.size = size) (hby : i.bytes = bytes) (hzs : z.cells.size = size) (hsz : 0 < size)
    (v : Value) (n : Nat) (xs : List Value) (hs : a.eval s = v) (hown : w1.ownsRow B e size v n xs)
    (ad : Addr) (m c : Nat) (news : List Value) (hx : a.eval x = .slice (some ad) m c) (hl : news.length = m * size) (hnews : ∀ j u, news[j]? = some u → w1.cell? (ad.add j) = some u) (h1 : ∀ u ∈ news, u.oneCell' = true)
    (hm : 0 < m) (h63 : n + m ≤ maxLen) (hbytes : ((n + m) + (n + m) / 4 + 192) * bytes ≤ 281474976710656) (hbase : B ≤ w1.heap.size)
    (h : ∀ g cap w', w'.ownsRow B e size (.slice (some ⟨g, 0, none⟩) (n + m) cap) (n + m) (xs ++ news) → w1.grownBy w' v.ownBlock → K (a.put o.dst (.slice (some ⟨g, 0, none⟩) (n + m) cap)) w') :
    if Region.wanted o (yielded ops a.tmps) = true then Oper.wp P o a w1 K Q else E := by
  have hw : Region.wanted o (yielded ops a.tmps) = true := by simp [Region.wanted, hgd]
  rw [if_pos hw]
  refine wp_append_own_wide w1 s x t ho B e i z size bytes ht hi hz hsize hby hzs hsz v n xs hs hown ad m c news hx hl hnews h1 h63 hbytes hbase ?_
  intro v' w' h2 h3 h4
  rcases h2.2 with ⟨rfl, h0⟩ | ⟨g, cap, cur, rfl, _⟩
  · omega
  · exact h g cap w' h2 h3
set_option maxRecDepth 100000 in
/-- a row of the call's own lies in no block of another type -/
theorem own_other {w1 : World} {B : Nat} {e T : TypeId} {k n g cap b : Nat} {xs : List Value} {cs : Array Value} (h : w1.ownsRow B e k (.slice (some ⟨g, 0, none⟩) n cap) n xs) (hb : w1.heap[b]? = some (.cells cs T (0, 0))) (hT : T ≠ e) : g ≠ b := by
  intro hgb
  subst hgb
  rcases h.2 with ⟨h1, _⟩ | ⟨g2, c2, cur, h1, _, h3, _⟩
  · cases h1
  · cases h1
    rw [hb] at h3
    cases h3
    exact hT rfl
end Go.Proofs.Ytkpfkknldeafkaa
namespace Go.Proofs.Ytkpfkknldeafkaa
open Go.RowKit

structure Dk where
  S : List (List UInt8)
  P : List (Int × List UInt8)
  fuse : Int
  ops : Int
  dead : Bool
deriving DecidableEq

def okW (n : Nat) (x : Int × List UInt8) : Bool := decide (0 ≤ x.1) && (decide (x.1 < (n : Int)) && decide (x.2.length = 64))
def len64 (s : List UInt8) : Bool := decide (s.length = 64)
def numsB (d : Dk) : Bool := decide (16 ≤ d.S.length ∧ d.S.length ≤ 1024 ∧ 0 ≤ d.fuse ∧ d.fuse ≤ 1099511627776 ∧ 0 ≤ d.ops ∧ d.ops ≤ 1099511627776)
def validB (d : Dk) : Bool := numsB d && (d.S.all len64 && d.P.all (okW d.S.length))
def hasB (d : Dk) (at_ : Int) : Bool := decide (0 ≤ at_) && decide (at_ < (d.S.length : Int))
theorem okW_iff (n : Nat) (x : Int × List UInt8) : okW n x = true ↔ 0 ≤ x.1 ∧ x.1 < (n : Int) ∧ x.2.length = 64 := by unfold okW; simp
theorem len64_iff (s : List UInt8) : len64 s = true ↔ s.length = 64 := by unfold len64; simp
theorem numsB_iff (d : Dk) : numsB d = true ↔ 16 ≤ d.S.length ∧ d.S.length ≤ 1024 ∧ 0 ≤ d.fuse ∧ d.fuse ≤ 1099511627776 ∧ 0 ≤ d.ops ∧ d.ops ≤ 1099511627776 := by unfold numsB; simp
theorem numsB_no (d : Dk) (h : numsB d = false) : validB d = false := by unfold validB; rw [h]; rfl
theorem validB_iff (d : Dk) : validB d = true ↔ numsB d = true ∧ (∀ s ∈ d.S, s.length = 64) ∧ ∀ x ∈ d.P, 0 ≤ x.1 ∧ x.1 < (d.S.length : Int) ∧ x.2.length = 64 := by
  unfold validB
  rw [Bool.and_eq_true, Bool.and_eq_true, List.all_eq_true, List.all_eq_true]
  simp only [len64_iff, okW_iff]
theorem valid_sec {d : Dk} (k : Nat) (hk : k < d.S.length) (h : d.S[k].length ≠ 64) : validB d = false := by
  rw [Bool.eq_false_iff]
  intro h2
  exact h (((validB_iff d).1 h2).2.1 _ (List.getElem_mem hk))
theorem valid_pen {d : Dk} (k : Nat) (hk : k < d.P.length) (h : ¬ (0 ≤ d.P[k].1 ∧ d.P[k].1 < (d.S.length : Int) ∧ d.P[k].2.length = 64)) : validB d = false := by
  rw [Bool.eq_false_iff]
  intro h2
  exact h (((validB_iff d).1 h2).2.2 _ (List.getElem_mem hk))
theorem valid_all {d : Dk} (hn : numsB d = true) (hs : (d.S.take d.S.length).all len64 = true) (hp : (d.P.take d.P.length).all (okW d.S.length) = true) : validB d = true := by
  rw [List.take_length] at hs hp
  unfold validB
  rw [hn, hs, hp]; rfl

/-- the last write of a sector, or s -/
def lastW (s : List UInt8) (P : List (Int × List UInt8)) (at_ : Int) : List UInt8 := P.foldl (fun s x => if x.1 = at_ then x.2 else s) s
theorem lastW_snoc (s : List UInt8) (P : List (Int × List UInt8)) (x : Int × List UInt8) (at_ : Int) : lastW s (P ++ [x]) at_ = if x.1 = at_ then x.2 else lastW s P at_ := by
  unfold lastW; rw [List.foldl_append]; rfl
def readS (d : Dk) (at_ : Int) : List UInt8 × Int :=
  if validB d = true ∧ hasB d at_ = true then (if d.dead = true then ([], 18) else (lastW (d.S.getD at_.toNat []) d.P at_, 0)) else ([], 1)
/-- an operation happens: either the fuse blows, or f is done -/
def happenS (d : Dk) (f : Dk → Dk) : Dk × Int :=
  if d.fuse = 1 then ({ d with ops := min (d.ops + 1) 1099511627776, fuse := 0, dead := true }, 18)
  else (f { d with ops := min (d.ops + 1) 1099511627776, fuse := max (d.fuse - 1) 0 }, 0)
def addW (at_ : Int) (data : List UInt8) (d : Dk) : Dk := { d with P := d.P ++ [(at_, data)] }
def perform (S : List (List UInt8)) (P : List (Int × List UInt8)) : List (List UInt8) := P.foldl (fun S x => S.set x.1.toNat x.2) S
def syncD (d : Dk) : Dk := { d with S := perform d.S d.P, P := [] }
def writeS (d : Dk) (at_ : Int) (data : List UInt8) : Dk × Int :=
  if validB d = true ∧ hasB d at_ = true ∧ data.length = 64 then (if d.dead = true then (d, 18) else happenS d (addW at_ data)) else (d, 1)
def syncS (d : Dk) : Dk × Int := if validB d = true then (if d.dead = true then (d, 18) else happenS d syncD) else (d, 1)
def fuseS (d : Dk) (n : Int) : Dk := if validB d = true then { d with fuse := min (max n 0) 1099511627776 } else d
theorem perform_snoc (S : List (List UInt8)) (P : List (Int × List UInt8)) (x : Int × List UInt8) : perform S (P ++ [x]) = (perform S P).set x.1.toNat x.2 := by
  unfold perform; rw [List.foldl_append]; rfl
theorem perform_len (S : List (List UInt8)) (P : List (Int × List UInt8)) : (perform S P).length = S.length := by
  unfold perform
  induction P generalizing S with
  | nil => rfl
  | cons x r ih => rw [List.foldl_cons, ih, List.length_set]

/-! ### in memory -/
theorem lt_heap {W : World} {b : Nat} {o : Obj} (h : W.heap[b]? = some o) : b < W.heap.size := by
  rcases Nat.lt_or_ge b W.heap.size with h1 | h1
  · exact h1
  · rw [Array.getElem?_eq_none h1] at h; cases h
/-- block b holds these cells, and may be written -/
def Bx (b : Nat) (cs : Array Value) (T : TypeId) (W : World) : Prop := W.heap[b]? = some (.cells cs T (0, 0))
theorem Bx.lt {b : Nat} {cs : Array Value} {T : TypeId} {W : World} (h : Bx b cs T W) : b < W.heap.size := lt_heap h
theorem Bx.new (w : World) (cs : Array Value) (T : TypeId) : Bx w.heap.size cs T (w.alloc (.cells cs T)) := heap_alloc_new w _
theorem Bx.below {b B : Nat} {cs : Array Value} {T : TypeId} {W W' : World} (h : Bx b cs T W) (hb : Below B W W') (hB : b < B) : Bx b cs T W' := (hb.block _ hB).trans h
theorem Bx.call {b : Nat} {cs : Array Value} {T : TypeId} {W W' : World} (h : Bx b cs T W) (hb : Below W.heap.size W W') : Bx b cs T W' := h.below hb h.lt
theorem Bx.alloc {b : Nat} {cs : Array Value} {T : TypeId} {W : World} (h : Bx b cs T W) (o : Obj) : Bx b cs T (W.alloc o) := h.call ((Below.refl _ _).alloc (Nat.le_refl _) _)
theorem Bx.drew {b : Nat} {cs : Array Value} {T : TypeId} {W : World} (h : Bx b cs T W) : Bx b cs T W.drew := h
theorem Bx.cell {b : Nat} {cs : Array Value} {T : TypeId} {W : World} (h : Bx b cs T W) (i : Nat) : W.cell? ⟨b, i, none⟩ = cs[i]? := by
  unfold Bx at h; simp [World.cell?, h]
theorem Bx.free {b : Nat} {cs : Array Value} {T : TypeId} {W : World} (h : Bx b cs T W) (i : Nat) : W.frozen? ⟨b, i, none⟩ = false := by
  unfold Bx at h; simp [World.frozen?, h]

/-- v is a slice whose elements are the writes M -/
def WrS (W : World) (v : Value) (M : List (Int × List UInt8)) : Prop :=
  ∃ a cap, v = .slice a M.length cap ∧ M.length ≤ cap ∧ (M ≠ [] → ∃ b off, a = some ⟨b, off, none⟩ ∧ ∀ i (h : i < M.length), W.cell? ⟨b, off + i * 2, none⟩ = some (.int .i64 M[i].1) ∧ W.cell? ⟨b, off + i * 2 + 1, none⟩ = some (strV M[i].2))
set_option maxRecDepth 100000 in
theorem WrS.below {W W' : World} {v : Value} {M : List (Int × List UInt8)} (h : WrS W v M) (hb : Below W.heap.size W W') : WrS W' v M := by
  obtain ⟨a, cap, rfl, hc, hM⟩ := h
  refine ⟨a, cap, rfl, hc, fun hne => ?_⟩
  obtain ⟨b, off, rfl, hcell⟩ := hM hne
  refine ⟨b, off, rfl, fun i hi => ?_⟩
  obtain ⟨h1, h2⟩ := hcell i hi
  constructor
  · rw [(bcell hb).1 _ _ (World.block_lt_of_cell? W _ h1)]; exact h1
  · rw [(bcell hb).1 _ _ (World.block_lt_of_cell? W _ h2)]; exact h2
end Go.Proofs.Ytkpfkknldeafkaa
namespace Go.Proofs.Ytkpfkknldeafkaa
open Go.RowKit

/-- the two lists of a disk, as slices in memory -/
def Lists (W : World) (sa : Option Addr) (sc : Nat) (pa : Option Addr) (pc : Nat) (d : Dk) : Prop :=
  StrS W (.slice sa d.S.length sc) d.S ∧ WrS W (.slice pa d.P.length pc) d.P ∧ d.P.length ≤ 9000000000000 ∧ d.S.length ≤ 9000000000000
theorem Lists.below {W W' : World} {sa pa : Option Addr} {sc pc : Nat} {d : Dk} (h : Lists W sa sc pa pc d) (hb : Below W.heap.size W W') : Lists W' sa sc pa pc d := ⟨h.1.below hb, h.2.1.below hb, h.2.2⟩
theorem Lists.sec {W : World} {sa pa : Option Addr} {sc pc : Nat} {d : Dk} (h : Lists W sa sc pa pc d) (k : Nat) (hk : k < d.S.length) : ∃ b off, sa = some ⟨b, off, none⟩ ∧ d.S.length ≤ sc ∧ W.cell? ⟨b, off + k, none⟩ = some (.string (bs d.S[k])) := by
  obtain ⟨a, cap, he, hc, hx⟩ := h.1
  cases he
  obtain ⟨b, off, ha, hcell⟩ := hx (by intro h0; rw [h0] at hk; simp at hk)
  exact ⟨b, off, ha, hc, hcell k hk⟩
theorem Lists.pen {W : World} {sa pa : Option Addr} {sc pc : Nat} {d : Dk} (h : Lists W sa sc pa pc d) (k : Nat) (hk : k < d.P.length) : ∃ b off, pa = some ⟨b, off, none⟩ ∧ W.cell? ⟨b, off + k * 2, none⟩ = some (.int .i64 d.P[k].1) ∧ W.cell? ⟨b, off + k * 2 + 1, none⟩ = some (.string (bs d.P[k].2)) := by
  obtain ⟨a, cap, he, hc, hx⟩ := h.2.1
  cases he
  obtain ⟨b, off, ha, hcell⟩ := hx (by intro h0; rw [h0] at hk; simp at hk)
  exact ⟨b, off, ha, hcell k hk⟩

set_option maxRecDepth 100000 in
set_option maxHeartbeats 400000 in
theorem has_any (sa pa : Option Addr) (sc pc : Nat) (d : Dk) (n : Int) (w : World) :
    Calls Try.prog 99 #[.agg #[.slice sa d.S.length sc, .slice pa d.P.length pc, .int .i64 d.fuse, .int .i64 d.ops, .bool d.dead], .int .i64 n] w fun e w' => e = .returned (.bool (hasB d n)) ∧ Below w.heap.size w w' := by
  have hb := (Below.refl w.heap.size w).alloc (Nat.le_refl _) (.cells #[.slice sa d.S.length sc, .slice pa d.P.length pc, .int .i64 d.fuse, .int .i64 d.ops, .bool d.dead] 38)
  by_cases h0 : 0 ≤ n
  · by_cases h1 : n < (d.S.length : Int)
    · have HF := Lib.hid (show hasB d n = true by unfold hasB; simp [h0, h1])
      go_enter Try.func99, Try.ntmps99
      go_wp2
      go_ret
      exact ⟨by rw [HF.out]; rfl, hb⟩
    · have HF := Lib.hid (show hasB d n = false by unfold hasB; simp [h1])
      go_enter Try.func99, Try.ntmps99
      go_wp2
      go_ret
      exact ⟨by rw [HF.out]; rfl, hb⟩
  · have HF := Lib.hid (show hasB d n = false by unfold hasB; simp [h0])
    go_enter Try.func99, Try.ntmps99
    go_wp2
    go_ret
    exact ⟨by rw [HF.out]; rfl, hb⟩

set_option maxRecDepth 100000 in
set_option maxHeartbeats 4000000 in
theorem Valid_any (sa pa : Option Addr) (sc pc : Nat) (d : Dk) (w : World) (hD : Lists w sa sc pa pc d) :
    Calls Try.prog 69 #[.agg #[.slice sa d.S.length sc, .slice pa d.P.length pc, .int .i64 d.fuse, .int .i64 d.ops, .bool d.dead]] w fun e w' => e = .returned (.bool (validB d)) ∧ Below w.heap.size w w' := by
  have hb := (Below.refl w.heap.size w).alloc (Nat.le_refl _) (.cells #[.slice sa d.S.length sc, .slice pa d.P.length pc, .int .i64 d.fuse, .int .i64 d.ops, .bool d.dead] 38)
  cases hn : numsB d with
  | false =>
    have HF := Lib.hid (numsB_no d hn)
    have hno : ¬ (16 ≤ d.S.length ∧ d.S.length ≤ 1024 ∧ 0 ≤ d.fuse ∧ d.fuse ≤ 1099511627776 ∧ 0 ≤ d.ops ∧ d.ops ≤ 1099511627776) := by
      intro h; rw [(numsB_iff d).2 h] at hn; cases hn
    clear hn
    by_cases g0 : d.S.length < 16
    · clear hno
      go_enter Try.func69, Try.ntmps69
      go_wp2
      go_ret
      exact ⟨by rw [HF.out]; rfl, hb⟩
    · skip
      by_cases g1 : 1024 < d.S.length
      · clear hno
        go_enter Try.func69, Try.ntmps69
        go_wp2
        go_ret
        exact ⟨by rw [HF.out]; rfl, hb⟩
      · skip
        by_cases g2 : d.fuse < 0
        · clear hno
          go_enter Try.func69, Try.ntmps69
          go_wp2
          go_ret
          exact ⟨by rw [HF.out]; rfl, hb⟩
        · skip
          by_cases g3 : 1099511627776 < d.fuse
          · clear hno
            go_enter Try.func69, Try.ntmps69
            go_wp2
            go_ret
            exact ⟨by rw [HF.out]; rfl, hb⟩
          · skip
            by_cases g4 : d.ops < 0
            · clear hno
              go_enter Try.func69, Try.ntmps69
              go_wp2
              go_ret
              exact ⟨by rw [HF.out]; rfl, hb⟩
            · skip
              have g5 : 1099511627776 < d.ops := by omega
              clear hno
              go_enter Try.func69, Try.ntmps69
              go_wp2
              go_ret
              exact ⟨by rw [HF.out]; rfl, hb⟩
  | true =>
    obtain ⟨n1, n2, n3, n4, n5, n6⟩ := (numsB_iff d).1 hn
    have HN := Lib.hid hn
    have hPl := hD.2.2.1
    have hB0 := Bx.new w #[.slice sa d.S.length sc, .slice pa d.P.length pc, .int .i64 d.fuse, .int .i64 d.ops, .bool d.dead] 38
    clear hn
    go_enter Try.func69, Try.ntmps69
    go_wp2
    go_loopw [40] (fun i wr => ∃ k : Nat, k ≤ d.S.length ∧ i = .int .i64 k ∧ Hid ((d.S.take k).all len64 = true) ∧ Bx w.heap.size #[.slice sa d.S.length sc, .slice pa d.P.length pc, .int .i64 d.fuse, .int .i64 d.ops, .bool d.dead] 38 wr ∧ Below w.heap.size w wr) (fun i _ => d.S.length - (intOf i).toNat)
    case atStart => exact ⟨0, Nat.zero_le _, rfl, Lib.hid rfl, hB0, hb⟩
    case round =>
      obtain ⟨k, hk, rfl, HA, hB, hbw⟩ := hrel
      clear hB0 hb
      by_cases hlt : k < d.S.length
      · obtain ⟨b, off, rfl, hsc, c1⟩ := (hD.below (hbw.mono (Nat.le_refl _))).sec k hlt
        have hlt' : (k : Int) < (d.S.length : Int) := by omega
        by_cases h64 : d.S[k].length = 64
        · have t1 : ((d.S[k].length : Int) != 64) = false := by rw [h64]; rfl
          have HA2 : Hid ((d.S.take (k + 1)).all len64 = true) := Lib.hid (by
            rw [List.take_succ_eq_append_getElem hlt, List.all_append, HA.out]
            simp [(len64_iff _).2 h64])
          have H64 := Lib.hid h64; clear h64
          go_wp2
          go_roundw
          case rel => exact ⟨k + 1, by omega, by go_num, HA2, hB, hbw⟩
          case measure => simp [intOf]; omega
        · have t1 : ((d.S[k].length : Int) != 64) = true := by rw [bne_iff_ne]; omega
          have HF := Lib.hid (valid_sec k hlt h64)
          clear h64
          go_wp2
          go_ret
          exact ⟨by rw [HF.out]; rfl, hbw⟩
      · obtain rfl : k = d.S.length := by omega
        have a1 : wr.cell? ⟨w.heap.size, 1, none⟩ = some (.slice pa d.P.length pc) := hB.cell 1
        clear hlt
        go_wp2
        go_loopw [51] (fun i wr2 => ∃ k : Nat, k ≤ d.P.length ∧ i = .int .i64 k ∧ Hid ((d.P.take k).all (okW d.S.length) = true) ∧ Below w.heap.size w wr2) (fun i _ => d.P.length - (intOf i).toNat)
        case atStart => exact ⟨0, Nat.zero_le _, rfl, Lib.hid rfl, hbw⟩
        case round =>
          obtain ⟨j, hj, rfl, HP, hb2⟩ := hrel
          by_cases hlt : j < d.P.length
          · obtain ⟨b, off, rfl, c1, c2⟩ := (hD.below (hb2.mono (Nat.le_refl _))).pen j hlt
            have hlt' : (j : Int) < (d.P.length : Int) := by omega
            obtain ⟨x, hx⟩ : ∃ x, d.P[j] = x := ⟨_, rfl⟩
            rw [hx] at c1 c2
            have hb3 := hb2.alloc hb2.size (.cells #[.int .i64 x.1, .string (bs x.2)] 94)
            by_cases hok : 0 ≤ x.1 ∧ x.1 < (d.S.length : Int) ∧ x.2.length = 64
            · obtain ⟨k1, k2, k3⟩ := hok
              have t1 : ((x.2.length : Int) != 64) = false := by rw [k3]; rfl
              have HP2 : Hid ((d.P.take (j + 1)).all (okW d.S.length) = true) := Lib.hid (by
                rw [List.take_succ_eq_append_getElem hlt, List.all_append, HP.out, hx]
                simp [(okW_iff _ _).2 ⟨k1, k2, k3⟩])
              have HX := Lib.hid hx; clear hx
              have HK := Lib.hid k3; clear k3
              go_wp2
              go_roundw
              case rel => exact ⟨j + 1, by omega, by go_num, HP2, hb3⟩
              case measure => simp [intOf]; omega
            · have HF := Lib.hid (valid_pen j hlt (by rw [hx]; exact hok))
              have HX := Lib.hid hx; clear hx
              by_cases k1 : x.1 < 0
              · clear hok
                go_wp2
                go_ret
                exact ⟨by rw [HF.out]; rfl, hb3⟩
              · by_cases k2 : (d.S.length : Int) ≤ x.1
                · clear hok
                  go_wp2
                  go_ret
                  exact ⟨by rw [HF.out]; rfl, hb3⟩
                · have t1 : ((x.2.length : Int) != 64) = true := by rw [bne_iff_ne]; omega
                  clear hok
                  go_wp2
                  go_ret
                  exact ⟨by rw [HF.out]; rfl, hb3⟩
          · obtain rfl : j = d.P.length := by omega
            have HF := Lib.hid (valid_all HN.out HA.out HP.out)
            clear hlt
            go_wp2
            go_ret
            exact ⟨by rw [HF.out]; rfl, hb2⟩
end Go.Proofs.Ytkpfkknldeafkaa
namespace Go.Proofs.Ytkpfkknldeafkaa
open Go.RowKit

theorem Bx.set {b : Nat} {cs : Array Value} {T : TypeId} {W : World} (h : Bx b cs T W) (i : Nat) (v : Value) : Bx b (cs.setIfInBounds i v) T (W.setCell ⟨b, i, none⟩ v) :=
  heap_setCell_same W b i cs T v h
theorem Bx.other {b c i : Nat} {cs : Array Value} {T : TypeId} {W : World} (h : Bx b cs T W) (hne : b ≠ c) (v : Value) : Bx b cs T (W.setCell ⟨c, i, none⟩ v) :=
  (heap_setCell_other W ⟨c, i, none⟩ b v (fun e => hne (by simpa using e))).trans h
theorem grown_set (w : World) (a : Addr) (u : Value) : w.grownBy (w.setCell a u) (some a.block) :=
  ⟨rfl, rfl, rfl, by simp, fun k _ hk => heap_setCell_other w a k u (fun e => hk (by rw [e]))⟩
set_option maxRecDepth 100000 in
/-- a row of the call's own stands, whatever is stored below it -/
theorem own_set {B : Nat} {e : TypeId} {k : Nat} {v : Value} {n : Nat} {xs : List Value} {w : World} (h : w.ownsRow B e k v n xs) (b i : Nat) (hb : b < B) (u : Value) : (w.setCell ⟨b, i, none⟩ u).ownsRow B e k v n xs := by
  refine h.kept (grown_set w ⟨b, i, none⟩ u) ?_
  cases hv : v.ownBlock with
  | none => exact .inl rfl
  | some g =>
    refine .inr (fun e => ?_)
    have h2 := (h.lt g hv).1
    have h3 : g = b := by simpa using e
    omega

/-- writes as cells -/
def wcs (M : List (Int × List UInt8)) : List Value := M.flatMap fun x => [.int .i64 x.1, strV x.2]
theorem wcs_length (M : List (Int × List UInt8)) : (wcs M).length = M.length * 2 := by
  induction M with
  | nil => rfl
  | cons x r ih => simp [wcs] at ih ⊢; omega
theorem wcs_append (M N : List (Int × List UInt8)) : wcs (M ++ N) = wcs M ++ wcs N := by simp [wcs]
set_option maxRecDepth 100000 in
theorem wcs_get : ∀ (M : List (Int × List UInt8)) (i : Nat) (h : i < M.length), (wcs M)[i * 2]? = some (.int .i64 M[i].1) ∧ (wcs M)[i * 2 + 1]? = some (strV M[i].2)
  | x :: r, 0, _ => ⟨rfl, rfl⟩
  | x :: r, i + 1, h => by
    have := wcs_get r i (by simpa using h)
    have e : wcs (x :: r) = .int .i64 x.1 :: strV x.2 :: wcs r := rfl
    rw [e]
    constructor
    · rw [show (i + 1) * 2 = i * 2 + 1 + 1 by omega]; simpa using this.1
    · rw [show (i + 1) * 2 + 1 = i * 2 + 1 + 1 + 1 by omega]; simpa using this.2
set_option maxRecDepth 100000 in
theorem wcs_at (M : List (Int × List UInt8)) (j : Nat) (u : Value) (h : (wcs M)[j]? = some u) : ∃ (i : Nat) (hi : i < M.length), (j = i * 2 ∧ u = .int .i64 M[i].1) ∨ (j = i * 2 + 1 ∧ u = strV M[i].2) := by
  have hj : j < (wcs M).length := by
    rcases Nat.lt_or_ge j (wcs M).length with h1 | h1
    · exact h1
    · rw [List.getElem?_eq_none h1] at h; cases h
  rw [wcs_length] at hj
  have hi : j / 2 < M.length := by omega
  obtain ⟨h1, h2⟩ := wcs_get M (j / 2) hi
  refine ⟨j / 2, hi, ?_⟩
  rcases Nat.mod_two_eq_zero_or_one j with h0 | h0
  · left
    have e : j = j / 2 * 2 := by omega
    rw [← e] at h1
    exact ⟨e, by rw [h1] at h; exact (Option.some.inj h).symm⟩
  · right
    have e : j = j / 2 * 2 + 1 := by omega
    rw [← e] at h2
    exact ⟨e, by rw [h2] at h; exact (Option.some.inj h).symm⟩
theorem wcs_one (M : List (Int × List UInt8)) (u : Value) (h : u ∈ wcs M) : u.oneCell' = true := by
  obtain ⟨x, _, hx⟩ := List.mem_flatMap.1 h
  simp at hx
  rcases hx with rfl | rfl <;> rfl
theorem addr_add (b off i : Nat) : (⟨b, off, none⟩ : Addr).add i = ⟨b, off + i, none⟩ := by unfold Addr.add; split <;> simp_all
set_option maxRecDepth 100000 in
theorem WrS.of_own {W : World} {B : Nat} {v : Value} {M : List (Int × List UInt8)} (h : W.ownsRow B 94 2 v M.length (wcs M)) : WrS W v M := by
  rcases own_form h with ⟨rfl, h0⟩ | ⟨g, cap, rfl, hc, _⟩
  · have : M = [] := List.eq_nil_of_length_eq_zero h0
    subst this
    exact ⟨none, 0, rfl, Nat.le_refl _, fun hne => absurd rfl hne⟩
  · refine ⟨_, cap, rfl, hc, fun _ => ⟨g, 0, rfl, fun i hi => ?_⟩⟩
    obtain ⟨h1, h2⟩ := wcs_get M i hi
    have k1 := h.cells (g := g) rfl _ _ h1
    have k2 := h.cells (g := g) rfl _ _ h2
    rw [addr_add] at k1 k2
    rw [Nat.zero_add] at k1 k2 ⊢
    exact ⟨k1, k2⟩
theorem infoWrite : (Try.prog.info? 94).map (fun i => (i.zero, i.size, i.bytes)) = some (some (.agg #[.int .i64 0, .string ⟨#[]⟩]), 2, 24) := by kernel_rfl

set_option maxRecDepth 100000 in
set_option maxHeartbeats 1000000 in
theorem CloneStr_any (v : Value) (L : List (List UInt8)) (w : World) (hS : StrS w v L) (hl : L.length ≤ 9000000000000) :
    Calls Try.prog 105 #[v] w fun e w' => ∃ v', e = .returned v' ∧ w'.ownsRow w.heap.size 9 1 v' L.length (L.map strV) ∧ Below w.heap.size w w' := by
  obtain ⟨a, cap, rfl, hc, hx⟩ := hS
  have hq : ∀ (w : World) (a : Option Addr) (n c n' c' : Nat), (binOp .eql 35 (.slice a n c) (.slice none n' c')).run Try.prog w = .ok (.bool a.isNone) w := fun w a n c n' c' => Lib.run_eql_slice_nil w _ _ a n c n' c' Try.underlying35
  cases a with
  | none =>
    have h0 : L = [] := by
      cases L with
      | nil => rfl
      | cons x r => obtain ⟨b, off, ha, _⟩ := hx (by simp); cases ha
    subst h0
    go_enter Try.func105, Try.ntmps105
    go_wp2
    go_ret
    exact ⟨_, rfl, World.ownsRow_nil _ _ _ _, Below.refl _ _⟩
  | some ad =>
    obtain ⟨i0, hi, hz0, hz1, hz2⟩ := info_parts Try.info9
    have hnews : ∀ j u, (L.map strV)[j]? = some u → w.cell? (ad.add j) = some u := by
      intro j u hj
      have hjl : j < L.length := by
        rcases Nat.lt_or_ge j L.length with h | h
        · exact h
        · rw [List.getElem?_eq_none (by simpa using h)] at hj; cases hj
      obtain ⟨b, off, ha, hcell⟩ := hx (by intro h; rw [h] at hjl; simp at hjl)
      cases ha
      rw [addr_add, hcell j hjl]
      simp only [List.getElem?_map, List.getElem?_eq_getElem hjl, Option.map_some] at hj
      exact hj
    have HN := Lib.hid hnews; clear hnews hx
    go_enter Try.func105, Try.ntmps105
    go_wp2_with (at_builtin; refine wpList_append_own_wide _ rfl _ _ 35 rfl w.heap.size 9 i0 (.string ⟨#[]⟩) 1 16 Try.underlying35 hi hz0 hz1 hz2 rfl (by decide) _ _ _ rfl (World.ownsRow_made w #[] 0 (Nat.le_refl _) (Nat.zero_le _) (by simp)) ad L.length cap (L.map strV) rfl ?qc1 ?qc2 ?qc3 ?qc4 ?qc5 ?qc6 ?_)
    case qc1 => simp
    case qc2 =>
      intro j u hj
      exact Lib.cell?_alloc_some _ (HN.out j u hj)
    case qc3 =>
      intro y hy
      obtain ⟨z, _, rfl⟩ := List.mem_map.1 hy
      rfl
    case qc4 => unfold maxLen; omega
    case qc5 => omega
    case qc6 => simp
    intro v' w1 hown hgrow _
    go_wp2
    go_ret
    exact ⟨v', rfl, by simpa using hown, ((Below.refl _ w).alloc (Nat.le_refl _) _).grown hgrow (by simp) (by intro k hk; simp [Value.ownBlock] at hk; omega)⟩

set_option maxRecDepth 100000 in
set_option maxHeartbeats 1000000 in
theorem CloneWr_any (v : Value) (M : List (Int × List UInt8)) (w : World) (hS : WrS w v M) (hl : M.length ≤ 9000000000000) :
    Calls Try.prog 106 #[v] w fun e w' => ∃ v', e = .returned v' ∧ w'.ownsRow w.heap.size 94 2 v' M.length (wcs M) ∧ Below w.heap.size w w' := by
  obtain ⟨a, cap, rfl, hc, hx⟩ := hS
  have hq : ∀ (w : World) (a : Option Addr) (n c n' c' : Nat), (binOp .eql 36 (.slice a n c) (.slice none n' c')).run Try.prog w = .ok (.bool a.isNone) w := fun w a n c n' c' => Lib.run_eql_slice_nil w _ _ a n c n' c' Try.underlying36
  cases a with
  | none =>
    have h0 : M = [] := by
      cases M with
      | nil => rfl
      | cons x r => obtain ⟨b, off, ha, _⟩ := hx (by simp); cases ha
    subst h0
    go_enter Try.func106, Try.ntmps106
    go_wp2
    go_ret
    exact ⟨_, rfl, World.ownsRow_nil _ _ _ _, Below.refl _ _⟩
  | some ad =>
    obtain ⟨i0, hi, hz0, hz1, hz2⟩ := info_parts infoWrite
    have hnews : ∀ j u, (wcs M)[j]? = some u → w.cell? (ad.add j) = some u := by
      intro j u hj
      obtain ⟨i, hil, hcase⟩ := wcs_at M j u hj
      obtain ⟨b, off, ha, hcell⟩ := hx (by intro h; rw [h] at hil; simp at hil)
      cases ha
      rw [addr_add]
      rcases hcase with ⟨rfl, rfl⟩ | ⟨rfl, rfl⟩
      · exact (hcell i hil).1
      · exact (hcell i hil).2
    have HN := Lib.hid hnews; clear hnews hx
    go_enter Try.func106, Try.ntmps106
    go_wp2_with (at_builtin; refine wpList_append_own_wide _ rfl _ _ 36 rfl w.heap.size 94 i0 (.agg #[.int .i64 0, .string ⟨#[]⟩]) 2 24 Try.underlying36 hi hz0 hz1 hz2 rfl (by decide) _ _ _ rfl (World.ownsRow_made w #[] 0 (Nat.le_refl _) (Nat.zero_le _) (by simp)) ad M.length cap (wcs M) rfl ?qd1 ?qd2 ?qd3 ?qd4 ?qd5 ?qd6 ?_)
    case qd1 => exact wcs_length M
    case qd2 =>
      intro j u hj
      exact Lib.cell?_alloc_some _ (HN.out j u hj)
    case qd3 => exact wcs_one M
    case qd4 => unfold maxLen; omega
    case qd5 => omega
    case qd6 => simp
    intro v' w1 hown hgrow _
    go_wp2
    go_ret
    exact ⟨v', rfl, by simpa using hown, ((Below.refl _ w).alloc (Nat.le_refl _) _).grown hgrow (by simp) (by intro k hk; simp [Value.ownBlock] at hk; omega)⟩
end Go.Proofs.Ytkpfkknldeafkaa
namespace Go.Proofs.Ytkpfkknldeafkaa
open Go.RowKit

/-- the two lists lie in rows of the call's own, one above the other -/
def Owned (B : Nat) (d : Dk) (w : World) (vs vp : Value) : Prop :=
  ∃ B1, B ≤ B1 ∧ (∀ g, vs.ownBlock = some g → g < B1) ∧ w.ownsRow B 9 1 vs d.S.length (d.S.map strV) ∧ w.ownsRow B1 94 2 vp d.P.length (wcs d.P) ∧ B1 ≤ w.heap.size
theorem Owned.set {B : Nat} {d : Dk} {w : World} {vs vp : Value} (h : Owned B d w vs vp) (b i : Nat) (hb : b < B) (u : Value) : Owned B d (w.setCell ⟨b, i, none⟩ u) vs vp := by
  obtain ⟨B1, h1, h2, h3, h4, h5⟩ := h
  exact ⟨B1, h1, h2, own_set h3 b i hb u, own_set h4 b i (by omega) u, by simpa using h5⟩
theorem Owned.call {B : Nat} {d : Dk} {w w' : World} {vs vp : Value} (h : Owned B d w vs vp) (hb : Below w.heap.size w w') : Owned B d w' vs vp := by
  obtain ⟨B1, h1, h2, h3, h4, h5⟩ := h
  exact ⟨B1, h1, h2, own_below h3 hb, own_below h4 hb, Nat.le_trans h5 hb.size⟩
theorem Owned.mono {B B' : Nat} {d : Dk} {w : World} {vs vp : Value} (h : Owned B d w vs vp) (hb : B' ≤ B) : Owned B' d w vs vp := by
  obtain ⟨B1, h1, h2, h3, h4, h5⟩ := h
  exact ⟨B1, by omega, h2, own_mono h3 hb, h4, h5⟩
theorem Owned.lists {B : Nat} {d : Dk} {w : World} {sa pa : Option Addr} {sc pc : Nat} (h : Owned B d w (.slice sa d.S.length sc) (.slice pa d.P.length pc)) (hp : d.P.length ≤ 9000000000000) (hs : d.S.length ≤ 9000000000000) : Lists w sa sc pa pc d := by
  obtain ⟨B1, h1, h2, h3, h4, h5⟩ := h
  exact ⟨StrS.of_own h3, WrS.of_own h4, hp, hs⟩
theorem own_slice {W : World} {B : Nat} {e : TypeId} {k : Nat} {v : Value} {n : Nat} {xs : List Value} (h : W.ownsRow B e k v n xs) : ∃ a c, v = .slice a n c := by
  rcases own_form h with ⟨rfl, h0⟩ | ⟨g, cap, rfl, _, _⟩
  · exact ⟨none, 0, by rw [h0]⟩
  · exact ⟨_, _, rfl⟩

/-- what clone leaves: a disk of the same contents in memory of the call's own -/
def ClonePost (d : Dk) (w : World) (e : Ending) (w' : World) : Prop :=
  ∃ sa sc pa pc, e = .returned (.agg #[.slice sa d.S.length sc, .slice pa d.P.length pc, .int .i64 d.fuse, .int .i64 d.ops, .bool d.dead]) ∧ Owned w.heap.size d w' (.slice sa d.S.length sc) (.slice pa d.P.length pc) ∧ Below w.heap.size w w'

set_option maxRecDepth 100000 in
set_option maxHeartbeats 4000000 in
theorem clone_any (sa pa : Option Addr) (sc pc : Nat) (d : Dk) (w : World) (hD : Lists w sa sc pa pc d) :
    Calls Try.prog 68 #[.agg #[.slice sa d.S.length sc, .slice pa d.P.length pc, .int .i64 d.fuse, .int .i64 d.ops, .bool d.dead]] w (ClonePost d w) := by
  have hb0 := ((Below.refl w.heap.size w).alloc (Nat.le_refl _) (.cells #[.slice sa d.S.length sc, .slice pa d.P.length pc, .int .i64 d.fuse, .int .i64 d.ops, .bool d.dead] 38)).alloc (by simp) (.cells #[.slice none 0 0, .slice none 0 0, .int .i64 0, .int .i64 0, .bool false] 38)
  have hX := (Bx.new w #[.slice sa d.S.length sc, .slice pa d.P.length pc, .int .i64 d.fuse, .int .i64 d.ops, .bool d.dead] 38).alloc (.cells #[.slice none 0 0, .slice none 0 0, .int .i64 0, .int .i64 0, .bool false] 38)
  have hR : Bx (w.heap.size + 1) #[.slice none 0 0, .slice none 0 0, .int .i64 0, .int .i64 0, .bool false] 38 ((w.alloc (.cells #[.slice sa d.S.length sc, .slice pa d.P.length pc, .int .i64 d.fuse, .int .i64 d.ops, .bool d.dead] 38)).alloc (.cells #[.slice none 0 0, .slice none 0 0, .int .i64 0, .int .i64 0, .bool false] 38)) := by
    have := Bx.new (w.alloc (.cells #[.slice sa d.S.length sc, .slice pa d.P.length pc, .int .i64 d.fuse, .int .i64 d.ops, .bool d.dead] 38)) #[.slice none 0 0, .slice none 0 0, .int .i64 0, .int .i64 0, .bool false] 38
    simpa using this
  have hD0 := hD.below hb0
  have HX := Lib.hid hX; clear hX
  have HR := Lib.hid hR; clear hR
  go_enter Try.func68, Try.ntmps68
  go_wp2_with fail
  refine (CloneStr_any _ _ _ hD0.1 hD0.2.2.2).mono ?_
  rintro e w1 ⟨v1, rfl, own1, hb1⟩
  obtain ⟨a1, c1, rfl⟩ := own_slice own1
  have hX := HX.out.call hb1; clear HX
  have hR := HR.out.call hb1; clear HR
  have hbl1 := btrans hb0 hb0.size hb1
  have x0 : w1.cell? ⟨w.heap.size, 0, none⟩ = some (.slice sa d.S.length sc) := hX.cell 0
  have x1 : w1.cell? ⟨w.heap.size, 1, none⟩ = some (.slice pa d.P.length pc) := hX.cell 1
  have f0 := hX.free 0
  have hX2 := hX.set 0 (.slice a1 d.S.length c1)
  have hR2 := hR.other (i := 0) (c := w.heap.size) (by omega) (.slice a1 d.S.length c1)
  have own2 := own_set own1 w.heap.size 0 (by simp; omega) (.slice a1 d.S.length c1)
  have hbl2 := hbl1.setCell (p := ⟨w.heap.size, 0, none⟩) (Nat.le_refl _) (.slice a1 d.S.length c1)
  have hlt1 : ∀ g, (Value.slice a1 d.S.length c1).ownBlock = some g → g < (w1.setCell ⟨w.heap.size, 0, none⟩ (.slice a1 d.S.length c1)).heap.size := fun g hg => (own2.lt g hg).2
  have hz1 : w.heap.size + 2 ≤ w1.heap.size := by have := hb1.size; simpa using this
  have HX := Lib.hid hX2; clear hX hX2
  have HR := Lib.hid hR2; clear hR hR2
  have HLT := Lib.hid hlt1; clear hlt1
  clear own1 hb1
  have hD1 := hD.below hbl2
  go_wp2_with fail
  refine (CloneWr_any _ _ _ hD1.2.1 hD1.2.2.1).mono ?_
  rintro e w2 ⟨v2, rfl, own3, hb2⟩
  obtain ⟨a2, c2, rfl⟩ := own_slice own3
  have hX := HX.out.call hb2; clear HX
  have hR := HR.out.call hb2; clear HR
  have own4 := own_below own2 hb2
  have hbl3 := btrans hbl2 hbl2.size hb2
  have hz2 : w.heap.size + 2 ≤ w2.heap.size := by have := hb2.size; simp at this; omega
  clear x0 x1 f0
  have x0 : w2.cell? ⟨w.heap.size, 0, none⟩ = some (.slice a1 d.S.length c1) := hX.cell 0
  have x1 : w2.cell? ⟨w.heap.size, 1, none⟩ = some (.slice pa d.P.length pc) := hX.cell 1
  have x2 : w2.cell? ⟨w.heap.size, 2, none⟩ = some (.int .i64 d.fuse) := hX.cell 2
  have x3 : w2.cell? ⟨w.heap.size, 3, none⟩ = some (.int .i64 d.ops) := hX.cell 3
  have x4 : w2.cell? ⟨w.heap.size, 4, none⟩ = some (.bool d.dead) := hX.cell 4
  have f1 := hX.free 1
  have r0 : w2.cell? ⟨w.heap.size + 1, 0, none⟩ = some (.slice none 0 0) := hR.cell 0
  have r1 : w2.cell? ⟨w.heap.size + 1, 1, none⟩ = some (.slice none 0 0) := hR.cell 1
  have r2 : w2.cell? ⟨w.heap.size + 1, 2, none⟩ = some (.int .i64 0) := hR.cell 2
  have r3 : w2.cell? ⟨w.heap.size + 1, 3, none⟩ = some (.int .i64 0) := hR.cell 3
  have r4 : w2.cell? ⟨w.heap.size + 1, 4, none⟩ = some (.bool false) := hR.cell 4
  have g0 := hR.free 0
  have g1 := hR.free 1
  have g2 := hR.free 2
  have g3 := hR.free 3
  have g4 := hR.free 4
  have hOw : Owned (w.heap.size + 2) d w2 (.slice a1 d.S.length c1) (.slice a2 d.P.length c2) := by
    refine ⟨_, ?_, HLT.out, own_mono own4 (by simp), own3, hb2.size⟩
    simp; omega
  have HO := Lib.hid hOw
  clear hX hR own2 own3 own4 hb2 hbl1 hbl2 hOw HLT hD0 hD1 hb0 hD
  go_wp2_with fail
  exact bodyPost_ret (v := .agg #[.slice a1 d.S.length c1, .slice a2 d.P.length c2, .int .i64 d.fuse, .int .i64 d.ops, .bool d.dead]) (by simp [results, Try.results68, go_sem, r0, r1, r2, r3, r4]) rfl
    ⟨a1, c1, a2, c2, rfl, ((((((HO.out.set _ 1 (by omega) _).set _ 0 (by omega) _).set _ 1 (by omega) _).set _ 2 (by omega) _).set _ 3 (by omega) _).set _ 4 (by omega) _).mono (by omega),
      (((((hbl3.setCell (Nat.le_refl _) _).setCell (Nat.le_succ _) _).setCell (Nat.le_succ _) _).setCell (Nat.le_succ _) _).setCell (Nat.le_succ _) _).setCell (Nat.le_succ _) _⟩
end Go.Proofs.Ytkpfkknldeafkaa
namespace Go.Proofs.Ytkpfkknldeafkaa
open Go.RowKit

/-- a row of the call's own stands, whatever is stored into another block -/
theorem own_set2 {B : Nat} {e : TypeId} {k : Nat} {v : Value} {n : Nat} {xs : List Value} {w : World} (h : w.ownsRow B e k v n xs) (b i : Nat) (hb : v.ownBlock ≠ some b) (u : Value) : (w.setCell ⟨b, i, none⟩ u).ownsRow B e k v n xs :=
  h.kept (grown_set w ⟨b, i, none⟩ u) (Or.inr hb)
theorem grownBy_bx {w w' : World} {row : Option Nat} (hg : w.grownBy w' row) {b : Nat} {cs : Array Value} {T : TypeId} (h : Bx b cs T w) (hne : some b ≠ row) : Bx b cs T w' :=
  (hg.block b h.lt hne).trans h
def fnPost (b B B0 : Nat) (d : Dk) (W : World) (e : Ending) (w' : World) : Prop :=
  ∃ sa sc pa pc, e = .returned (.tuple #[]) ∧ Bx b #[.slice sa d.S.length sc, .slice pa d.P.length pc, .int .i64 d.fuse, .int .i64 d.ops, .bool d.dead] 38 w' ∧ Owned B d w' (.slice sa d.S.length sc) (.slice pa d.P.length pc) ∧ Below B0 W w'

set_option maxRecDepth 100000 in
set_option maxHeartbeats 4000000 in
theorem WriteF_any (b ba bd B B0 : Nat) (sa pa : Option Addr) (sc pc : Nat) (d : Dk) (n : Int) (data : List UInt8) (W : World)
    (hX : Bx b #[.slice sa d.S.length sc, .slice pa d.P.length pc, .int .i64 d.fuse, .int .i64 d.ops, .bool d.dead] 38 W) (hA : Bx ba #[.int .i64 n] 3 W) (hDt : Bx bd #[.string (bs data)] 9 W) (hO : Owned B d W (.slice sa d.S.length sc) (.slice pa d.P.length pc))
    (hsb : (Value.slice sa d.S.length sc).ownBlock ≠ some b) (hpb : (Value.slice pa d.P.length pc).ownBlock ≠ some b) (hBB : B0 ≤ B) (hB0 : B0 ≤ b) (hp : d.P.length ≤ 8999999999999) :
    Calls Try.prog 101 #[.pointer (some ⟨b, 0, none⟩), .pointer (some ⟨ba, 0, none⟩), .pointer (some ⟨bd, 0, none⟩)] W (fnPost b B B0 (addW n data d) W) := by
  obtain ⟨B1, o1, o2, o3, o4, o5⟩ := hO
  obtain ⟨i0, hi, hz0, hz1, hz2⟩ := info_parts infoWrite
  have x1 : W.cell? ⟨b, 1, none⟩ = some (.slice pa d.P.length pc) := hX.cell 1
  have f1 := hX.free 1
  have y0 : W.cell? ⟨ba, 0, none⟩ = some (.int .i64 n) := hA.cell 0
  have z0 : W.cell? ⟨bd, 0, none⟩ = some (.string (bs data)) := hDt.cell 0
  have e1 : (W.alloc (.cells #[.int .i64 n, .string (bs data)] 94)).cell? ⟨b, 1, none⟩ = some (.slice pa d.P.length pc) := (hX.alloc _).cell 1
  have hone : ∀ u ∈ [Value.int .i64 n, strV data], u.oneCell' = true := by intro u hu; simp at hu; rcases hu with rfl | rfl <;> rfl
  have hne1 : some b ≠ (Value.slice pa d.P.length pc).ownBlock := Ne.symm hpb
  have hlb := hX.lt
  have hne2 : (Value.slice sa d.S.length sc).ownBlock = none ∨ (Value.slice sa d.S.length sc).ownBlock ≠ (Value.slice pa d.P.length pc).ownBlock := by
    cases hv : (Value.slice sa d.S.length sc).ownBlock with
    | none => exact .inl rfl
    | some g =>
      refine .inr (fun e => ?_)
      have h1 := o2 g hv
      have h2 := (o4.lt g e.symm).1
      omega
  go_enter Try.func101, Try.ntmps101
  go_wp2
  go_region_law
    ((refine step_append_wide _ (by rfl) _ _ _ (by rfl) B1 94 i0 (.agg #[.int .i64 0, .string ⟨#[]⟩]) 2 24 Try.underlying36 hi hz0 hz1 hz2 rfl (by decide) _ _ _ (by rfl) (o4.alloc _) ⟨W.heap.size, 0, none⟩ 1 1 [.int .i64 n, strV data] (by rfl) rfl (World.news_of_block (heap_alloc_new W _)) hone (by decide) (by unfold maxLen; omega) (by omega) (by simp; omega) ?_; intro g cap w1 hown1 hgrow; have hX1 := grownBy_bx hgrow (hX.alloc _) hne1; have c1 : w1.cell? ⟨b, 1, none⟩ = some (.slice pa d.P.length pc) := hX1.cell 1; have fz := hX1.free 1))
  all_goals go_wp2_with fail
  all_goals
    refine bodyPost_ret (v := .tuple #[]) (by simp [results, Try.results101, go_sem]) rfl ⟨sa, sc, some ⟨g, 0, none⟩, cap, rfl, ?_, ?_, ?_⟩
    · have h1 := hX1.set 1 (.slice (some ⟨g, 0, none⟩) (d.P.length + 1) cap)
      have e : (addW n data d).P.length = d.P.length + 1 := by simp [addW]
      rw [e]
      exact h1
    · have e : (addW n data d).P.length = d.P.length + 1 := by simp [addW]
      have e2 : wcs (addW n data d).P = wcs d.P ++ [.int .i64 n, strV data] := by rw [addW, wcs_append]; rfl
      refine ⟨B1, o1, o2, own_set2 ((o3.alloc _).drew.kept hgrow hne2) b 1 hsb _, ?_, ?_⟩
      · rw [e, e2]
        refine own_set2 hown1 b 1 ?_ _
        intro e3
        have e4 : g = b := by simpa [Value.ownBlock] using e3
        exact own_other hown1 hX1 (by decide) e4
      · have := hgrow.size; simp at this ⊢; omega
    · exact (((Below.refl B0 W).alloc (by omega) _).drew.grown hgrow (by simp; omega) (fun k hk => by have := (o4.lt k hk).1; omega)).setCell (by simpa using hB0) _

theorem perform_take (S : List (List UInt8)) (P : List (Int × List UInt8)) (k : Nat) (h : k < P.length) : perform S (P.take (k + 1)) = (perform S (P.take k)).set P[k].1.toNat P[k].2 := by
  rw [List.take_succ_eq_append_getElem h, perform_snoc]
theorem below_set {B : Nat} {w W : World} (h : Below B w W) (b i : Nat) (hb : B ≤ b) (u : Value) : Below B w (W.setCell ⟨b, i, none⟩ u) := h.setCell hb u

set_option maxRecDepth 100000 in
set_option maxHeartbeats 4000000 in
theorem SyncF_any (b B B0 : Nat) (sa pa : Option Addr) (sc pc : Nat) (d : Dk) (W : World)
    (hX : Bx b #[.slice sa d.S.length sc, .slice pa d.P.length pc, .int .i64 d.fuse, .int .i64 d.ops, .bool d.dead] 38 W) (hO : Owned B d W (.slice sa d.S.length sc) (.slice pa d.P.length pc))
    (hsb : (Value.slice sa d.S.length sc).ownBlock ≠ some b) (hpb : (Value.slice pa d.P.length pc).ownBlock ≠ some b) (hBB : B0 ≤ B) (hB0 : B0 ≤ b) (hp : d.P.length ≤ 9000000000000) (hs0 : 0 < d.S.length) (hs1 : d.S.length ≤ 1024) (hv : ∀ x ∈ d.P, 0 ≤ x.1 ∧ x.1 < (d.S.length : Int)) :
    Calls Try.prog 102 #[.pointer (some ⟨b, 0, none⟩)] W (fnPost b B B0 (syncD d) W) := by
  obtain ⟨B1, o1, o2, o3, o4, o5⟩ := hO
  obtain ⟨gs, cs, hgs, hcs, hBs⟩ : ∃ g c, (Value.slice sa d.S.length sc) = .slice (some ⟨g, 0, none⟩) d.S.length c ∧ d.S.length ≤ c ∧ B ≤ g := by
    rcases own_form o3 with ⟨_, h0⟩ | ⟨g, cap, h1, h2, h3⟩
    · omega
    · exact ⟨g, cap, h1, h2, h3⟩
  simp only [Value.slice.injEq, true_and] at hgs
  obtain ⟨rfl, rfl⟩ := hgs
  have hgb : gs < B1 := o2 gs rfl
  have hne : b ≠ gs := by intro e; exact hsb (by rw [e]; rfl)
  have HV := Lib.hid hv; clear hv
  have x1 : W.cell? ⟨b, 1, none⟩ = some (.slice pa d.P.length pc) := hX.cell 1
  go_enter Try.func102, Try.ntmps102
  go_wp2
  go_loopw [9] (fun i wr => ∃ k : Nat, k ≤ d.P.length ∧ i = .int .i64 k ∧ Bx b #[.slice (some ⟨gs, 0, none⟩) d.S.length sc, .slice pa d.P.length pc, .int .i64 d.fuse, .int .i64 d.ops, .bool d.dead] 38 wr ∧ wr.ownsRow B 9 1 (.slice (some ⟨gs, 0, none⟩) d.S.length sc) d.S.length ((perform d.S (d.P.take k)).map strV) ∧ wr.ownsRow B1 94 2 (.slice pa d.P.length pc) d.P.length (wcs d.P) ∧ Below B0 W wr ∧ W.heap.size ≤ wr.heap.size) (fun i _ => d.P.length - (intOf i).toNat)
  case atStart => exact ⟨0, Nat.zero_le _, rfl, hX, o3, o4, Below.refl _ _, Nat.le_refl _⟩
  case round =>
    obtain ⟨k, hk, rfl, hXr, p3, p4, hbw, hsz⟩ := hrel
    clear x1
    by_cases hlt : k < d.P.length
    · have hlt' : (k : Int) < (d.P.length : Int) := by omega
      obtain ⟨gp, cp, hgp, hcp, hBp⟩ : ∃ g c, (Value.slice pa d.P.length pc) = .slice (some ⟨g, 0, none⟩) d.P.length c ∧ d.P.length ≤ c ∧ B1 ≤ g := by
        rcases own_form p4 with ⟨_, h0⟩ | ⟨g, cap, h1, h2, h3⟩
        · omega
        · exact ⟨g, cap, h1, h2, h3⟩
      simp only [Value.slice.injEq, true_and] at hgp
      obtain ⟨rfl, rfl⟩ := hgp
      obtain ⟨hx1, hx2⟩ := HV.out d.P[k] (List.getElem_mem hlt)
      have hpt := perform_take d.S d.P k hlt
      obtain ⟨q1, q2⟩ := wcs_get d.P k hlt
      rw [← p4.cellAt (k * 2) (by omega)] at q1
      rw [← p4.cellAt (k * 2 + 1) (by omega)] at q2
      obtain ⟨⟨n, s⟩, hns⟩ : ∃ q, d.P[k] = q := ⟨_, rfl⟩
      rw [hns] at hx1 hx2 hpt q1 q2
      simp only at hx1 hx2 hpt q1 q2
      obtain ⟨m, rfl⟩ := Int.eq_ofNat_of_zero_le hx1
      rw [Int.toNat_natCast] at hpt
      have hm : m < d.S.length := by omega
      have hml : m < ((perform d.S (d.P.take k)).map strV).length := by rw [List.length_map, perform_len]; exact hm
      have hx2' : (m : Int) < (d.S.length : Int) := by omega
      have hm0 : (0 : Int) ≤ (m : Int) := by omega
      unfold strV at q2
      have hX2 := hXr.alloc (.cells #[.int .i64 m, .string (bs s)] 94)
      have p3a := p3.alloc (.cells #[.int .i64 m, .string (bs s)] 94)
      have e1 : (wr.alloc (.cells #[.int .i64 m, .string (bs s)] 94)).cell? ⟨gs, m, none⟩ = some (((perform d.S (d.P.take k)).map strV)[m]) := by
        rw [p3a.cellAt m (by omega), List.getElem?_eq_getElem hml]
      have e2 := p3a.frozenAt m
      have e3 : (wr.alloc (.cells #[.int .i64 m, .string (bs s)] 94)).cell? ⟨b, 0, none⟩ = some (.slice (some ⟨gs, 0, none⟩) d.S.length sc) := hX2.cell 0
      have hlg : gs < wr.heap.size := (p3.lt gs rfl).2
      have hne2 : wr.heap.size ≠ gs := by omega
      have HPT := Lib.hid hpt; clear hpt
      have HNS := Lib.hid hns; clear hns
      have hs3 : (wr.alloc (.cells #[.int .i64 m, .string (bs s)] 94)).drew.cell? ⟨b, 0, none⟩ = some (.slice (some ⟨gs, 0, none⟩) d.S.length sc) ∧ (wr.alloc (.cells #[.int .i64 m, .string (bs s)] 94)).drew.cell? ⟨wr.heap.size, 0, none⟩ = some (.int .i64 m) ∧ (wr.alloc (.cells #[.int .i64 m, .string (bs s)] 94)).drew.cell? ⟨wr.heap.size, 1, none⟩ = some (.string (bs s)) :=
        ⟨e3, (Bx.new wr _ _).cell 0, (Bx.new wr _ _).cell 1⟩
      have hX3 := (hXr.other (i := m) hne (.string (bs s))).alloc (.cells #[.int .i64 m, .string (bs s)] 94)
      have hN3 := Bx.new (wr.setCell ⟨gs, m, none⟩ (.string (bs s))) #[.int .i64 m, .string (bs s)] 94
      rw [World.size_setCell] at hN3
      have hs4 : ((wr.setCell ⟨gs, m, none⟩ (.string (bs s))).alloc (.cells #[.int .i64 m, .string (bs s)] 94)).drew.cell? ⟨b, 0, none⟩ = some (.slice (some ⟨gs, 0, none⟩) d.S.length sc) ∧ ((wr.setCell ⟨gs, m, none⟩ (.string (bs s))).alloc (.cells #[.int .i64 m, .string (bs s)] 94)).drew.cell? ⟨wr.heap.size, 0, none⟩ = some (.int .i64 m) ∧ ((wr.setCell ⟨gs, m, none⟩ (.string (bs s))).alloc (.cells #[.int .i64 m, .string (bs s)] 94)).drew.cell? ⟨wr.heap.size, 1, none⟩ = some (.string (bs s)) :=
        ⟨hX3.cell 0, hN3.cell 0, hN3.cell 1⟩
      clear hx1 hx2
      go_wp2
      go_region_held3 (fun w' => w'.cell? ⟨b, 0, none⟩ = some (.slice (some ⟨gs, 0, none⟩) d.S.length sc) ∧ w'.cell? ⟨wr.heap.size, 0, none⟩ = some (.int .i64 m) ∧ w'.cell? ⟨wr.heap.size, 1, none⟩ = some (.string (bs s))) (first | exact hs3 | exact hs4) (fail)
      go_wp2
      go_roundw
      case rel =>
        refine ⟨k + 1, by omega, by go_num, hX3, ?_, (own_set p4 gs m hgb _).alloc _, ?_, ?_⟩
        · have h1 := (p3.stored m (.string (bs s))).1.alloc (.cells #[.int .i64 m, .string (bs s)] 94)
          rw [HPT.out, List.map_set]
          exact h1
        · exact ((below_set hbw gs m (by omega) _).alloc (by simp; omega) _).drew
        · simp; omega
      case measure => simp [intOf]; omega
    · obtain rfl : k = d.P.length := by omega
      have hpe : perform d.S (d.P.take d.P.length) = (syncD d).S := by rw [List.take_length]; rfl
      rw [hpe] at p3
      have f1 := hXr.free 1
      have x1 : wr.cell? ⟨b, 1, none⟩ = some (.slice pa d.P.length pc) := hXr.cell 1
      have hl : (syncD d).S.length = d.S.length := perform_len _ _
      have HL := Lib.hid hl; clear hl hpe hlt
      go_wp2
      refine bodyPost_ret (v := .tuple #[]) (by simp [results, Try.results102, go_sem]) rfl ⟨some ⟨gs, 0, none⟩, sc, none, 0, rfl, ?_, ?_, ?_⟩
      · have h1 := hXr.set 1 (.slice none 0 0)
        rw [HL.out]
        exact h1
      · refine ⟨B1, o1, ?_, ?_, World.ownsRow_nil _ _ _ _, ?_⟩
        · rw [HL.out]; exact o2
        · rw [HL.out]; exact own_set2 p3 b 1 hsb _
        · simp; omega
      · exact below_set hbw b 1 hB0 _
end Go.Proofs.Ytkpfkknldeafkaa
namespace Go.Proofs.Ytkpfkknldeafkaa
open Go.RowKit

/-- what an operation returns: a disk in memory of the call's own, and an error code -/
def OpPost (r : Dk × Int) (w : World) (e : Ending) (w' : World) : Prop :=
  ∃ sa sc pa pc, e = .returned (.tuple #[.agg #[.slice sa r.1.S.length sc, .slice pa r.1.P.length pc, .int .i64 r.1.fuse, .int .i64 r.1.ops, .bool r.1.dead], .int .i64 r.2]) ∧ Owned w.heap.size r.1 w' (.slice sa r.1.S.length sc) (.slice pa r.1.P.length pc) ∧ Below w.heap.size w w'
theorem Owned.alloc {B : Nat} {d : Dk} {w : World} {vs vp : Value} (h : Owned B d w vs vp) (x : Obj) : Owned B d (w.alloc x) vs vp := h.call ((Below.refl _ _).alloc (Nat.le_refl _) _)
theorem Owned.sne {B : Nat} {d : Dk} {w : World} {vs vp : Value} (h : Owned B d w vs vp) : vs.ownBlock ≠ some w.heap.size ∧ vp.ownBlock ≠ some w.heap.size := by
  obtain ⟨B1, h1, h2, h3, h4, h5⟩ := h
  constructor
  · intro e; have := (h3.lt _ e).2; omega
  · intro e; have := (h4.lt _ e).2; omega
theorem Owned.sets {B : Nat} {d : Dk} {w : World} {vs vp : Value} (h : Owned B d w vs vp) (b : Nat) (hb : b < B) (u0 u1 u2 u3 u4 : Value) :
    Owned B d (((((w.setCell ⟨b, 0, none⟩ u0).setCell ⟨b, 1, none⟩ u1).setCell ⟨b, 2, none⟩ u2).setCell ⟨b, 3, none⟩ u3).setCell ⟨b, 4, none⟩ u4) vs vp :=
  ((((h.set b 0 hb u0).set b 1 hb u1).set b 2 hb u2).set b 3 hb u3).set b 4 hb u4
theorem Bx.sets {b : Nat} {T : TypeId} {W : World} {z0 z1 z2 z3 z4 : Value} (h : Bx b #[z0, z1, z2, z3, z4] T W) (u0 u1 u2 u3 u4 : Value) :
    Bx b #[u0, u1, u2, u3, u4] T (((((W.setCell ⟨b, 0, none⟩ u0).setCell ⟨b, 1, none⟩ u1).setCell ⟨b, 2, none⟩ u2).setCell ⟨b, 3, none⟩ u3).setCell ⟨b, 4, none⟩ u4) :=
  ((((h.set 0 u0).set 1 u1).set 2 u2).set 3 u3).set 4 u4
theorem below_sets {B : Nat} {w W : World} (h : Below B w W) (b : Nat) (hb : B ≤ b) (u0 u1 u2 u3 u4 : Value) :
    Below B w (((((W.setCell ⟨b, 0, none⟩ u0).setCell ⟨b, 1, none⟩ u1).setCell ⟨b, 2, none⟩ u2).setCell ⟨b, 3, none⟩ u3).setCell ⟨b, 4, none⟩ u4) :=
  below_set (below_set (below_set (below_set (below_set h b 0 hb u0) b 1 hb u1) b 2 hb u2) b 3 hb u3) b 4 hb u4

set_option maxRecDepth 100000 in
set_option maxHeartbeats 4000000 in
theorem happenW_any (sa pa : Option Addr) (sc pc : Nat) (d : Dk) (n : Int) (data : List UInt8) (ba bd : Nat) (w : World) (hD : Lists w sa sc pa pc d) (hA : Bx ba #[.int .i64 n] 3 w) (hDt : Bx bd #[.string (bs data)] 9 w) (hp : d.P.length ≤ 8999999999999) (f0 : 0 ≤ d.fuse) (f1 : d.fuse ≤ 1099511627776) (p0 : 0 ≤ d.ops) (p1 : d.ops ≤ 1099511627776) :
    Calls Try.prog 100 #[.agg #[.slice sa d.S.length sc, .slice pa d.P.length pc, .int .i64 d.fuse, .int .i64 d.ops, .bool d.dead], .func (.func 101) #[] #[.pointer (some ⟨ba, 0, none⟩), .pointer (some ⟨bd, 0, none⟩)]] w (OpPost (happenS d (addW n data)) w) := by
  have hb0 := ((Below.refl w.heap.size w).alloc (Nat.le_refl _) (.cells #[.slice sa d.S.length sc, .slice pa d.P.length pc, .int .i64 d.fuse, .int .i64 d.ops, .bool d.dead] 38)).alloc (by simp) (.cells #[.slice none 0 0, .slice none 0 0, .int .i64 0, .int .i64 0, .bool false] 38)
  have hR : Bx (w.heap.size + 1) #[.slice none 0 0, .slice none 0 0, .int .i64 0, .int .i64 0, .bool false] 38 ((w.alloc (.cells #[.slice sa d.S.length sc, .slice pa d.P.length pc, .int .i64 d.fuse, .int .i64 d.ops, .bool d.dead] 38)).alloc (.cells #[.slice none 0 0, .slice none 0 0, .int .i64 0, .int .i64 0, .bool false] 38)) := by
    have := Bx.new (w.alloc (.cells #[.slice sa d.S.length sc, .slice pa d.P.length pc, .int .i64 d.fuse, .int .i64 d.ops, .bool d.dead] 38)) #[.slice none 0 0, .slice none 0 0, .int .i64 0, .int .i64 0, .bool false] 38
    simpa using this
  have hD0 := hD.below hb0
  have HR := Lib.hid hR; clear hR
  have HA := Lib.hid (hA.below hb0 hA.lt)
  have HD := Lib.hid (hDt.below hb0 hDt.lt)
  clear hA hDt
  go_enter Try.func100, Try.ntmps100
  go_wp2_with fail
  refine (clone_any _ _ _ _ _ _ hD0).mono ?_
  rintro e w1 ⟨a1, c1, a2, c2, rfl, hO, hb1⟩
  have hR := HR.out.call hb1; clear HR
  have hbl1 := btrans hb0 hb0.size hb1
  have hz1 : w.heap.size + 1 < w1.heap.size := by have := hb1.size; simp at this; omega
  have r0 : w1.cell? ⟨w.heap.size + 1, 0, none⟩ = some (.slice none 0 0) := hR.cell 0
  have r1 : w1.cell? ⟨w.heap.size + 1, 1, none⟩ = some (.slice none 0 0) := hR.cell 1
  have r2 : w1.cell? ⟨w.heap.size + 1, 2, none⟩ = some (.int .i64 0) := hR.cell 2
  have r3 : w1.cell? ⟨w.heap.size + 1, 3, none⟩ = some (.int .i64 0) := hR.cell 3
  have r4 : w1.cell? ⟨w.heap.size + 1, 4, none⟩ = some (.bool false) := hR.cell 4
  have g0 := hR.free 0
  have g1 := hR.free 1
  have g2 := hR.free 2
  have g3 := hR.free 3
  have g4 := hR.free 4
  have hO1 := hO.mono (B' := w.heap.size + 2) (by simp)
  have HO := Lib.hid hO1; clear hO hO1 hD0 hD
  have hA1 := HA.out.call hb1; clear HA
  have hD1 := HD.out.call hb1; clear HD
  have HA := Lib.hid hA1; clear hA1
  have HD := Lib.hid hD1; clear hD1
  have HR := Lib.hid hR; clear hR hb1 hb0
  by_cases h1 : d.fuse = 1
  · have t1 : (d.fuse == 1) = true := by rw [h1]; rfl
    have HF := Lib.hid (show happenS d (addW n data) = ({ d with ops := min (d.ops + 1) 1099511627776, fuse := 0, dead := true }, 18) by unfold happenS; rw [if_pos h1])
    clear h1
    go_wp2
    have kk := (HR.out.sets (.slice a1 d.S.length c1) (.slice a2 d.P.length c2) (.int .i64 0) (.int .i64 (min (d.ops + 1) 1099511627776)) (.bool true)).alloc (.cells #[.slice a1 d.S.length c1, .slice a2 d.P.length c2, .int .i64 0, .int .i64 (min (d.ops + 1) 1099511627776), .bool true] 38)
    have k0 := kk.cell 0
    have k1 := kk.cell 1
    have k2 := kk.cell 2
    have k3 := kk.cell 3
    have k4 := kk.cell 4
    simp only [List.getElem?_toArray, List.getElem?_cons_zero, List.getElem?_cons_succ] at k0 k1 k2 k3 k4
    clear kk
    refine bodyPost_ret (v := .tuple #[.agg #[.slice a1 d.S.length c1, .slice a2 d.P.length c2, .int .i64 0, .int .i64 (min (d.ops + 1) 1099511627776), .bool true], .int .i64 18]) (by simp [results, Try.results100, go_sem, k0, k1, k2, k3, k4]) rfl ?_
    rw [HF.out]
    refine ⟨a1, c1, a2, c2, rfl, ?_, ?_⟩
    · exact ((HO.out.sets (w.heap.size + 1) (by omega) _ _ _ _ _).alloc _).mono (by omega)
    · exact (below_sets hbl1 (w.heap.size + 1) (by omega) _ _ _ _ _).alloc (by simp; omega) _
  · have t1 : (d.fuse == 1) = false := by rw [beq_eq_false_iff_ne]; exact h1
    have HF := Lib.hid (show happenS d (addW n data) = (addW n data { d with ops := min (d.ops + 1) 1099511627776, fuse := max (d.fuse - 1) 0 }, 0) by unfold happenS; rw [if_neg h1])
    obtain ⟨d1, hd1⟩ : ∃ d1 : Dk, d1 = { d with ops := min (d.ops + 1) 1099511627776, fuse := max (d.fuse - 1) 0 } := ⟨_, rfl⟩
    rw [← hd1] at HF
    have hO1 : Owned (w.heap.size + 2) d1 (w1.alloc (.cells #[.slice a1 d.S.length c1, .slice a2 d.P.length c2, .int .i64 (max (d.fuse - 1) 0), .int .i64 (min (d.ops + 1) 1099511627776), .bool d.dead] 38)) (.slice a1 d1.S.length c1) (.slice a2 d1.P.length c2) := by rw [hd1]; exact HO.out.alloc _
    have hne := HO.out.sne
    have hX1 : Bx w1.heap.size #[.slice a1 d1.S.length c1, .slice a2 d1.P.length c2, .int .i64 d1.fuse, .int .i64 d1.ops, .bool d1.dead] 38 (w1.alloc (.cells #[.slice a1 d.S.length c1, .slice a2 d.P.length c2, .int .i64 (max (d.fuse - 1) 0), .int .i64 (min (d.ops + 1) 1099511627776), .bool d.dead] 38)) := by rw [hd1]; exact Bx.new _ _ _
    have hl1 : d1.P.length = d.P.length := by rw [hd1]
    have hl2 : d1.S.length = d.S.length := by rw [hd1]
    have HO1 := Lib.hid hO1; have HX1 := Lib.hid hX1; have HL1 := Lib.hid hl1; have HL2 := Lib.hid hl2; have HNE := Lib.hid hne
    clear hO1 hX1 hl1 hl2 hne hd1 h1
    go_wp2_with fail
    refine (WriteF_any w1.heap.size ba bd (w.heap.size + 2) (w.heap.size + 2) a1 a2 c1 c2 d1 n data _ HX1.out (HA.out.alloc _) (HD.out.alloc _) HO1.out (by rw [HL2.out]; exact HNE.out.1) (by rw [HL1.out]; exact HNE.out.2) (Nat.le_refl _) (by omega) (by rw [HL1.out]; exact hp)).mono ?_
    rintro e w2 ⟨a3, c3, a4, c4, rfl, hX2, hO2, hb2⟩
    obtain ⟨d2, hd2⟩ : ∃ d2, d2 = addW n data d1 := ⟨_, rfl⟩
    rw [← hd2] at hX2 hO2 HF
    have hR2 := (HR.out.alloc (.cells #[.slice a1 d.S.length c1, .slice a2 d.P.length c2, .int .i64 (max (d.fuse - 1) 0), .int .i64 (min (d.ops + 1) 1099511627776), .bool d.dead] 38)).below hb2 (by omega)
    have hbl2 := (hbl1.alloc hbl1.size (.cells #[.slice a1 d.S.length c1, .slice a2 d.P.length c2, .int .i64 (max (d.fuse - 1) 0), .int .i64 (min (d.ops + 1) 1099511627776), .bool d.dead] 38)).trans (hb2.mono (by omega))
    have hz2 : w.heap.size + 1 < w2.heap.size := by have := hb2.size; simp at this; omega
    clear r0 r1 r2 r3 r4 g0 g1 g2 g3 g4
    have r0 : w2.cell? ⟨w.heap.size + 1, 0, none⟩ = some (.slice none 0 0) := hR2.cell 0
    have r1 : w2.cell? ⟨w.heap.size + 1, 1, none⟩ = some (.slice none 0 0) := hR2.cell 1
    have r2 : w2.cell? ⟨w.heap.size + 1, 2, none⟩ = some (.int .i64 0) := hR2.cell 2
    have r3 : w2.cell? ⟨w.heap.size + 1, 3, none⟩ = some (.int .i64 0) := hR2.cell 3
    have r4 : w2.cell? ⟨w.heap.size + 1, 4, none⟩ = some (.bool false) := hR2.cell 4
    have g0 := hR2.free 0
    have g1 := hR2.free 1
    have g2 := hR2.free 2
    have g3 := hR2.free 3
    have g4 := hR2.free 4
    have x0 : w2.cell? ⟨w1.heap.size, 0, none⟩ = some (.slice a3 d2.S.length c3) := hX2.cell 0
    have x1 : w2.cell? ⟨w1.heap.size, 1, none⟩ = some (.slice a4 d2.P.length c4) := hX2.cell 1
    have x2 : w2.cell? ⟨w1.heap.size, 2, none⟩ = some (.int .i64 d2.fuse) := hX2.cell 2
    have x3 : w2.cell? ⟨w1.heap.size, 3, none⟩ = some (.int .i64 d2.ops) := hX2.cell 3
    have x4 : w2.cell? ⟨w1.heap.size, 4, none⟩ = some (.bool d2.dead) := hX2.cell 4
    have kk := (hR2.sets (.slice a3 d2.S.length c3) (.slice a4 d2.P.length c4) (.int .i64 d2.fuse) (.int .i64 d2.ops) (.bool d2.dead))
    have k0 := kk.cell 0
    have k1 := kk.cell 1
    have k2 := kk.cell 2
    have k3 := kk.cell 3
    have k4 := kk.cell 4
    simp only [List.getElem?_toArray, List.getElem?_cons_zero, List.getElem?_cons_succ] at k0 k1 k2 k3 k4
    clear kk
    have HO2 := Lib.hid hO2; clear hO2 hX2 hR2 hb2 hbl1 HR HO HO1 HX1 HL1 HL2 HNE hd2
    go_wp2
    refine bodyPost_ret (v := .tuple #[.agg #[.slice a3 d2.S.length c3, .slice a4 d2.P.length c4, .int .i64 d2.fuse, .int .i64 d2.ops, .bool d2.dead], .int .i64 0]) (by simp [results, Try.results100, go_sem, k0, k1, k2, k3, k4]) rfl ?_
    rw [HF.out]
    refine ⟨a3, c3, a4, c4, rfl, ?_, ?_⟩
    · exact (HO2.out.sets (w.heap.size + 1) (by omega) _ _ _ _ _).mono (by omega)
    · exact below_sets hbl2 (w.heap.size + 1) (by omega) _ _ _ _ _
set_option maxRecDepth 100000 in
set_option maxHeartbeats 4000000 in
theorem happenS_any (sa pa : Option Addr) (sc pc : Nat) (d : Dk) (w : World) (hD : Lists w sa sc pa pc d) (hs0 : 0 < d.S.length) (hs1 : d.S.length ≤ 1024) (hv : ∀ x ∈ d.P, 0 ≤ x.1 ∧ x.1 < (d.S.length : Int)) (hp : d.P.length ≤ 9000000000000) (f0 : 0 ≤ d.fuse) (f1 : d.fuse ≤ 1099511627776) (p0 : 0 ≤ d.ops) (p1 : d.ops ≤ 1099511627776) :
    Calls Try.prog 100 #[.agg #[.slice sa d.S.length sc, .slice pa d.P.length pc, .int .i64 d.fuse, .int .i64 d.ops, .bool d.dead], .func (.func 102) #[] #[]] w (OpPost (happenS d syncD) w) := by
  have hb0 := ((Below.refl w.heap.size w).alloc (Nat.le_refl _) (.cells #[.slice sa d.S.length sc, .slice pa d.P.length pc, .int .i64 d.fuse, .int .i64 d.ops, .bool d.dead] 38)).alloc (by simp) (.cells #[.slice none 0 0, .slice none 0 0, .int .i64 0, .int .i64 0, .bool false] 38)
  have hR : Bx (w.heap.size + 1) #[.slice none 0 0, .slice none 0 0, .int .i64 0, .int .i64 0, .bool false] 38 ((w.alloc (.cells #[.slice sa d.S.length sc, .slice pa d.P.length pc, .int .i64 d.fuse, .int .i64 d.ops, .bool d.dead] 38)).alloc (.cells #[.slice none 0 0, .slice none 0 0, .int .i64 0, .int .i64 0, .bool false] 38)) := by
    have := Bx.new (w.alloc (.cells #[.slice sa d.S.length sc, .slice pa d.P.length pc, .int .i64 d.fuse, .int .i64 d.ops, .bool d.dead] 38)) #[.slice none 0 0, .slice none 0 0, .int .i64 0, .int .i64 0, .bool false] 38
    simpa using this
  have hD0 := hD.below hb0
  have HR := Lib.hid hR; clear hR
  have HV := Lib.hid hv; clear hv
  go_enter Try.func100, Try.ntmps100
  go_wp2_with fail
  refine (clone_any _ _ _ _ _ _ hD0).mono ?_
  rintro e w1 ⟨a1, c1, a2, c2, rfl, hO, hb1⟩
  have hR := HR.out.call hb1; clear HR
  have hbl1 := btrans hb0 hb0.size hb1
  have hz1 : w.heap.size + 1 < w1.heap.size := by have := hb1.size; simp at this; omega
  have r0 : w1.cell? ⟨w.heap.size + 1, 0, none⟩ = some (.slice none 0 0) := hR.cell 0
  have r1 : w1.cell? ⟨w.heap.size + 1, 1, none⟩ = some (.slice none 0 0) := hR.cell 1
  have r2 : w1.cell? ⟨w.heap.size + 1, 2, none⟩ = some (.int .i64 0) := hR.cell 2
  have r3 : w1.cell? ⟨w.heap.size + 1, 3, none⟩ = some (.int .i64 0) := hR.cell 3
  have r4 : w1.cell? ⟨w.heap.size + 1, 4, none⟩ = some (.bool false) := hR.cell 4
  have g0 := hR.free 0
  have g1 := hR.free 1
  have g2 := hR.free 2
  have g3 := hR.free 3
  have g4 := hR.free 4
  have hO1 := hO.mono (B' := w.heap.size + 2) (by simp)
  have HO := Lib.hid hO1; clear hO hO1 hD0 hD
  have HR := Lib.hid hR; clear hR hb1 hb0
  by_cases h1 : d.fuse = 1
  · have t1 : (d.fuse == 1) = true := by rw [h1]; rfl
    have HF := Lib.hid (show happenS d syncD = ({ d with ops := min (d.ops + 1) 1099511627776, fuse := 0, dead := true }, 18) by unfold happenS; rw [if_pos h1])
    clear h1
    go_wp2
    have kk := (HR.out.sets (.slice a1 d.S.length c1) (.slice a2 d.P.length c2) (.int .i64 0) (.int .i64 (min (d.ops + 1) 1099511627776)) (.bool true)).alloc (.cells #[.slice a1 d.S.length c1, .slice a2 d.P.length c2, .int .i64 0, .int .i64 (min (d.ops + 1) 1099511627776), .bool true] 38)
    have k0 := kk.cell 0
    have k1 := kk.cell 1
    have k2 := kk.cell 2
    have k3 := kk.cell 3
    have k4 := kk.cell 4
    simp only [List.getElem?_toArray, List.getElem?_cons_zero, List.getElem?_cons_succ] at k0 k1 k2 k3 k4
    clear kk
    refine bodyPost_ret (v := .tuple #[.agg #[.slice a1 d.S.length c1, .slice a2 d.P.length c2, .int .i64 0, .int .i64 (min (d.ops + 1) 1099511627776), .bool true], .int .i64 18]) (by simp [results, Try.results100, go_sem, k0, k1, k2, k3, k4]) rfl ?_
    rw [HF.out]
    refine ⟨a1, c1, a2, c2, rfl, ?_, ?_⟩
    · exact ((HO.out.sets (w.heap.size + 1) (by omega) _ _ _ _ _).alloc _).mono (by omega)
    · exact (below_sets hbl1 (w.heap.size + 1) (by omega) _ _ _ _ _).alloc (by simp; omega) _
  · have t1 : (d.fuse == 1) = false := by rw [beq_eq_false_iff_ne]; exact h1
    have HF := Lib.hid (show happenS d syncD = (syncD { d with ops := min (d.ops + 1) 1099511627776, fuse := max (d.fuse - 1) 0 }, 0) by unfold happenS; rw [if_neg h1])
    obtain ⟨d1, hd1⟩ : ∃ d1 : Dk, d1 = { d with ops := min (d.ops + 1) 1099511627776, fuse := max (d.fuse - 1) 0 } := ⟨_, rfl⟩
    rw [← hd1] at HF
    have hO1 : Owned (w.heap.size + 2) d1 (w1.alloc (.cells #[.slice a1 d.S.length c1, .slice a2 d.P.length c2, .int .i64 (max (d.fuse - 1) 0), .int .i64 (min (d.ops + 1) 1099511627776), .bool d.dead] 38)) (.slice a1 d1.S.length c1) (.slice a2 d1.P.length c2) := by rw [hd1]; exact HO.out.alloc _
    have hne := HO.out.sne
    have hX1 : Bx w1.heap.size #[.slice a1 d1.S.length c1, .slice a2 d1.P.length c2, .int .i64 d1.fuse, .int .i64 d1.ops, .bool d1.dead] 38 (w1.alloc (.cells #[.slice a1 d.S.length c1, .slice a2 d.P.length c2, .int .i64 (max (d.fuse - 1) 0), .int .i64 (min (d.ops + 1) 1099511627776), .bool d.dead] 38)) := by rw [hd1]; exact Bx.new _ _ _
    have hl1 : d1.P.length = d.P.length := by rw [hd1]
    have hl2 : d1.S.length = d.S.length := by rw [hd1]
    have hv1 : ∀ x ∈ d1.P, 0 ≤ x.1 ∧ x.1 < (d1.S.length : Int) := by rw [hd1]; exact HV.out
    have HV1 := Lib.hid hv1; clear hv1
    have HO1 := Lib.hid hO1; have HX1 := Lib.hid hX1; have HL1 := Lib.hid hl1; have HL2 := Lib.hid hl2; have HNE := Lib.hid hne
    clear hO1 hX1 hl1 hl2 hne hd1 h1
    go_wp2_with fail
    refine (SyncF_any w1.heap.size (w.heap.size + 2) (w.heap.size + 2) a1 a2 c1 c2 d1 _ HX1.out HO1.out (by rw [HL2.out]; exact HNE.out.1) (by rw [HL1.out]; exact HNE.out.2) (Nat.le_refl _) (by omega) (by rw [HL1.out]; exact hp) (by rw [HL2.out]; exact hs0) (by rw [HL2.out]; exact hs1) HV1.out).mono ?_
    rintro e w2 ⟨a3, c3, a4, c4, rfl, hX2, hO2, hb2⟩
    obtain ⟨d2, hd2⟩ : ∃ d2, d2 = syncD d1 := ⟨_, rfl⟩
    rw [← hd2] at hX2 hO2 HF
    have hR2 := (HR.out.alloc (.cells #[.slice a1 d.S.length c1, .slice a2 d.P.length c2, .int .i64 (max (d.fuse - 1) 0), .int .i64 (min (d.ops + 1) 1099511627776), .bool d.dead] 38)).below hb2 (by omega)
    have hbl2 := (hbl1.alloc hbl1.size (.cells #[.slice a1 d.S.length c1, .slice a2 d.P.length c2, .int .i64 (max (d.fuse - 1) 0), .int .i64 (min (d.ops + 1) 1099511627776), .bool d.dead] 38)).trans (hb2.mono (by omega))
    have hz2 : w.heap.size + 1 < w2.heap.size := by have := hb2.size; simp at this; omega
    clear r0 r1 r2 r3 r4 g0 g1 g2 g3 g4
    have r0 : w2.cell? ⟨w.heap.size + 1, 0, none⟩ = some (.slice none 0 0) := hR2.cell 0
    have r1 : w2.cell? ⟨w.heap.size + 1, 1, none⟩ = some (.slice none 0 0) := hR2.cell 1
    have r2 : w2.cell? ⟨w.heap.size + 1, 2, none⟩ = some (.int .i64 0) := hR2.cell 2
    have r3 : w2.cell? ⟨w.heap.size + 1, 3, none⟩ = some (.int .i64 0) := hR2.cell 3
    have r4 : w2.cell? ⟨w.heap.size + 1, 4, none⟩ = some (.bool false) := hR2.cell 4
    have g0 := hR2.free 0
    have g1 := hR2.free 1
    have g2 := hR2.free 2
    have g3 := hR2.free 3
    have g4 := hR2.free 4
    have x0 : w2.cell? ⟨w1.heap.size, 0, none⟩ = some (.slice a3 d2.S.length c3) := hX2.cell 0
    have x1 : w2.cell? ⟨w1.heap.size, 1, none⟩ = some (.slice a4 d2.P.length c4) := hX2.cell 1
    have x2 : w2.cell? ⟨w1.heap.size, 2, none⟩ = some (.int .i64 d2.fuse) := hX2.cell 2
    have x3 : w2.cell? ⟨w1.heap.size, 3, none⟩ = some (.int .i64 d2.ops) := hX2.cell 3
    have x4 : w2.cell? ⟨w1.heap.size, 4, none⟩ = some (.bool d2.dead) := hX2.cell 4
    have kk := (hR2.sets (.slice a3 d2.S.length c3) (.slice a4 d2.P.length c4) (.int .i64 d2.fuse) (.int .i64 d2.ops) (.bool d2.dead))
    have k0 := kk.cell 0
    have k1 := kk.cell 1
    have k2 := kk.cell 2
    have k3 := kk.cell 3
    have k4 := kk.cell 4
    simp only [List.getElem?_toArray, List.getElem?_cons_zero, List.getElem?_cons_succ] at k0 k1 k2 k3 k4
    clear kk
    have HO2 := Lib.hid hO2; clear hO2 hX2 hR2 hb2 hbl1 HR HO HO1 HX1 HL1 HL2 HNE hd2
    go_wp2
    refine bodyPost_ret (v := .tuple #[.agg #[.slice a3 d2.S.length c3, .slice a4 d2.P.length c4, .int .i64 d2.fuse, .int .i64 d2.ops, .bool d2.dead], .int .i64 0]) (by simp [results, Try.results100, go_sem, k0, k1, k2, k3, k4]) rfl ?_
    rw [HF.out]
    refine ⟨a3, c3, a4, c4, rfl, ?_, ?_⟩
    · exact (HO2.out.sets (w.heap.size + 1) (by omega) _ _ _ _ _).mono (by omega)
    · exact below_sets hbl2 (w.heap.size + 1) (by omega) _ _ _ _ _

set_option maxRecDepth 100000 in
set_option maxHeartbeats 4000000 in
theorem Sync_any (sa pa : Option Addr) (sc pc : Nat) (d : Dk) (w : World) (hD : Lists w sa sc pa pc d) :
    Calls Try.prog 62 #[.agg #[.slice sa d.S.length sc, .slice pa d.P.length pc, .int .i64 d.fuse, .int .i64 d.ops, .bool d.dead]] w (OpPost (syncS d) w) := by
  have hb0 := ((Below.refl w.heap.size w).alloc (Nat.le_refl _) (.cells #[.slice sa d.S.length sc, .slice pa d.P.length pc, .int .i64 d.fuse, .int .i64 d.ops, .bool d.dead] 38)).alloc (by simp) (.cells #[.slice none 0 0, .slice none 0 0, .int .i64 0, .int .i64 0, .bool false] 38)
  have hX : Bx w.heap.size #[.slice sa d.S.length sc, .slice pa d.P.length pc, .int .i64 d.fuse, .int .i64 d.ops, .bool d.dead] 38 ((w.alloc (.cells #[.slice sa d.S.length sc, .slice pa d.P.length pc, .int .i64 d.fuse, .int .i64 d.ops, .bool d.dead] 38)).alloc (.cells #[.slice none 0 0, .slice none 0 0, .int .i64 0, .int .i64 0, .bool false] 38)) := by
    have h := (Bx.new w #[.slice sa d.S.length sc, .slice pa d.P.length pc, .int .i64 d.fuse, .int .i64 d.ops, .bool d.dead] 38)
    have h := h.alloc (.cells #[.slice none 0 0, .slice none 0 0, .int .i64 0, .int .i64 0, .bool false] 38)
    simpa using h
  have HX := Lib.hid hX; clear hX
  have hR : Bx (w.heap.size + 1) #[.slice none 0 0, .slice none 0 0, .int .i64 0, .int .i64 0, .bool false] 38 ((w.alloc (.cells #[.slice sa d.S.length sc, .slice pa d.P.length pc, .int .i64 d.fuse, .int .i64 d.ops, .bool d.dead] 38)).alloc (.cells #[.slice none 0 0, .slice none 0 0, .int .i64 0, .int .i64 0, .bool false] 38)) := by
    have h := (Bx.new (w.alloc (.cells #[.slice sa d.S.length sc, .slice pa d.P.length pc, .int .i64 d.fuse, .int .i64 d.ops, .bool d.dead] 38)) #[.slice none 0 0, .slice none 0 0, .int .i64 0, .int .i64 0, .bool false] 38)
    simpa using h
  have HR := Lib.hid hR; clear hR
  have hD0 := hD.below hb0
  go_enter Try.func62, Try.ntmps62
  go_wp2_with fail
  refine (Valid_any _ _ _ _ _ _ hD0).mono ?_
  cases hv : validB d with
  | false =>
    have HF := Lib.hid (show syncS d = (d, 1) by unfold syncS; rw [hv]; simp)
    rintro e w1 ⟨rfl, hb1⟩
    have hX := HX.out.call hb1; clear HX; have HX := Lib.hid hX; clear hX
    have hR := HR.out.call hb1; clear HR; have HR := Lib.hid hR; clear hR
    have hbl1 := btrans hb0 hb0.size hb1
    have hD1 := hD0.below hb1
    clear hv hb1
    have hX := HX.out
    have x0 : w1.cell? ⟨w.heap.size, 0, none⟩ = some (.slice sa d.S.length sc) := hX.cell 0
    have x1 : w1.cell? ⟨w.heap.size, 1, none⟩ = some (.slice pa d.P.length pc) := hX.cell 1
    have x2 : w1.cell? ⟨w.heap.size, 2, none⟩ = some (.int .i64 d.fuse) := hX.cell 2
    have x3 : w1.cell? ⟨w.heap.size, 3, none⟩ = some (.int .i64 d.ops) := hX.cell 3
    have x4 : w1.cell? ⟨w.heap.size, 4, none⟩ = some (.bool d.dead) := hX.cell 4
    go_wp2_with fail
    refine (clone_any _ _ _ _ _ _ hD1).mono ?_
    rintro e wc ⟨a1, c1, a2, c2, rfl, hO, hbc⟩
    have hR := HR.out.call hbc
    have hbl := btrans hbl1 hbl1.size hbc
    have hzc : w.heap.size + 1 < wc.heap.size := by have := hbc.size; have := HR.out.lt; omega
    clear x0 x1 x2 x3 x4 hX
    have r0 : wc.cell? ⟨w.heap.size + 1, 0, none⟩ = some (.slice none 0 0) := hR.cell 0
    have r1 : wc.cell? ⟨w.heap.size + 1, 1, none⟩ = some (.slice none 0 0) := hR.cell 1
    have r2 : wc.cell? ⟨w.heap.size + 1, 2, none⟩ = some (.int .i64 0) := hR.cell 2
    have r3 : wc.cell? ⟨w.heap.size + 1, 3, none⟩ = some (.int .i64 0) := hR.cell 3
    have r4 : wc.cell? ⟨w.heap.size + 1, 4, none⟩ = some (.bool false) := hR.cell 4
    have g0 := hR.free 0
    have g1 := hR.free 1
    have g2 := hR.free 2
    have g3 := hR.free 3
    have g4 := hR.free 4
    have kk := (hR.sets (.slice a1 d.S.length c1) (.slice a2 d.P.length c2) (.int .i64 d.fuse) (.int .i64 d.ops) (.bool d.dead))
    have k0 := kk.cell 0
    have k1 := kk.cell 1
    have k2 := kk.cell 2
    have k3 := kk.cell 3
    have k4 := kk.cell 4
    simp only [List.getElem?_toArray, List.getElem?_cons_zero, List.getElem?_cons_succ] at k0 k1 k2 k3 k4
    clear kk
    have hlt : w.heap.size + 1 < w1.heap.size := HR.out.lt
    have HO := Lib.hid hO; clear hO hR
    go_wp2
    refine bodyPost_ret (v := .tuple #[.agg #[.slice a1 d.S.length c1, .slice a2 d.P.length c2, .int .i64 d.fuse, .int .i64 d.ops, .bool d.dead], .int .i64 1]) (by simp [results, Try.results62, go_sem, k0, k1, k2, k3, k4]) rfl ?_
    rw [HF.out]
    refine ⟨a1, c1, a2, c2, rfl, ?_, ?_⟩
    · exact (HO.out.sets (w.heap.size + 1) hlt _ _ _ _ _).mono (by have := hbl1.size; omega)
    · exact below_sets hbl (w.heap.size + 1) (by omega) _ _ _ _ _
  | true =>
    rintro e w1 ⟨rfl, hb1⟩
    have hX := HX.out.call hb1; clear HX; have HX := Lib.hid hX; clear hX
    have hR := HR.out.call hb1; clear HR; have HR := Lib.hid hR; clear hR
    have hbl1 := btrans hb0 hb0.size hb1
    have hD1 := hD0.below hb1
    obtain ⟨hn, hsec, hpen⟩ := (validB_iff d).1 hv
    obtain ⟨n1, n2, n3, n4, n5, n6⟩ := (numsB_iff d).1 hn
    have HV := Lib.hid hv; have HPN := Lib.hid hpen
    clear hv hn hsec hpen hb1
    have hX := HX.out
    have x0 : w1.cell? ⟨w.heap.size, 0, none⟩ = some (.slice sa d.S.length sc) := hX.cell 0
    have x1 : w1.cell? ⟨w.heap.size, 1, none⟩ = some (.slice pa d.P.length pc) := hX.cell 1
    have x2 : w1.cell? ⟨w.heap.size, 2, none⟩ = some (.int .i64 d.fuse) := hX.cell 2
    have x3 : w1.cell? ⟨w.heap.size, 3, none⟩ = some (.int .i64 d.ops) := hX.cell 3
    have x4 : w1.cell? ⟨w.heap.size, 4, none⟩ = some (.bool d.dead) := hX.cell 4
    cases hd : d.dead with
    | true =>
      have HF := Lib.hid (show syncS d = (d, 18) by unfold syncS; rw [HV.out, hd]; simp)
      rw [hd] at x4
      have HDD := Lib.hid hd; clear hd
      go_wp2_with fail
      rw [show (.bool true : Value) = .bool d.dead by rw [HDD.out]]
      refine (clone_any _ _ _ _ _ _ hD1).mono ?_
      rintro e wc ⟨a1, c1, a2, c2, rfl, hO, hbc⟩
      have hR := HR.out.call hbc
      have hblc := btrans hbl1 hbl1.size hbc
      have hzc : w.heap.size + 1 < wc.heap.size := by have := hbc.size; have := HR.out.lt; omega
      clear x0 x1 x2 x3 x4 hX
      have r0 : wc.cell? ⟨w.heap.size + 1, 0, none⟩ = some (.slice none 0 0) := hR.cell 0
      have r1 : wc.cell? ⟨w.heap.size + 1, 1, none⟩ = some (.slice none 0 0) := hR.cell 1
      have r2 : wc.cell? ⟨w.heap.size + 1, 2, none⟩ = some (.int .i64 0) := hR.cell 2
      have r3 : wc.cell? ⟨w.heap.size + 1, 3, none⟩ = some (.int .i64 0) := hR.cell 3
      have r4 : wc.cell? ⟨w.heap.size + 1, 4, none⟩ = some (.bool false) := hR.cell 4
      have g0 := hR.free 0
      have g1 := hR.free 1
      have g2 := hR.free 2
      have g3 := hR.free 3
      have g4 := hR.free 4
      have kk := (hR.sets (.slice a1 d.S.length c1) (.slice a2 d.P.length c2) (.int .i64 d.fuse) (.int .i64 d.ops) (.bool d.dead))
      have k0 := kk.cell 0
      have k1 := kk.cell 1
      have k2 := kk.cell 2
      have k3 := kk.cell 3
      have k4 := kk.cell 4
      simp only [List.getElem?_toArray, List.getElem?_cons_zero, List.getElem?_cons_succ] at k0 k1 k2 k3 k4
      clear kk
      have hlt : w.heap.size + 1 < w1.heap.size := HR.out.lt
      have HO := Lib.hid hO; clear hO hR
      go_wp2
      refine bodyPost_ret (v := .tuple #[.agg #[.slice a1 d.S.length c1, .slice a2 d.P.length c2, .int .i64 d.fuse, .int .i64 d.ops, .bool d.dead], .int .i64 18]) (by simp [results, Try.results62, go_sem, k0, k1, k2, k3, k4]) rfl ?_
      rw [HF.out]
      refine ⟨a1, c1, a2, c2, rfl, ?_, ?_⟩
      · exact (HO.out.sets (w.heap.size + 1) hlt _ _ _ _ _).mono (by have := hbl1.size; omega)
      · exact below_sets hblc (w.heap.size + 1) (by omega) _ _ _ _ _
    | false =>
      have HF := Lib.hid (show syncS d = happenS d syncD by unfold syncS; rw [HV.out, hd]; simp)
      rw [hd] at x4
      have HDD := Lib.hid hd; clear hd
      go_wp2_with fail
      rw [show (.bool false : Value) = .bool d.dead by rw [HDD.out]]
      refine (happenS_any _ _ _ _ _ _ hD1 (by omega) n2 (fun x hx => ⟨(HPN.out x hx).1, (HPN.out x hx).2.1⟩) hD1.2.2.1 n3 n4 n5 n6).mono ?_
      obtain ⟨⟨d3, er⟩, hde⟩ : ∃ q, happenS d syncD = q := ⟨_, rfl⟩
      rw [hde] at HF ⊢
      clear hde
      rintro e wc ⟨a1, c1, a2, c2, rfl, hO, hbc⟩
      have hR := HR.out.call hbc
      have hblc := btrans hbl1 hbl1.size hbc
      have hzc : w.heap.size + 1 < wc.heap.size := by have := hbc.size; have := HR.out.lt; omega
      clear x0 x1 x2 x3 x4 hX
      have r0 : wc.cell? ⟨w.heap.size + 1, 0, none⟩ = some (.slice none 0 0) := hR.cell 0
      have r1 : wc.cell? ⟨w.heap.size + 1, 1, none⟩ = some (.slice none 0 0) := hR.cell 1
      have r2 : wc.cell? ⟨w.heap.size + 1, 2, none⟩ = some (.int .i64 0) := hR.cell 2
      have r3 : wc.cell? ⟨w.heap.size + 1, 3, none⟩ = some (.int .i64 0) := hR.cell 3
      have r4 : wc.cell? ⟨w.heap.size + 1, 4, none⟩ = some (.bool false) := hR.cell 4
      have g0 := hR.free 0
      have g1 := hR.free 1
      have g2 := hR.free 2
      have g3 := hR.free 3
      have g4 := hR.free 4
      have kk := (hR.sets (.slice a1 d3.S.length c1) (.slice a2 d3.P.length c2) (.int .i64 d3.fuse) (.int .i64 d3.ops) (.bool d3.dead))
      have k0 := kk.cell 0
      have k1 := kk.cell 1
      have k2 := kk.cell 2
      have k3 := kk.cell 3
      have k4 := kk.cell 4
      simp only [List.getElem?_toArray, List.getElem?_cons_zero, List.getElem?_cons_succ] at k0 k1 k2 k3 k4
      clear kk
      have hlt : w.heap.size + 1 < w1.heap.size := HR.out.lt
      have HO := Lib.hid hO; clear hO hR
      go_wp2
      refine bodyPost_ret (v := .tuple #[.agg #[.slice a1 d3.S.length c1, .slice a2 d3.P.length c2, .int .i64 d3.fuse, .int .i64 d3.ops, .bool d3.dead], .int .i64 er]) (by simp [results, Try.results62, go_sem, k0, k1, k2, k3, k4]) rfl ?_
      rw [HF.out]
      refine ⟨a1, c1, a2, c2, rfl, ?_, ?_⟩
      · exact (HO.out.sets (w.heap.size + 1) hlt _ _ _ _ _).mono (by have := hbl1.size; omega)
      · exact below_sets hblc (w.heap.size + 1) (by omega) _ _ _ _ _

set_option maxRecDepth 100000 in
set_option maxHeartbeats 4000000 in
theorem Write_any (sa pa : Option Addr) (sc pc : Nat) (d : Dk) (n : Int) (data : List UInt8) (w : World) (hD : Lists w sa sc pa pc d) (hp : d.P.length ≤ 8999999999999) :
    Calls Try.prog 61 #[.agg #[.slice sa d.S.length sc, .slice pa d.P.length pc, .int .i64 d.fuse, .int .i64 d.ops, .bool d.dead], .int .i64 n, .string (bs data)] w (OpPost (writeS d n data) w) := by
  have hb0 := ((((Below.refl w.heap.size w).alloc (Nat.le_refl _) (.cells #[.slice sa d.S.length sc, .slice pa d.P.length pc, .int .i64 d.fuse, .int .i64 d.ops, .bool d.dead] 38)).alloc (by simp) (.cells #[.int .i64 n] 3)).alloc (by simp; omega) (.cells #[.string (bs data)] 9)).alloc (by simp; omega) (.cells #[.slice none 0 0, .slice none 0 0, .int .i64 0, .int .i64 0, .bool false] 38)
  have hX : Bx w.heap.size #[.slice sa d.S.length sc, .slice pa d.P.length pc, .int .i64 d.fuse, .int .i64 d.ops, .bool d.dead] 38 ((((w.alloc (.cells #[.slice sa d.S.length sc, .slice pa d.P.length pc, .int .i64 d.fuse, .int .i64 d.ops, .bool d.dead] 38)).alloc (.cells #[.int .i64 n] 3)).alloc (.cells #[.string (bs data)] 9)).alloc (.cells #[.slice none 0 0, .slice none 0 0, .int .i64 0, .int .i64 0, .bool false] 38)) := by
    have h := (Bx.new w #[.slice sa d.S.length sc, .slice pa d.P.length pc, .int .i64 d.fuse, .int .i64 d.ops, .bool d.dead] 38)
    have h := h.alloc (.cells #[.int .i64 n] 3)
    have h := h.alloc (.cells #[.string (bs data)] 9)
    have h := h.alloc (.cells #[.slice none 0 0, .slice none 0 0, .int .i64 0, .int .i64 0, .bool false] 38)
    simpa using h
  have HX := Lib.hid hX; clear hX
  have hA : Bx (w.heap.size + 1) #[.int .i64 n] 3 ((((w.alloc (.cells #[.slice sa d.S.length sc, .slice pa d.P.length pc, .int .i64 d.fuse, .int .i64 d.ops, .bool d.dead] 38)).alloc (.cells #[.int .i64 n] 3)).alloc (.cells #[.string (bs data)] 9)).alloc (.cells #[.slice none 0 0, .slice none 0 0, .int .i64 0, .int .i64 0, .bool false] 38)) := by
    have h := (Bx.new (w.alloc (.cells #[.slice sa d.S.length sc, .slice pa d.P.length pc, .int .i64 d.fuse, .int .i64 d.ops, .bool d.dead] 38)) #[.int .i64 n] 3)
    have h := h.alloc (.cells #[.string (bs data)] 9)
    have h := h.alloc (.cells #[.slice none 0 0, .slice none 0 0, .int .i64 0, .int .i64 0, .bool false] 38)
    simpa using h
  have HA := Lib.hid hA; clear hA
  have hD : Bx (w.heap.size + 2) #[.string (bs data)] 9 ((((w.alloc (.cells #[.slice sa d.S.length sc, .slice pa d.P.length pc, .int .i64 d.fuse, .int .i64 d.ops, .bool d.dead] 38)).alloc (.cells #[.int .i64 n] 3)).alloc (.cells #[.string (bs data)] 9)).alloc (.cells #[.slice none 0 0, .slice none 0 0, .int .i64 0, .int .i64 0, .bool false] 38)) := by
    have h := (Bx.new ((w.alloc (.cells #[.slice sa d.S.length sc, .slice pa d.P.length pc, .int .i64 d.fuse, .int .i64 d.ops, .bool d.dead] 38)).alloc (.cells #[.int .i64 n] 3)) #[.string (bs data)] 9)
    have h := h.alloc (.cells #[.slice none 0 0, .slice none 0 0, .int .i64 0, .int .i64 0, .bool false] 38)
    simpa using h
  have HD := Lib.hid hD; clear hD
  have hR : Bx (w.heap.size + 3) #[.slice none 0 0, .slice none 0 0, .int .i64 0, .int .i64 0, .bool false] 38 ((((w.alloc (.cells #[.slice sa d.S.length sc, .slice pa d.P.length pc, .int .i64 d.fuse, .int .i64 d.ops, .bool d.dead] 38)).alloc (.cells #[.int .i64 n] 3)).alloc (.cells #[.string (bs data)] 9)).alloc (.cells #[.slice none 0 0, .slice none 0 0, .int .i64 0, .int .i64 0, .bool false] 38)) := by
    have h := (Bx.new (((w.alloc (.cells #[.slice sa d.S.length sc, .slice pa d.P.length pc, .int .i64 d.fuse, .int .i64 d.ops, .bool d.dead] 38)).alloc (.cells #[.int .i64 n] 3)).alloc (.cells #[.string (bs data)] 9)) #[.slice none 0 0, .slice none 0 0, .int .i64 0, .int .i64 0, .bool false] 38)
    simpa using h
  have HR := Lib.hid hR; clear hR
  have hD0 := hD.below hb0
  go_enter Try.func61, Try.ntmps61
  go_wp2_with fail
  refine (Valid_any _ _ _ _ _ _ hD0).mono ?_
  cases hv : validB d with
  | false =>
    have HF := Lib.hid (show writeS d n data = (d, 1) by unfold writeS; rw [hv]; simp)
    rintro e w1 ⟨rfl, hb1⟩
    have hX := HX.out.call hb1; clear HX; have HX := Lib.hid hX; clear hX
    have hA := HA.out.call hb1; clear HA; have HA := Lib.hid hA; clear hA
    have hD := HD.out.call hb1; clear HD; have HD := Lib.hid hD; clear hD
    have hR := HR.out.call hb1; clear HR; have HR := Lib.hid hR; clear hR
    have hbl1 := btrans hb0 hb0.size hb1
    have hD1 := hD0.below hb1
    clear hv hb1
    have hX := HX.out
    have x0 : w1.cell? ⟨w.heap.size, 0, none⟩ = some (.slice sa d.S.length sc) := hX.cell 0
    have x1 : w1.cell? ⟨w.heap.size, 1, none⟩ = some (.slice pa d.P.length pc) := hX.cell 1
    have x2 : w1.cell? ⟨w.heap.size, 2, none⟩ = some (.int .i64 d.fuse) := hX.cell 2
    have x3 : w1.cell? ⟨w.heap.size, 3, none⟩ = some (.int .i64 d.ops) := hX.cell 3
    have x4 : w1.cell? ⟨w.heap.size, 4, none⟩ = some (.bool d.dead) := hX.cell 4
    have hA := HA.out
    have aa : w1.cell? ⟨w.heap.size + 1, 0, none⟩ = some (.int .i64 n) := hA.cell 0
    have hDt := HD.out
    have dd : w1.cell? ⟨w.heap.size + 2, 0, none⟩ = some (.string (bs data)) := hDt.cell 0
    go_wp2_with fail
    refine (clone_any _ _ _ _ _ _ hD1).mono ?_
    rintro e wc ⟨a1, c1, a2, c2, rfl, hO, hbc⟩
    have hR := HR.out.call hbc
    have hbl := btrans hbl1 hbl1.size hbc
    have hzc : w.heap.size + 3 < wc.heap.size := by have := hbc.size; have := HR.out.lt; omega
    clear x0 x1 x2 x3 x4 aa dd hX hA hDt
    have r0 : wc.cell? ⟨w.heap.size + 3, 0, none⟩ = some (.slice none 0 0) := hR.cell 0
    have r1 : wc.cell? ⟨w.heap.size + 3, 1, none⟩ = some (.slice none 0 0) := hR.cell 1
    have r2 : wc.cell? ⟨w.heap.size + 3, 2, none⟩ = some (.int .i64 0) := hR.cell 2
    have r3 : wc.cell? ⟨w.heap.size + 3, 3, none⟩ = some (.int .i64 0) := hR.cell 3
    have r4 : wc.cell? ⟨w.heap.size + 3, 4, none⟩ = some (.bool false) := hR.cell 4
    have g0 := hR.free 0
    have g1 := hR.free 1
    have g2 := hR.free 2
    have g3 := hR.free 3
    have g4 := hR.free 4
    have kk := (hR.sets (.slice a1 d.S.length c1) (.slice a2 d.P.length c2) (.int .i64 d.fuse) (.int .i64 d.ops) (.bool d.dead))
    have k0 := kk.cell 0
    have k1 := kk.cell 1
    have k2 := kk.cell 2
    have k3 := kk.cell 3
    have k4 := kk.cell 4
    simp only [List.getElem?_toArray, List.getElem?_cons_zero, List.getElem?_cons_succ] at k0 k1 k2 k3 k4
    clear kk
    have hlt : w.heap.size + 3 < w1.heap.size := HR.out.lt
    have HO := Lib.hid hO; clear hO hR
    go_wp2
    refine bodyPost_ret (v := .tuple #[.agg #[.slice a1 d.S.length c1, .slice a2 d.P.length c2, .int .i64 d.fuse, .int .i64 d.ops, .bool d.dead], .int .i64 1]) (by simp [results, Try.results61, go_sem, k0, k1, k2, k3, k4]) rfl ?_
    rw [HF.out]
    refine ⟨a1, c1, a2, c2, rfl, ?_, ?_⟩
    · exact (HO.out.sets (w.heap.size + 3) hlt _ _ _ _ _).mono (by have := hbl1.size; omega)
    · exact below_sets hbl (w.heap.size + 3) (by omega) _ _ _ _ _
  | true =>
    rintro e w1 ⟨rfl, hb1⟩
    have hX := HX.out.call hb1; clear HX; have HX := Lib.hid hX; clear hX
    have hA := HA.out.call hb1; clear HA; have HA := Lib.hid hA; clear hA
    have hD := HD.out.call hb1; clear HD; have HD := Lib.hid hD; clear hD
    have hR := HR.out.call hb1; clear HR; have HR := Lib.hid hR; clear hR
    have hbl1 := btrans hb0 hb0.size hb1
    have hD1 := hD0.below hb1
    obtain ⟨hn, hsec, hpen⟩ := (validB_iff d).1 hv
    obtain ⟨n1, n2, n3, n4, n5, n6⟩ := (numsB_iff d).1 hn
    have HV := Lib.hid hv; have HPN := Lib.hid hpen
    clear hv hn hsec hpen hb1
    have hX := HX.out
    have x0 : w1.cell? ⟨w.heap.size, 0, none⟩ = some (.slice sa d.S.length sc) := hX.cell 0
    have x1 : w1.cell? ⟨w.heap.size, 1, none⟩ = some (.slice pa d.P.length pc) := hX.cell 1
    have x2 : w1.cell? ⟨w.heap.size, 2, none⟩ = some (.int .i64 d.fuse) := hX.cell 2
    have x3 : w1.cell? ⟨w.heap.size, 3, none⟩ = some (.int .i64 d.ops) := hX.cell 3
    have x4 : w1.cell? ⟨w.heap.size, 4, none⟩ = some (.bool d.dead) := hX.cell 4
    have hA := HA.out
    have aa : w1.cell? ⟨w.heap.size + 1, 0, none⟩ = some (.int .i64 n) := hA.cell 0
    have hDt := HD.out
    have dd : w1.cell? ⟨w.heap.size + 2, 0, none⟩ = some (.string (bs data)) := hDt.cell 0
    go_wp2_with fail
    refine (has_any _ _ _ _ _ _ _).mono ?_
    rintro e w2 ⟨rfl, hb2⟩
    clear x0 x1 x2 x3 x4 aa dd hX hA hDt
    have hX := HX.out.call hb2; clear HX; have HX := Lib.hid hX; clear hX
    have hA := HA.out.call hb2; clear HA; have HA := Lib.hid hA; clear hA
    have hD := HD.out.call hb2; clear HD; have HD := Lib.hid hD; clear hD
    have hR := HR.out.call hb2; clear HR; have HR := Lib.hid hR; clear hR
    have hbl2 := btrans hbl1 hbl1.size hb2
    have hD2 := hD1.below hb2
    clear hb2 hD1
    have hX := HX.out
    have x0 : w2.cell? ⟨w.heap.size, 0, none⟩ = some (.slice sa d.S.length sc) := hX.cell 0
    have x1 : w2.cell? ⟨w.heap.size, 1, none⟩ = some (.slice pa d.P.length pc) := hX.cell 1
    have x2 : w2.cell? ⟨w.heap.size, 2, none⟩ = some (.int .i64 d.fuse) := hX.cell 2
    have x3 : w2.cell? ⟨w.heap.size, 3, none⟩ = some (.int .i64 d.ops) := hX.cell 3
    have x4 : w2.cell? ⟨w.heap.size, 4, none⟩ = some (.bool d.dead) := hX.cell 4
    have hA := HA.out
    have aa : w2.cell? ⟨w.heap.size + 1, 0, none⟩ = some (.int .i64 n) := hA.cell 0
    have hDt := HD.out
    have dd : w2.cell? ⟨w.heap.size + 2, 0, none⟩ = some (.string (bs data)) := hDt.cell 0
    cases hh : hasB d n with
    | false =>
      have HF := Lib.hid (show writeS d n data = (d, 1) by unfold writeS; rw [hh, HV.out]; simp)
      clear hh
      go_wp2_with fail
      refine (clone_any _ _ _ _ _ _ hD2).mono ?_
      rintro e wc ⟨a1, c1, a2, c2, rfl, hO, hbc⟩
      have hR := HR.out.call hbc
      have hbl := btrans hbl2 hbl2.size hbc
      have hzc : w.heap.size + 3 < wc.heap.size := by have := hbc.size; have := HR.out.lt; omega
      clear x0 x1 x2 x3 x4 aa dd hX hA hDt
      have r0 : wc.cell? ⟨w.heap.size + 3, 0, none⟩ = some (.slice none 0 0) := hR.cell 0
      have r1 : wc.cell? ⟨w.heap.size + 3, 1, none⟩ = some (.slice none 0 0) := hR.cell 1
      have r2 : wc.cell? ⟨w.heap.size + 3, 2, none⟩ = some (.int .i64 0) := hR.cell 2
      have r3 : wc.cell? ⟨w.heap.size + 3, 3, none⟩ = some (.int .i64 0) := hR.cell 3
      have r4 : wc.cell? ⟨w.heap.size + 3, 4, none⟩ = some (.bool false) := hR.cell 4
      have g0 := hR.free 0
      have g1 := hR.free 1
      have g2 := hR.free 2
      have g3 := hR.free 3
      have g4 := hR.free 4
      have kk := (hR.sets (.slice a1 d.S.length c1) (.slice a2 d.P.length c2) (.int .i64 d.fuse) (.int .i64 d.ops) (.bool d.dead))
      have k0 := kk.cell 0
      have k1 := kk.cell 1
      have k2 := kk.cell 2
      have k3 := kk.cell 3
      have k4 := kk.cell 4
      simp only [List.getElem?_toArray, List.getElem?_cons_zero, List.getElem?_cons_succ] at k0 k1 k2 k3 k4
      clear kk
      have hlt : w.heap.size + 3 < w2.heap.size := HR.out.lt
      have HO := Lib.hid hO; clear hO hR
      go_wp2
      refine bodyPost_ret (v := .tuple #[.agg #[.slice a1 d.S.length c1, .slice a2 d.P.length c2, .int .i64 d.fuse, .int .i64 d.ops, .bool d.dead], .int .i64 1]) (by simp [results, Try.results61, go_sem, k0, k1, k2, k3, k4]) rfl ?_
      rw [HF.out]
      refine ⟨a1, c1, a2, c2, rfl, ?_, ?_⟩
      · exact (HO.out.sets (w.heap.size + 3) hlt _ _ _ _ _).mono (by have := hbl2.size; omega)
      · exact below_sets hbl (w.heap.size + 3) (by omega) _ _ _ _ _
    | true =>
      have HH := Lib.hid hh; clear hh
      by_cases h64 : data.length = 64
      · skip
        have t64 : ((data.length : Int) != 64) = false := by rw [h64]; rfl
        have H64 := Lib.hid h64; clear h64
        cases hd : d.dead with
        | true =>
          have HF := Lib.hid (show writeS d n data = (d, 18) by unfold writeS; rw [HV.out, HH.out, H64.out, hd]; simp)
          rw [hd] at x4
          have HDD := Lib.hid hd; clear hd
          go_wp2_with fail
          rw [show (.bool true : Value) = .bool d.dead by rw [HDD.out]]
          refine (clone_any _ _ _ _ _ _ hD2).mono ?_
          rintro e wc ⟨a1, c1, a2, c2, rfl, hO, hbc⟩
          have hR := HR.out.call hbc
          have hblc := btrans hbl2 hbl2.size hbc
          have hzc : w.heap.size + 3 < wc.heap.size := by have := hbc.size; have := HR.out.lt; omega
          clear x0 x1 x2 x3 x4 aa dd hX hA hDt
          have r0 : wc.cell? ⟨w.heap.size + 3, 0, none⟩ = some (.slice none 0 0) := hR.cell 0
          have r1 : wc.cell? ⟨w.heap.size + 3, 1, none⟩ = some (.slice none 0 0) := hR.cell 1
          have r2 : wc.cell? ⟨w.heap.size + 3, 2, none⟩ = some (.int .i64 0) := hR.cell 2
          have r3 : wc.cell? ⟨w.heap.size + 3, 3, none⟩ = some (.int .i64 0) := hR.cell 3
          have r4 : wc.cell? ⟨w.heap.size + 3, 4, none⟩ = some (.bool false) := hR.cell 4
          have g0 := hR.free 0
          have g1 := hR.free 1
          have g2 := hR.free 2
          have g3 := hR.free 3
          have g4 := hR.free 4
          have kk := (hR.sets (.slice a1 d.S.length c1) (.slice a2 d.P.length c2) (.int .i64 d.fuse) (.int .i64 d.ops) (.bool d.dead))
          have k0 := kk.cell 0
          have k1 := kk.cell 1
          have k2 := kk.cell 2
          have k3 := kk.cell 3
          have k4 := kk.cell 4
          simp only [List.getElem?_toArray, List.getElem?_cons_zero, List.getElem?_cons_succ] at k0 k1 k2 k3 k4
          clear kk
          have hlt : w.heap.size + 3 < w2.heap.size := HR.out.lt
          have HO := Lib.hid hO; clear hO hR
          go_wp2
          refine bodyPost_ret (v := .tuple #[.agg #[.slice a1 d.S.length c1, .slice a2 d.P.length c2, .int .i64 d.fuse, .int .i64 d.ops, .bool d.dead], .int .i64 18]) (by simp [results, Try.results61, go_sem, k0, k1, k2, k3, k4]) rfl ?_
          rw [HF.out]
          refine ⟨a1, c1, a2, c2, rfl, ?_, ?_⟩
          · exact (HO.out.sets (w.heap.size + 3) hlt _ _ _ _ _).mono (by have := hbl2.size; omega)
          · exact below_sets hblc (w.heap.size + 3) (by omega) _ _ _ _ _
        | false =>
          have HF := Lib.hid (show writeS d n data = happenS d (addW n data) by unfold writeS; rw [HV.out, HH.out, H64.out, hd]; simp)
          rw [hd] at x4
          have HDD := Lib.hid hd; clear hd
          go_wp2_with fail
          rw [show (.bool false : Value) = .bool d.dead by rw [HDD.out]]
          refine (happenW_any _ _ _ _ _ n data _ _ _ hD2 HA.out HD.out hp n3 n4 n5 n6).mono ?_
          obtain ⟨⟨d3, er⟩, hde⟩ : ∃ q, happenS d (addW n data) = q := ⟨_, rfl⟩
          rw [hde] at HF ⊢
          clear hde
          rintro e wc ⟨a1, c1, a2, c2, rfl, hO, hbc⟩
          have hR := HR.out.call hbc
          have hblc := btrans hbl2 hbl2.size hbc
          have hzc : w.heap.size + 3 < wc.heap.size := by have := hbc.size; have := HR.out.lt; omega
          clear x0 x1 x2 x3 x4 aa dd hX hA hDt
          have r0 : wc.cell? ⟨w.heap.size + 3, 0, none⟩ = some (.slice none 0 0) := hR.cell 0
          have r1 : wc.cell? ⟨w.heap.size + 3, 1, none⟩ = some (.slice none 0 0) := hR.cell 1
          have r2 : wc.cell? ⟨w.heap.size + 3, 2, none⟩ = some (.int .i64 0) := hR.cell 2
          have r3 : wc.cell? ⟨w.heap.size + 3, 3, none⟩ = some (.int .i64 0) := hR.cell 3
          have r4 : wc.cell? ⟨w.heap.size + 3, 4, none⟩ = some (.bool false) := hR.cell 4
          have g0 := hR.free 0
          have g1 := hR.free 1
          have g2 := hR.free 2
          have g3 := hR.free 3
          have g4 := hR.free 4
          have kk := (hR.sets (.slice a1 d3.S.length c1) (.slice a2 d3.P.length c2) (.int .i64 d3.fuse) (.int .i64 d3.ops) (.bool d3.dead))
          have k0 := kk.cell 0
          have k1 := kk.cell 1
          have k2 := kk.cell 2
          have k3 := kk.cell 3
          have k4 := kk.cell 4
          simp only [List.getElem?_toArray, List.getElem?_cons_zero, List.getElem?_cons_succ] at k0 k1 k2 k3 k4
          clear kk
          have hlt : w.heap.size + 3 < w2.heap.size := HR.out.lt
          have HO := Lib.hid hO; clear hO hR
          go_wp2
          refine bodyPost_ret (v := .tuple #[.agg #[.slice a1 d3.S.length c1, .slice a2 d3.P.length c2, .int .i64 d3.fuse, .int .i64 d3.ops, .bool d3.dead], .int .i64 er]) (by simp [results, Try.results61, go_sem, k0, k1, k2, k3, k4]) rfl ?_
          rw [HF.out]
          refine ⟨a1, c1, a2, c2, rfl, ?_, ?_⟩
          · exact (HO.out.sets (w.heap.size + 3) hlt _ _ _ _ _).mono (by have := hbl2.size; omega)
          · exact below_sets hblc (w.heap.size + 3) (by omega) _ _ _ _ _
      · have t64 : ((data.length : Int) != 64) = true := by rw [bne_iff_ne]; omega
        have HF := Lib.hid (show writeS d n data = (d, 1) by unfold writeS; rw [if_neg (fun h => h64 h.2.2)])
        clear h64
        go_wp2_with fail
        refine (clone_any _ _ _ _ _ _ hD2).mono ?_
        rintro e wc ⟨a1, c1, a2, c2, rfl, hO, hbc⟩
        have hR := HR.out.call hbc
        have hbl := btrans hbl2 hbl2.size hbc
        have hzc : w.heap.size + 3 < wc.heap.size := by have := hbc.size; have := HR.out.lt; omega
        clear x0 x1 x2 x3 x4 aa dd hX hA hDt
        have r0 : wc.cell? ⟨w.heap.size + 3, 0, none⟩ = some (.slice none 0 0) := hR.cell 0
        have r1 : wc.cell? ⟨w.heap.size + 3, 1, none⟩ = some (.slice none 0 0) := hR.cell 1
        have r2 : wc.cell? ⟨w.heap.size + 3, 2, none⟩ = some (.int .i64 0) := hR.cell 2
        have r3 : wc.cell? ⟨w.heap.size + 3, 3, none⟩ = some (.int .i64 0) := hR.cell 3
        have r4 : wc.cell? ⟨w.heap.size + 3, 4, none⟩ = some (.bool false) := hR.cell 4
        have g0 := hR.free 0
        have g1 := hR.free 1
        have g2 := hR.free 2
        have g3 := hR.free 3
        have g4 := hR.free 4
        have kk := (hR.sets (.slice a1 d.S.length c1) (.slice a2 d.P.length c2) (.int .i64 d.fuse) (.int .i64 d.ops) (.bool d.dead))
        have k0 := kk.cell 0
        have k1 := kk.cell 1
        have k2 := kk.cell 2
        have k3 := kk.cell 3
        have k4 := kk.cell 4
        simp only [List.getElem?_toArray, List.getElem?_cons_zero, List.getElem?_cons_succ] at k0 k1 k2 k3 k4
        clear kk
        have hlt : w.heap.size + 3 < w2.heap.size := HR.out.lt
        have HO := Lib.hid hO; clear hO hR
        go_wp2
        refine bodyPost_ret (v := .tuple #[.agg #[.slice a1 d.S.length c1, .slice a2 d.P.length c2, .int .i64 d.fuse, .int .i64 d.ops, .bool d.dead], .int .i64 1]) (by simp [results, Try.results61, go_sem, k0, k1, k2, k3, k4]) rfl ?_
        rw [HF.out]
        refine ⟨a1, c1, a2, c2, rfl, ?_, ?_⟩
        · exact (HO.out.sets (w.heap.size + 3) hlt _ _ _ _ _).mono (by have := hbl2.size; omega)
        · exact below_sets hbl (w.heap.size + 3) (by omega) _ _ _ _ _
end Go.Proofs.Ytkpfkknldeafkaa
namespace Go.Proofs.Ytkpfkknldeafkaa
open Go.RowKit
theorem fuse_off {d : Dk} (n : Int) (h : validB d = false) : fuseS d n = d := by unfold fuseS; rw [h]; rfl
theorem fuse_on {d : Dk} (n : Int) (h : validB d = true) : fuseS d n = { d with fuse := min (max n 0) 1099511627776 } := by unfold fuseS; rw [h]; rfl
theorem read_bad {d : Dk} (n : Int) (h : validB d = false ∨ hasB d n = false) : readS d n = ([], 1) := by
  unfold readS; rw [if_neg]; intro h2; rcases h with h | h
  · rw [h2.1] at h; cases h
  · rw [h2.2] at h; cases h
theorem read_dead {d : Dk} (n : Int) (h : validB d = true) (h2 : hasB d n = true) (h3 : d.dead = true) : readS d n = ([], 18) := by
  unfold readS; rw [if_pos ⟨h, h2⟩, if_pos h3]
theorem read_ok {d : Dk} (m : Nat) (hm : m < d.S.length) (h : validB d = true) (h2 : hasB d m = true) (h3 : d.dead = false) : readS d m = (lastW d.S[m] d.P m, 0) := by
  unfold readS; rw [if_pos ⟨h, h2⟩, if_neg (by rw [h3]; decide)]
  rw [Int.toNat_natCast, List.getD_eq_getElem?_getD, List.getElem?_eq_getElem hm]; rfl

set_option maxRecDepth 100000 in
set_option maxHeartbeats 4000000 in
theorem Fuse_any (sa pa : Option Addr) (sc pc : Nat) (d : Dk) (n : Int) (w : World) (hD : Lists w sa sc pa pc d) :
    Calls Try.prog 33 #[.agg #[.slice sa d.S.length sc, .slice pa d.P.length pc, .int .i64 d.fuse, .int .i64 d.ops, .bool d.dead], .int .i64 n] w (ClonePost (fuseS d n) w) := by
  have hb0 := ((Below.refl w.heap.size w).alloc (Nat.le_refl _) (.cells #[.slice sa d.S.length sc, .slice pa d.P.length pc, .int .i64 d.fuse, .int .i64 d.ops, .bool d.dead] 38)).alloc (by simp) (.cells #[.slice none 0 0, .slice none 0 0, .int .i64 0, .int .i64 0, .bool false] 38)
  have hX : Bx w.heap.size #[.slice sa d.S.length sc, .slice pa d.P.length pc, .int .i64 d.fuse, .int .i64 d.ops, .bool d.dead] 38 ((w.alloc (.cells #[.slice sa d.S.length sc, .slice pa d.P.length pc, .int .i64 d.fuse, .int .i64 d.ops, .bool d.dead] 38)).alloc (.cells #[.slice none 0 0, .slice none 0 0, .int .i64 0, .int .i64 0, .bool false] 38)) := by
    have h := (Bx.new w #[.slice sa d.S.length sc, .slice pa d.P.length pc, .int .i64 d.fuse, .int .i64 d.ops, .bool d.dead] 38)
    have h := h.alloc (.cells #[.slice none 0 0, .slice none 0 0, .int .i64 0, .int .i64 0, .bool false] 38)
    simpa using h
  have HX := Lib.hid hX; clear hX
  have hR : Bx (w.heap.size + 1) #[.slice none 0 0, .slice none 0 0, .int .i64 0, .int .i64 0, .bool false] 38 ((w.alloc (.cells #[.slice sa d.S.length sc, .slice pa d.P.length pc, .int .i64 d.fuse, .int .i64 d.ops, .bool d.dead] 38)).alloc (.cells #[.slice none 0 0, .slice none 0 0, .int .i64 0, .int .i64 0, .bool false] 38)) := by
    have h := (Bx.new (w.alloc (.cells #[.slice sa d.S.length sc, .slice pa d.P.length pc, .int .i64 d.fuse, .int .i64 d.ops, .bool d.dead] 38)) #[.slice none 0 0, .slice none 0 0, .int .i64 0, .int .i64 0, .bool false] 38)
    simpa using h
  have HR := Lib.hid hR; clear hR
  have hD0 := hD.below hb0
  go_enter Try.func33, Try.ntmps33
  go_wp2_with fail
  refine (clone_any _ _ _ _ _ _ hD0).mono ?_
  rintro e w1 ⟨a1, c1, a2, c2, rfl, hO, hb1⟩
  have hX := HX.out.call hb1; clear HX; have HX := Lib.hid hX; clear hX
  have hR := HR.out.call hb1; clear HR; have HR := Lib.hid hR; clear hR
  have hbl1 := btrans hb0 hb0.size hb1
  have hbl2 := hbl1.alloc hbl1.size (.cells #[.slice a1 d.S.length c1, .slice a2 d.P.length c2, .int .i64 d.fuse, .int .i64 d.ops, .bool d.dead] 38)
  have hX := HX.out.alloc (.cells #[.slice a1 d.S.length c1, .slice a2 d.P.length c2, .int .i64 d.fuse, .int .i64 d.ops, .bool d.dead] 38)
  have hY := Bx.new w1 #[.slice a1 d.S.length c1, .slice a2 d.P.length c2, .int .i64 d.fuse, .int .i64 d.ops, .bool d.dead] 38
  have hR := HR.out.alloc (.cells #[.slice a1 d.S.length c1, .slice a2 d.P.length c2, .int .i64 d.fuse, .int .i64 d.ops, .bool d.dead] 38)
  have hO1 := hO.alloc (.cells #[.slice a1 d.S.length c1, .slice a2 d.P.length c2, .int .i64 d.fuse, .int .i64 d.ops, .bool d.dead] 38)
  have hne := hO.sne
  have hzz : w.heap.size + 2 ≤ w1.heap.size := by have := hb1.size; simp at this; omega
  have x0 : (w1.alloc (.cells #[.slice a1 d.S.length c1, .slice a2 d.P.length c2, .int .i64 d.fuse, .int .i64 d.ops, .bool d.dead] 38)).cell? ⟨w.heap.size, 0, none⟩ = some (.slice sa d.S.length sc) := hX.cell 0
  have x1 : (w1.alloc (.cells #[.slice a1 d.S.length c1, .slice a2 d.P.length c2, .int .i64 d.fuse, .int .i64 d.ops, .bool d.dead] 38)).cell? ⟨w.heap.size, 1, none⟩ = some (.slice pa d.P.length pc) := hX.cell 1
  have x2 : (w1.alloc (.cells #[.slice a1 d.S.length c1, .slice a2 d.P.length c2, .int .i64 d.fuse, .int .i64 d.ops, .bool d.dead] 38)).cell? ⟨w.heap.size, 2, none⟩ = some (.int .i64 d.fuse) := hX.cell 2
  have x3 : (w1.alloc (.cells #[.slice a1 d.S.length c1, .slice a2 d.P.length c2, .int .i64 d.fuse, .int .i64 d.ops, .bool d.dead] 38)).cell? ⟨w.heap.size, 3, none⟩ = some (.int .i64 d.ops) := hX.cell 3
  have x4 : (w1.alloc (.cells #[.slice a1 d.S.length c1, .slice a2 d.P.length c2, .int .i64 d.fuse, .int .i64 d.ops, .bool d.dead] 38)).cell? ⟨w.heap.size, 4, none⟩ = some (.bool d.dead) := hX.cell 4
  have hD1 := hD.below hbl2
  have HX := Lib.hid hX; have HY := Lib.hid hY; have HR := Lib.hid hR; have HO := Lib.hid hO1; have HNE := Lib.hid hne
  clear hX hY hR hO hO1 hne hb1 hbl1 hb0 hD0
  go_wp2_with fail
  refine (Valid_any _ _ _ _ _ _ hD1).mono ?_
  cases hv : validB d with
  | false =>
    have HF := Lib.hid (fuse_off n hv)
    rintro e w2 ⟨rfl, hb2⟩
    have hY := HY.out.call hb2
    have hR := HR.out.call hb2
    have hO := HO.out.call hb2
    have hbl3 := btrans hbl2 hbl2.size hb2
    have hz2 : w1.heap.size < w2.heap.size := hY.lt
    clear x0 x1 x2 x3 x4 hv hb2 HY HR HO HX
    have y0 : w2.cell? ⟨w1.heap.size, 0, none⟩ = some (.slice a1 d.S.length c1) := hY.cell 0
    have y1 : w2.cell? ⟨w1.heap.size, 1, none⟩ = some (.slice a2 d.P.length c2) := hY.cell 1
    have y2 : w2.cell? ⟨w1.heap.size, 2, none⟩ = some (.int .i64 d.fuse) := hY.cell 2
    have y3 : w2.cell? ⟨w1.heap.size, 3, none⟩ = some (.int .i64 d.ops) := hY.cell 3
    have y4 : w2.cell? ⟨w1.heap.size, 4, none⟩ = some (.bool d.dead) := hY.cell 4
    have hR2 := hR
    have hO2 := hO.mono (B' := w.heap.size + 2) (by simp)
    have hbl4 := hbl3
    have r0 : w2.cell? ⟨w.heap.size + 1, 0, none⟩ = some (.slice none 0 0) := hR2.cell 0
    have r1 : w2.cell? ⟨w.heap.size + 1, 1, none⟩ = some (.slice none 0 0) := hR2.cell 1
    have r2 : w2.cell? ⟨w.heap.size + 1, 2, none⟩ = some (.int .i64 0) := hR2.cell 2
    have r3 : w2.cell? ⟨w.heap.size + 1, 3, none⟩ = some (.int .i64 0) := hR2.cell 3
    have r4 : w2.cell? ⟨w.heap.size + 1, 4, none⟩ = some (.bool false) := hR2.cell 4
    have g0 := hR2.free 0
    have g1 := hR2.free 1
    have g2 := hR2.free 2
    have g3 := hR2.free 3
    have g4 := hR2.free 4
    have kk := (hR2.sets (.slice a1 d.S.length c1) (.slice a2 d.P.length c2) (.int .i64 d.fuse) (.int .i64 d.ops) (.bool d.dead))
    have k0 := kk.cell 0
    have k1 := kk.cell 1
    have k2 := kk.cell 2
    have k3 := kk.cell 3
    have k4 := kk.cell 4
    simp only [List.getElem?_toArray, List.getElem?_cons_zero, List.getElem?_cons_succ] at k0 k1 k2 k3 k4
    clear kk
    have HO := Lib.hid hO2; have HB := Lib.hid hbl4
    clear hO2 hbl4 hO hR hR2 hY hbl3
    go_wp2
    refine bodyPost_ret (v := .agg #[.slice a1 d.S.length c1, .slice a2 d.P.length c2, .int .i64 d.fuse, .int .i64 d.ops, .bool d.dead]) (by simp [results, Try.results33, go_sem, k0, k1, k2, k3, k4]) rfl ?_
    rw [HF.out]
    refine ⟨a1, c1, a2, c2, rfl, ?_, ?_⟩
    · exact (HO.out.sets (w.heap.size + 1) (by omega) _ _ _ _ _).mono (by omega)
    · exact below_sets HB.out (w.heap.size + 1) (by omega) _ _ _ _ _
  | true =>
    have HF := Lib.hid (fuse_on n hv)
    rintro e w2 ⟨rfl, hb2⟩
    have hY := HY.out.call hb2
    have hR := HR.out.call hb2
    have hO := HO.out.call hb2
    have hbl3 := btrans hbl2 hbl2.size hb2
    have hz2 : w1.heap.size < w2.heap.size := hY.lt
    clear x0 x1 x2 x3 x4 hv hb2 HY HR HO HX
    have y0 : w2.cell? ⟨w1.heap.size, 0, none⟩ = some (.slice a1 d.S.length c1) := hY.cell 0
    have y1 : w2.cell? ⟨w1.heap.size, 1, none⟩ = some (.slice a2 d.P.length c2) := hY.cell 1
    have y2 : w2.cell? ⟨w1.heap.size, 2, none⟩ = some (.int .i64 d.fuse) := hY.cell 2
    have y3 : w2.cell? ⟨w1.heap.size, 3, none⟩ = some (.int .i64 d.ops) := hY.cell 3
    have y4 : w2.cell? ⟨w1.heap.size, 4, none⟩ = some (.bool d.dead) := hY.cell 4
    have fy := hY.free 2
    have hY2 := hY.set 2 (.int .i64 (min (max n 0) 1099511627776))
    have hR2 := hR.other (i := 2) (c := w1.heap.size) (by omega) (.int .i64 (min (max n 0) 1099511627776))
    have hO2 : Owned (w.heap.size + 2) { d with fuse := min (max n 0) 1099511627776 } (w2.setCell ⟨w1.heap.size, 2, none⟩ (.int .i64 (min (max n 0) 1099511627776))) (.slice a1 d.S.length c1) (.slice a2 d.P.length c2) := by
      obtain ⟨B1, o1, o2, o3, o4, o5⟩ := hO
      exact ⟨B1, by simpa using o1, o2, own_mono (own_set2 o3 w1.heap.size 2 HNE.out.1 (.int .i64 (min (max n 0) 1099511627776))) (by simp), own_set2 o4 w1.heap.size 2 HNE.out.2 (.int .i64 (min (max n 0) 1099511627776)), by simpa using o5⟩
    have hbl4 := below_set hbl3 w1.heap.size 2 (by omega) (.int .i64 (min (max n 0) 1099511627776))
    have z0 : (w2.setCell ⟨w1.heap.size, 2, none⟩ (.int .i64 (min (max n 0) 1099511627776))).cell? ⟨w1.heap.size, 0, none⟩ = some (.slice a1 d.S.length c1) := hY2.cell 0
    have z1 : (w2.setCell ⟨w1.heap.size, 2, none⟩ (.int .i64 (min (max n 0) 1099511627776))).cell? ⟨w1.heap.size, 1, none⟩ = some (.slice a2 d.P.length c2) := hY2.cell 1
    have z2 : (w2.setCell ⟨w1.heap.size, 2, none⟩ (.int .i64 (min (max n 0) 1099511627776))).cell? ⟨w1.heap.size, 2, none⟩ = some (.int .i64 (min (max n 0) 1099511627776)) := hY2.cell 2
    have z3 : (w2.setCell ⟨w1.heap.size, 2, none⟩ (.int .i64 (min (max n 0) 1099511627776))).cell? ⟨w1.heap.size, 3, none⟩ = some (.int .i64 d.ops) := hY2.cell 3
    have z4 : (w2.setCell ⟨w1.heap.size, 2, none⟩ (.int .i64 (min (max n 0) 1099511627776))).cell? ⟨w1.heap.size, 4, none⟩ = some (.bool d.dead) := hY2.cell 4
    have r0 : (w2.setCell ⟨w1.heap.size, 2, none⟩ (.int .i64 (min (max n 0) 1099511627776))).cell? ⟨w.heap.size + 1, 0, none⟩ = some (.slice none 0 0) := hR2.cell 0
    have r1 : (w2.setCell ⟨w1.heap.size, 2, none⟩ (.int .i64 (min (max n 0) 1099511627776))).cell? ⟨w.heap.size + 1, 1, none⟩ = some (.slice none 0 0) := hR2.cell 1
    have r2 : (w2.setCell ⟨w1.heap.size, 2, none⟩ (.int .i64 (min (max n 0) 1099511627776))).cell? ⟨w.heap.size + 1, 2, none⟩ = some (.int .i64 0) := hR2.cell 2
    have r3 : (w2.setCell ⟨w1.heap.size, 2, none⟩ (.int .i64 (min (max n 0) 1099511627776))).cell? ⟨w.heap.size + 1, 3, none⟩ = some (.int .i64 0) := hR2.cell 3
    have r4 : (w2.setCell ⟨w1.heap.size, 2, none⟩ (.int .i64 (min (max n 0) 1099511627776))).cell? ⟨w.heap.size + 1, 4, none⟩ = some (.bool false) := hR2.cell 4
    have g0 := hR2.free 0
    have g1 := hR2.free 1
    have g2 := hR2.free 2
    have g3 := hR2.free 3
    have g4 := hR2.free 4
    have kk := (hR2.sets (.slice a1 d.S.length c1) (.slice a2 d.P.length c2) (.int .i64 (min (max n 0) 1099511627776)) (.int .i64 d.ops) (.bool d.dead))
    have k0 := kk.cell 0
    have k1 := kk.cell 1
    have k2 := kk.cell 2
    have k3 := kk.cell 3
    have k4 := kk.cell 4
    simp only [List.getElem?_toArray, List.getElem?_cons_zero, List.getElem?_cons_succ] at k0 k1 k2 k3 k4
    clear kk
    have HO := Lib.hid hO2; have HB := Lib.hid hbl4
    clear hO2 hbl4 hO hR hR2 hY hbl3 hY2
    go_wp2
    refine bodyPost_ret (v := .agg #[.slice a1 d.S.length c1, .slice a2 d.P.length c2, .int .i64 (min (max n 0) 1099511627776), .int .i64 d.ops, .bool d.dead]) (by simp [results, Try.results33, go_sem, k0, k1, k2, k3, k4]) rfl ?_
    rw [HF.out]
    refine ⟨a1, c1, a2, c2, rfl, ?_, ?_⟩
    · exact (HO.out.sets (w.heap.size + 1) (by omega) _ _ _ _ _).mono (by omega)
    · exact below_sets HB.out (w.heap.size + 1) (by omega) _ _ _ _ _

set_option maxRecDepth 100000 in
set_option maxHeartbeats 4000000 in
theorem Read_any (sa pa : Option Addr) (sc pc : Nat) (d : Dk) (n : Int) (w : World) (hD : Lists w sa sc pa pc d) :
    Calls Try.prog 59 #[.agg #[.slice sa d.S.length sc, .slice pa d.P.length pc, .int .i64 d.fuse, .int .i64 d.ops, .bool d.dead], .int .i64 n] w fun e w' => e = .returned (.tuple #[.string (bs (readS d n).1), .int .i64 (readS d n).2]) ∧ Below w.heap.size w w' := by
  have hb0 := (Below.refl w.heap.size w).alloc (Nat.le_refl _) (.cells #[.slice sa d.S.length sc, .slice pa d.P.length pc, .int .i64 d.fuse, .int .i64 d.ops, .bool d.dead] 38)
  have hX : Bx w.heap.size #[.slice sa d.S.length sc, .slice pa d.P.length pc, .int .i64 d.fuse, .int .i64 d.ops, .bool d.dead] 38 (w.alloc (.cells #[.slice sa d.S.length sc, .slice pa d.P.length pc, .int .i64 d.fuse, .int .i64 d.ops, .bool d.dead] 38)) := by
    have h := (Bx.new w #[.slice sa d.S.length sc, .slice pa d.P.length pc, .int .i64 d.fuse, .int .i64 d.ops, .bool d.dead] 38)
    simpa using h
  have HX := Lib.hid hX; clear hX
  have hD0 := hD.below hb0
  go_enter Try.func59, Try.ntmps59
  go_wp2_with fail
  refine (Valid_any _ _ _ _ _ _ hD0).mono ?_
  cases hv : validB d with
  | false =>
    have HF := Lib.hid (read_bad n (.inl hv))
    rintro e w1 ⟨rfl, hb1⟩
    have hbl1 := btrans hb0 hb0.size hb1
    clear hv
    go_wp2_with fail
    go_ret2
    exact ⟨by rw [HF.out]; rfl, hbl1⟩
  | true =>
    rintro e w1 ⟨rfl, hb1⟩
    have hX := HX.out.call hb1; clear HX; have HX := Lib.hid hX; clear hX
    have hbl1 := btrans hb0 hb0.size hb1
    have hD1 := hD0.below hb1
    have hX := HX.out
    have x0 : w1.cell? ⟨w.heap.size, 0, none⟩ = some (.slice sa d.S.length sc) := hX.cell 0
    have x1 : w1.cell? ⟨w.heap.size, 1, none⟩ = some (.slice pa d.P.length pc) := hX.cell 1
    have x2 : w1.cell? ⟨w.heap.size, 2, none⟩ = some (.int .i64 d.fuse) := hX.cell 2
    have x3 : w1.cell? ⟨w.heap.size, 3, none⟩ = some (.int .i64 d.ops) := hX.cell 3
    have x4 : w1.cell? ⟨w.heap.size, 4, none⟩ = some (.bool d.dead) := hX.cell 4
    have HV := Lib.hid hv; clear hv hX hb1
    go_wp2_with fail
    refine (has_any _ _ _ _ _ _ _).mono ?_
    cases hh : hasB d n with
    | false =>
      have HF := Lib.hid (read_bad n (.inr hh))
      rintro e w2 ⟨rfl, hb2⟩
      have hbl2 := btrans hbl1 hbl1.size hb2
      clear hh
      go_wp2_with fail
      go_ret2
      exact ⟨by rw [HF.out]; rfl, hbl2⟩
    | true =>
      rintro e w2 ⟨rfl, hb2⟩
      have hX := HX.out.call hb2; clear HX; have HX := Lib.hid hX; clear hX
      have hbl2 := btrans hbl1 hbl1.size hb2
      have hD2 := hD1.below hb2
      clear x0 x1 x2 x3 x4 hb2 hD1 hD0 hb0 hbl1
      obtain ⟨m, hm, rfl⟩ : ∃ m : Nat, m < d.S.length ∧ n = m := by
        unfold hasB at hh; simp at hh; exact ⟨n.toNat, by omega, by omega⟩
      obtain ⟨b, off, rfl, hsc, c1⟩ := hD2.sec m hm
      have hX := HX.out
      have x0 : w2.cell? ⟨w.heap.size, 0, none⟩ = some (.slice (some ⟨b, off, none⟩) d.S.length sc) := hX.cell 0
      have x1 : w2.cell? ⟨w.heap.size, 1, none⟩ = some (.slice pa d.P.length pc) := hX.cell 1
      have x2 : w2.cell? ⟨w.heap.size, 2, none⟩ = some (.int .i64 d.fuse) := hX.cell 2
      have x3 : w2.cell? ⟨w.heap.size, 3, none⟩ = some (.int .i64 d.ops) := hX.cell 3
      have x4 : w2.cell? ⟨w.heap.size, 4, none⟩ = some (.bool d.dead) := hX.cell 4
      have HH := Lib.hid hh; clear hh hX
      have hm1 : (m : Int) < (d.S.length : Int) := by omega
      cases hd : d.dead with
      | true =>
        have HF := Lib.hid (read_dead m HV.out HH.out hd)
        rw [hd] at x4
        clear hd
        go_wp2_with fail
        go_ret2
        exact ⟨by rw [HF.out]; rfl, hbl2⟩
      | false =>
        have HF := Lib.hid (read_ok m hm HV.out HH.out hd)
        rw [hd] at x4
        clear hd
        have hPl := hD.2.2.1
        go_wp2
        go_loopw [6, 28] (fun s i wr => ∃ (k : Nat) (l : List UInt8), k ≤ d.P.length ∧ i = .int .i64 k ∧ s = .string (bs l) ∧ Hid (l = lastW d.S[m] (d.P.take k) m) ∧ Below w.heap.size w wr) (fun _ i _ => d.P.length - (intOf i).toNat)
        case atStart => exact ⟨0, _, Nat.zero_le _, rfl, rfl, Lib.hid rfl, hbl2⟩
        case round =>
          obtain ⟨j, l, hj, rfl, rfl, HL, hb3⟩ := hrel
          by_cases hlt : j < d.P.length
          · obtain ⟨b2, off2, rfl, p1, p2⟩ := (hD.below (hb3.mono (Nat.le_refl _))).pen j hlt
            have hlt' : (j : Int) < (d.P.length : Int) := by omega
            obtain ⟨x, hx⟩ : ∃ x, d.P[j] = x := ⟨_, rfl⟩
            rw [hx] at p1 p2
            have hb4 := hb3.alloc hb3.size (.cells #[.int .i64 x.1, .string (bs x.2)] 94)
            by_cases he : x.1 = (m : Int)
            · have t1 : (x.1 == (m : Int)) = true := by rw [he]; exact beq_self_eq_true _
              have HL2 : Hid (x.2 = lastW d.S[m] (d.P.take (j + 1)) m) := Lib.hid (by rw [List.take_succ_eq_append_getElem hlt, hx, lastW_snoc, if_pos he])
              clear he hx
              go_wp2
              go_roundw
              case rel => exact ⟨j + 1, _, by omega, by go_num, rfl, HL2, hb4⟩
              case measure => simp [intOf]; omega
            · have t1 : (x.1 == (m : Int)) = false := by rw [beq_eq_false_iff_ne]; exact he
              have HL2 : Hid (l = lastW d.S[m] (d.P.take (j + 1)) m) := Lib.hid (by rw [List.take_succ_eq_append_getElem hlt, hx, lastW_snoc, if_neg he]; exact HL.out)
              clear he hx
              go_wp2
              go_roundw
              case rel => exact ⟨j + 1, _, by omega, by go_num, rfl, HL2, hb4⟩
              case measure => simp [intOf]; omega
          · obtain rfl : j = d.P.length := by omega
            have HL2 : Hid (l = lastW d.S[m] d.P m) := Lib.hid (by rw [HL.out, List.take_length])
            clear hlt HL
            go_wp2
            go_ret2
            exact ⟨by rw [HF.out, HL2.out]; rfl, hb3⟩
end Go.Proofs.Ytkpfkknldeafkaa
namespace Go.Proofs
open Go.Shelf
def Try.lays212_ren : Go.Shelf.Ren := ⟨fun | 212 => 112 | 263 => 120 | 264 => 121 | n => n, fun | 46 => 127 | 51 => 149 | 146 => 152 | 53 => 84 | 148 => 154 | n => n, fun | n => n⟩
theorem Try.lays212 : Go.Proofs.Lays.n212 Try.prog Try.lays212_ren := {
  mixed := by kernel_rfl
  f212 := Try.func112.trans (congrArg some (by kernel_rfl))
  f263 := Try.func120.trans (congrArg some (by kernel_rfl))
  f264 := Try.func121.trans (congrArg some (by kernel_rfl))
  t46 := Try.underlying127
  a46 := Try.isAgg127
  z46 := Try.sizeOf127
  v46 := Try.zeroValue127
  t51 := Try.underlying149
  a51 := Try.isAgg149
  z51 := Try.sizeOf149
  v51 := Try.zeroValue149
  t53 := Try.underlying84
  a53 := Try.isAgg84
  z53 := Try.sizeOf84
  v53 := Try.zeroValue84
  t146 := Try.underlying152
  a146 := Try.isAgg152
  z146 := Try.sizeOf152
  v146 := Try.zeroValue152
  t148 := Try.underlying154
  a148 := Try.isAgg154
  z148 := Try.sizeOf154
  v148 := Try.zeroValue154 }
open Go.RowKit Go.Lib in
theorem Try.bits_Mul (x y : Nat) (hx : x < 18446744073709551616) (hy : y < 18446744073709551616) (w : World) :
    Calls Try.prog 112 #[.int .u64 x, .int .u64 y] w fun e w' => e = .returned (.tuple #[.int .u64 ((x * y / 18446744073709551616 : Nat) : Int), .int .u64 ((x * y % 18446744073709551616 : Nat) : Int)]) ∧ w' = w := Any.bits_Mul Try.lays212 x y hx hy w
end Go.Proofs
namespace Go.Proofs.Ytkpfkknldeafkaa
open Go.RowKit

theorem mul_one_any (n : Nat) (hn : n ≤ 1024) (w : World) : Calls Try.prog 112 #[.int .u64 1, .int .u64 n] w fun e w' => e = .returned (.tuple #[.int .u64 0, .int .u64 n]) ∧ w = w' := by
  have h := Try.bits_Mul 1 n (by omega) (by omega) w
  rw [show 1 * n / 18446744073709551616 = 0 by omega, show 1 * n % 18446744073709551616 = n by omega] at h
  exact h.mono fun e w' h => ⟨h.1, h.2.symm⟩
/-- the first k cells hold s, the others nothing -/
def half (s : List UInt8) (n k : Nat) : List Value := List.replicate k (strV s) ++ List.replicate (n - k) (.string ⟨#[]⟩)
theorem half_len (s : List UInt8) (n k : Nat) (h : k ≤ n) : (half s n k).length = n := by unfold half; simp; omega
theorem half_get (s : List UInt8) (n k i : Nat) (h : i < k) : (half s n k)[i]? = some (strV s) := by
  unfold half
  rw [List.getElem?_append_left (by simp; omega)]
  simp [h]
theorem half_splice (s : List UInt8) (n k m : Nat) (h : k + m ≤ n) : splice (half s n k) k (List.replicate m (strV s)) = half s n (k + m) := by
  unfold splice half
  rw [List.take_append_of_le_length (by simp), List.take_of_length_le (by simp), List.length_replicate, List.drop_append, List.drop_of_length_le (by simp), List.length_replicate, List.drop_replicate, List.nil_append, ← List.append_assoc, List.replicate_append_replicate]
  congr 2
  omega
set_option maxRecDepth 100000 in
theorem copy_run {W w0 : World} {B g dl dc sl sc : Nat} {ad : Addr} {s : List UInt8} {n k m : Nat} (hb : Below B w0 W) (hBg : B ≤ g) (hg : W.heap[g]? = some (.cells (half s n k).toArray 9 (0, 0))) (hm : m = Nat.min sl dl) (hkm : k + m ≤ n)
    (hsrc : ∀ j, j < m → W.cell? (ad.add j) = some (strV s)) :
    ∃ w3, (Builtin.copy_ #[35, 35] 3 #[.slice (some ⟨g, k, none⟩) dl dc, .slice (some ad) sl sc]).run Try.prog W = .ok (.int .i64 m) w3 ∧ Hid (w3.heap[g]? = some (.cells (half s n (k + m)).toArray 9 (0, 0))) ∧ Below B w0 w3 := by
  obtain ⟨i0, hi, hz0, hz1, hz2⟩ := info_parts Try.info9
  have h := run_copy_row (P := Try.prog) W 35 35 3 9 g k dl dc ad sl sc (half s n k).toArray 9 (List.replicate m (strV s)) Try.underlying35 (by rw [hi]; simp [hz1]) hg (by rw [List.length_replicate]; exact hm)
    (by
      intro j v hj
      have hj2 : j < (List.replicate m (strV s)).length := by
        rcases Nat.lt_or_ge j (List.replicate m (strV s)).length with h | h
        · exact h
        · rw [List.getElem?_eq_none h] at hj; cases hj
      rw [List.eq_of_mem_replicate (List.mem_of_getElem? hj)]
      exact hsrc j (by simpa using hj2))
    (by rw [List.size_toArray, half_len _ _ _ (by omega), List.length_replicate]; exact hkm) (by intro v hv; rw [List.eq_of_mem_replicate hv]; rfl)
  rw [List.length_replicate] at h
  refine ⟨_, h, ?_, below_setRow hb hBg _⟩
  refine Lib.hid ((setRow_heap W g _ _ _ _ hg).trans ?_)
  have h3 := half_splice s n k m hkm
  unfold splice at h3
  rw [List.length_replicate] at h3
  simp only [List.append_assoc]
  rw [h3]
theorem made_half (s : List UInt8) (n : Nat) : madeCells #[.string ⟨#[]⟩] n = (half s n 0).toArray := by
  rw [← Array.toList_inj, toList_madeCells_one]; simp [half]
theorem half_own {W : World} {B g n : Nat} {s : List UInt8} (hB : B ≤ g) (hn : n ≤ maxLen) (h : W.heap[g]? = some (.cells (half s n n).toArray 9 (0, 0))) :
    W.ownsRow B 9 1 (.slice (some ⟨g, 0, none⟩) n n) n (List.replicate n (strV s)) := by
  refine ⟨by simp, .inr ⟨g, n, _, rfl, hB, h, Nat.le_refl _, hn, by simp [half], ?_⟩⟩
  simp [half]

set_option maxRecDepth 100000 in
set_option maxHeartbeats 4000000 in
theorem Repeat_any (b off cap : Nat) (s : List UInt8) (n : Nat) (hn1 : 1 ≤ n) (hn2 : n ≤ 1024) (w : World) (hc : w.cell? ⟨b, off, none⟩ = some (.string (bs s))) :
    Calls Try.prog 90 #[.slice (some ⟨b, off, none⟩) 1 cap, .int .i64 n] w fun e w' => ∃ v, e = .returned v ∧ w'.ownsRow w.heap.size 9 1 v n (List.replicate n (strV s)) ∧ Below w.heap.size w w' := by
  obtain ⟨i0, hi, hz0, hz1, hz2⟩ := info_parts Try.info9
  have hu1 : IntKind.u64.wrap 1 = 1 := by decide
  have hu2 : IntKind.u64.wrap (n : Int) = n := by unfold IntKind.wrap; simp [IntKind.bits, IntKind.signed]; omega
  have hmk : ∀ w, (Instr.makeSlice 35 (.int .i64 n) (.int .i64 n)).run Try.prog w = .ok (.slice (some ⟨w.heap.size, 0, none⟩) n n) (w.alloc (.cells (madeCells #[.string ⟨#[]⟩] n) 9)) := by
    intro w
    have h := run_make (P := Try.prog) w 35 9 i0 (.string ⟨#[]⟩) Try.underlying35 hi hz0 .i64 .i64 n n (by omega) (by omega) (by rw [hz2]; omega) (by omega)
    simpa [hz1, Value.cells] using h
  go_enter Try.func90, Try.ntmps90
  go_wp2_with fail
  refine (mul_one_any n hn2 _).mono ?_
  rintro e w1 ⟨rfl, rfl⟩
  have hb1 := (Below.refl w.heap.size w).alloc (Nat.le_refl _) (.cells (madeCells #[.string ⟨#[]⟩] n) 9)
  have hrow : (w.alloc (.cells (madeCells #[.string ⟨#[]⟩] n) 9)).heap[w.heap.size]? = some (.cells (half s n 0).toArray 9 (0, 0)) := by
    rw [← made_half]; exact heap_alloc_new w _
  have hc1 : (w.alloc (.cells (madeCells #[.string ⟨#[]⟩] n) 9)).cell? ⟨b, off, none⟩ = some (.string (bs s)) := by
    rw [(bcell ((Below.refl w.heap.size w).alloc (Nat.le_refl _) _)).1 _ _ (World.block_lt_of_cell? w _ hc)]; exact hc
  obtain ⟨w2, hcp, hg3, hb2⟩ := copy_run (dl := n) (dc := n) (sl := 1) (sc := cap) (ad := ⟨b, off, none⟩) (m := 1) hb1 (Nat.le_refl _) hrow (Nat.min_eq_left hn1).symm (by omega) (by
    intro j hj
    obtain rfl : j = 0 := by omega
    rw [addr_add]; exact hc1)
  rw [show ((1 : Nat) : Int) = 1 from rfl] at hcp
  clear hc1
  go_wp2
  go_loopw [8] (fun i wr => ∃ k : Nat, 1 ≤ k ∧ k ≤ n ∧ i = .int .i64 k ∧ Hid (wr.heap[w.heap.size]? = some (.cells (half s n k).toArray 9 (0, 0))) ∧ Below w.heap.size w wr) (fun i _ => n - (intOf i).toNat)
  case atStart => exact ⟨1, Nat.le_refl _, hn1, rfl, hg3, hb2⟩
  case round =>
    obtain ⟨k, hk1, hk2, rfl, HG, hbr⟩ := hrel
    clear hg3 hb2 hb1 hmk hcp
    by_cases hlt : k < n
    · have hlt' : (k : Int) < (n : Int) := by omega
      obtain ⟨m, hm⟩ : ∃ m, m = Nat.min k (n - k) := ⟨_, rfl⟩
      have hm1 : 1 ≤ m := by rw [hm]; exact Nat.le_min.2 ⟨hk1, by omega⟩
      have hm2 : m ≤ k := by rw [hm]; exact Nat.min_le_left _ _
      have hm3 : m ≤ n - k := by rw [hm]; exact Nat.min_le_right _ _
      obtain ⟨w3, hcp, hg3, hb3⟩ := copy_run (dl := n - k) (dc := n - k) (sl := k) (sc := n) (ad := ⟨w.heap.size, 0, none⟩) (m := m) hbr.drew (Nat.le_refl _) HG.out hm (by omega) (by
        intro j hj
        have hG := HG.out
        rw [addr_add]
        simp only [World.cell?, World.drew, hG]
        simpa using half_get s n k j (by omega))
      clear hm
      have hnk : ¬ n = k := by omega
      go_wp2
      go_region
      all_goals
        go_roundw
        case rel => exact ⟨_, _, _, _, _, _, _, _, _, _, _, _, _, _, ⟨k + m, by omega, by omega, by go_num, hg3, hb3⟩, rfl⟩
        case measure => simp [intOf]; omega
    · obtain rfl : k = n := by omega
      clear hlt
      go_wp2
      go_ret
      exact ⟨_, rfl, half_own (Nat.le_refl _) (by unfold maxLen; omega) HG.out, hbr⟩

def B64 : List UInt8 := List.replicate 64 0
theorem b64_get (j : Nat) (h : j < B64.length) : B64[j] = 0 := List.eq_of_mem_replicate (List.getElem_mem h)
theorem made_b64 (n j : Nat) (h : j < n) : (madeCells #[.int .u8 0] n)[j]? = some (.int .u8 0) := by
  rw [← Array.getElem?_toList, toList_madeCells_one]; simp [h]
def newS (n : Int) : Dk × Int := if 16 ≤ n ∧ n ≤ 1024 then (⟨List.replicate n.toNat B64, [], 0, 0, false⟩, 0) else (⟨[], [], 0, 0, false⟩, 1)

theorem owned_nil {B : Nat} {w : World} (h : B ≤ w.heap.size) : Owned B ⟨[], [], 0, 0, false⟩ w (.slice none 0 0) (.slice none 0 0) :=
  ⟨B, Nat.le_refl _, fun g hg => by simp [Value.ownBlock] at hg, World.ownsRow_nil _ _ _ _, World.ownsRow_nil _ _ _ _, h⟩

set_option maxRecDepth 100000 in
set_option maxHeartbeats 4000000 in
theorem New_any (n : Int) (w : World) : Calls Try.prog 47 #[.int .i64 n] w (OpPost (newS n) w) := by
  have hR := Bx.new w #[.slice none 0 0, .slice none 0 0, .int .i64 0, .int .i64 0, .bool false] 38
  have hb0 := (Below.refl w.heap.size w).alloc (Nat.le_refl _) (.cells #[.slice none 0 0, .slice none 0 0, .int .i64 0, .int .i64 0, .bool false] 38)
  have r0 : (w.alloc (.cells #[.slice none 0 0, .slice none 0 0, .int .i64 0, .int .i64 0, .bool false] 38)).cell? ⟨w.heap.size, 0, none⟩ = some (.slice none 0 0) := hR.cell 0
  have r1 : (w.alloc (.cells #[.slice none 0 0, .slice none 0 0, .int .i64 0, .int .i64 0, .bool false] 38)).cell? ⟨w.heap.size, 1, none⟩ = some (.slice none 0 0) := hR.cell 1
  have r2 : (w.alloc (.cells #[.slice none 0 0, .slice none 0 0, .int .i64 0, .int .i64 0, .bool false] 38)).cell? ⟨w.heap.size, 2, none⟩ = some (.int .i64 0) := hR.cell 2
  have r3 : (w.alloc (.cells #[.slice none 0 0, .slice none 0 0, .int .i64 0, .int .i64 0, .bool false] 38)).cell? ⟨w.heap.size, 3, none⟩ = some (.int .i64 0) := hR.cell 3
  have r4 : (w.alloc (.cells #[.slice none 0 0, .slice none 0 0, .int .i64 0, .int .i64 0, .bool false] 38)).cell? ⟨w.heap.size, 4, none⟩ = some (.bool false) := hR.cell 4
  by_cases h0 : n < 16
  · have HF := Lib.hid (show newS n = (⟨[], [], 0, 0, false⟩, 1) by unfold newS; rw [if_neg (by omega)])
    go_enter Try.func47, Try.ntmps47
    go_wp2
    refine bodyPost_ret (v := .tuple #[.agg #[.slice none 0 0, .slice none 0 0, .int .i64 0, .int .i64 0, .bool false], .int .i64 1]) (by simp [results, Try.results47, go_sem, r0, r1, r2, r3, r4]) rfl ?_
    rw [HF.out]
    exact ⟨none, 0, none, 0, rfl, owned_nil (by simp), hb0⟩
  · by_cases h1 : 1024 < n
    · have HF := Lib.hid (show newS n = (⟨[], [], 0, 0, false⟩, 1) by unfold newS; rw [if_neg (by omega)])
      go_enter Try.func47, Try.ntmps47
      go_wp2
      refine bodyPost_ret (v := .tuple #[.agg #[.slice none 0 0, .slice none 0 0, .int .i64 0, .int .i64 0, .bool false], .int .i64 1]) (by simp [results, Try.results47, go_sem, r0, r1, r2, r3, r4]) rfl ?_
      rw [HF.out]
      exact ⟨none, 0, none, 0, rfl, owned_nil (by simp), hb0⟩
    · obtain ⟨m, hm1, hm2, rfl⟩ : ∃ m : Nat, 16 ≤ m ∧ m ≤ 1024 ∧ n = m := ⟨n.toNat, by omega, by omega, by omega⟩
      have HF := Lib.hid (show newS (m : Int) = (⟨List.replicate m B64, [], 0, 0, false⟩, 0) by unfold newS; rw [if_pos (by omega), Int.toNat_natCast])
      obtain ⟨i0, hi, hz0, hz1, hz2⟩ := info_parts Try.infoByte
      have hmk : ∀ w, (Instr.makeSlice 81 (.int .i64 64) (.int .i64 64)).run Try.prog w = .ok (.slice (some ⟨w.heap.size, 0, none⟩) 64 64) (w.alloc (.cells (madeCells #[.int .u8 0] 64) 5)) := by
        intro w
        have h := run_make (P := Try.prog) w 81 5 i0 (.int .u8 0) Try.underlying81 hi hz0 .i64 .i64 64 64 (by omega) (by omega) (by rw [hz2]; omega) (by omega)
        simpa [hz1, Value.cells] using h
      have hcv : ∀ v : World, (convert 81 9 (.slice (some ⟨v.heap.size, 0, none⟩) 64 64)).run Try.prog (v.alloc (.cells (madeCells #[.int .u8 0] 64) 5)) = .ok (.string (bs B64)) (v.alloc (.cells (madeCells #[.int .u8 0] 64) 5)) := by
        intro v
        refine run_str_new (P := Try.prog) v _ 5 81 9 (bs B64) 64 64 Try.underlying81 Try.underlying5 Try.underlying9 (by rw [bs_size]; rfl) ?_
        intro j hj
        have hj' : j < 64 := by rw [bs_size] at hj; exact hj
        rw [bs_get, made_b64 64 j hj']
        rw [b64_get]; rfl
      have hcv0 := hcv (w.alloc (.cells #[.slice none 0 0, .slice none 0 0, .int .i64 0, .int .i64 0, .bool false] 38))
      rw [show (w.alloc (.cells #[.slice none 0 0, .slice none 0 0, .int .i64 0, .int .i64 0, .bool false] 38)).heap.size = w.heap.size + 1 by simp] at hcv0
      clear hi hz0 hz1 hz2 hcv
      go_enter Try.func47, Try.ntmps47
      go_wp2_with fail
      have hb1 := (hb0.alloc (by simp) (.cells (madeCells #[.int .u8 0] 64) 5)).alloc (by simp; omega) (.cells #[.string (bs B64)] 9)
      have hc1 : (((w.alloc (.cells #[.slice none 0 0, .slice none 0 0, .int .i64 0, .int .i64 0, .bool false] 38)).alloc (.cells (madeCells #[.int .u8 0] 64) 5)).alloc (.cells #[.string (bs B64)] 9)).cell? ⟨w.heap.size + 1 + 1, 0, none⟩ = some (.string (bs B64)) := by
        have h := (Bx.new ((w.alloc (.cells #[.slice none 0 0, .slice none 0 0, .int .i64 0, .int .i64 0, .bool false] 38)).alloc (.cells (madeCells #[.int .u8 0] 64) 5)) #[.string (bs B64)] 9).cell 0
        simpa using h
      have hR1 := (hR.alloc (.cells (madeCells #[.int .u8 0] 64) 5)).alloc (.cells #[.string (bs B64)] 9)
      refine (Repeat_any (w.heap.size + 1 + 1) 0 1 B64 m (by omega) hm2 _ hc1).mono ?_
      rintro e w2 ⟨v, rfl, hown, hb⟩
      obtain ⟨a, c, rfl⟩ := own_slice hown
      have hR2 := hR1.call hb
      have hb2 := btrans hb1 hb1.size hb
      have hz2 : w.heap.size + 3 ≤ w2.heap.size := by have := hb.size; simp at this; omega
      clear hc1 hR1 r0 r1 r2 r3 r4 hcv0 hmk
      have r0 : w2.cell? ⟨w.heap.size, 0, none⟩ = some (.slice none 0 0) := hR2.cell 0
      have r1 : w2.cell? ⟨w.heap.size, 1, none⟩ = some (.slice none 0 0) := hR2.cell 1
      have r2 : w2.cell? ⟨w.heap.size, 2, none⟩ = some (.int .i64 0) := hR2.cell 2
      have r3 : w2.cell? ⟨w.heap.size, 3, none⟩ = some (.int .i64 0) := hR2.cell 3
      have r4 : w2.cell? ⟨w.heap.size, 4, none⟩ = some (.bool false) := hR2.cell 4
      have g0 := hR2.free 0
      have g1 := hR2.free 1
      have g2 := hR2.free 2
      have g3 := hR2.free 3
      have g4 := hR2.free 4
      have kk := hR2.sets (.slice a m c) (.slice none 0 0) (.int .i64 0) (.int .i64 0) (.bool false)
      have k0 := kk.cell 0
      have k1 := kk.cell 1
      have k2 := kk.cell 2
      have k3 := kk.cell 3
      have k4 := kk.cell 4
      simp only [List.getElem?_toArray, List.getElem?_cons_zero, List.getElem?_cons_succ] at k0 k1 k2 k3 k4
      have hO : Owned (w.heap.size + 3) ⟨List.replicate m B64, [], 0, 0, false⟩ w2 (.slice a m c) (.slice none 0 0) := by
        refine ⟨w2.heap.size, hz2, fun g hg => (hown.lt g hg).2, ?_, World.ownsRow_nil _ _ _ _, Nat.le_refl _⟩
        rw [List.length_replicate, List.map_replicate]
        exact own_mono hown (by simp)
      have HO := Lib.hid hO; have HB := Lib.hid hb2
      clear hO hb2 hown hb hb1 hb0 hR hR2 kk
      go_wp2
      refine bodyPost_ret (v := .tuple #[.agg #[.slice a m c, .slice none 0 0, .int .i64 0, .int .i64 0, .bool false], .int .i64 0]) (by simp [results, Try.results47, go_sem, k0, k1, k2, k3, k4]) rfl ?_
      rw [HF.out]
      refine ⟨a, c, none, 0, by rw [List.length_replicate]; rfl, ?_, ?_⟩
      · rw [List.length_replicate]
        exact (HO.out.sets w.heap.size (by omega) _ _ _ _ _).mono (by omega)
      · exact below_sets HB.out w.heap.size (Nat.le_refl _) _ _ _ _ _
end Go.Proofs.Ytkpfkknldeafkaa
namespace Go.Proofs.Ytkpfkknldeafkaa
open Go.RowKit Go.Shelf
attribute [local go_sem] Oper.semAt_some

/-- the kept ones among the first k indices -/
def kf (K : Nat) (kb : List Bool) (k : Nat) : List (Fin K) := ((List.finRange K).take k).filter (fun i => kb[i.1]?.getD false)
theorem kf_zero (K : Nat) (kb : List Bool) : kf K kb 0 = [] := rfl
set_option maxRecDepth 100000 in
theorem kf_step (K : Nat) (kb : List Bool) (k : Nat) (h : k < K) : kf K kb (k + 1) = kf K kb k ++ (if kb[k]?.getD false = true then [⟨k, h⟩] else []) := by
  unfold kf
  rw [List.take_succ_eq_append_getElem (by simpa using h), List.filter_append, List.getElem_finRange]
  congr 1
  cases hk : kb[k]?.getD false with
  | true => rw [if_pos rfl, List.filter_cons_of_pos (by exact hk)]; rfl
  | false => rw [if_neg (by decide), List.filter_cons_of_neg (by show ¬ kb[k]?.getD false = true; rw [hk]; decide)]; rfl
theorem kf_yes (K : Nat) (kb : List Bool) (k : Nat) (h : k < K) (hk : k < kb.length) (ht : kb[k] = true) : kf K kb (k + 1) = kf K kb k ++ [⟨k, h⟩] := by
  rw [kf_step K kb k h, if_pos (by rw [List.getElem?_eq_getElem hk, ht]; rfl)]
theorem kf_no (K : Nat) (kb : List Bool) (k : Nat) (h : k < K) (hk : ∀ h2 : k < kb.length, kb[k] = false) : kf K kb (k + 1) = kf K kb k := by
  rw [kf_step K kb k h, if_neg, List.append_nil]
  intro h3
  rcases Nat.lt_or_ge k kb.length with h4 | h4
  · rw [List.getElem?_eq_getElem h4, hk h4] at h3; cases h3
  · rw [List.getElem?_eq_none h4] at h3; cases h3
theorem kf_length (K : Nat) (kb : List Bool) (k : Nat) : (kf K kb k).length ≤ k := by
  unfold kf
  exact Nat.le_trans (List.length_filter_le _ _) (by simp; omega)

/-- v is a slice whose elements are the truth values kb, in blocks below n₀ -/
def BoS (n₀ : Nat) (W : World) (v : Value) (kb : List Bool) : Prop :=
  ∃ a cap, v = .slice a kb.length cap ∧ kb.length ≤ cap ∧ (kb ≠ [] → ∃ b off, a = some ⟨b, off, none⟩ ∧ b < n₀ ∧ ∀ i (h : i < kb.length), W.cell? ⟨b, off + i, none⟩ = some (.bool kb[i]))
theorem BoS.below {n₀ : Nat} {W W' : World} {v : Value} {kb : List Bool} (h : BoS n₀ W v kb) (hb : Below n₀ W W') : BoS n₀ W' v kb := by
  obtain ⟨a, cap, rfl, hc, hx⟩ := h
  refine ⟨a, cap, rfl, hc, fun hne => ?_⟩
  obtain ⟨b, off, rfl, hlt, hcell⟩ := hx hne
  exact ⟨b, off, rfl, hlt, fun i hi => (hb.cell (p := ⟨b, off + i, none⟩) hlt).trans (hcell i hi)⟩
/-- what a round keeps: whatever lies below n₀, and two boxes -/
def KpC (n₀ b1 b2 : Nat) (W W' : World) : Prop := Below n₀ W W' ∧ W'.heap[b1]? = W.heap[b1]? ∧ W'.heap[b2]? = W.heap[b2]?
theorem KpC.refl (n₀ b1 b2 : Nat) (W : World) : KpC n₀ b1 b2 W W := ⟨Below.refl _ _, rfl, rfl⟩
theorem KpC.trans {n₀ b1 b2 : Nat} {A B C : World} (h : KpC n₀ b1 b2 A B) (k : KpC n₀ b1 b2 B C) : KpC n₀ b1 b2 A C := ⟨h.1.trans k.1, k.2.1.trans h.2.1, k.2.2.trans h.2.2⟩

set_option maxRecDepth 100000 in
set_option maxHeartbeats 2000000 in
theorem kept1_in (F : Fence) (n : Nat) (h72 : F.fn 107) (hro : F.round = none) (hn : 1 ≤ n) (l Bd Bk n₀ K : Nat) (hK : K ≤ 9000000000000) (kb : List Bool) (pa ka : Option Addr) (pc kc : Nat) (J Jx : List (Fin K) → World → Prop)
    (hY : ∀ (pre : List (Fin K)) (x : Fin K) (W : World), J pre W → pre.length < K → YieldAt F (n - 1) Try.prog l #[.int .i64 (x.1 : Int)] W fun e W' =>
      (e = .returned (.bool true) ∧ J (pre ++ [x]) W' ∧ KpC n₀ Bd Bk W W') ∨ (e = .returned (.bool false) ∧ Jx (pre ++ [x]) W'))
    (W : World) (hBd : W.cell? ⟨Bd, 1, none⟩ = some (.slice pa K pc)) (hBk : Bx Bk #[.slice ka kb.length kc] 50 W) (hS : BoS n₀ W (.slice ka kb.length kc) kb) (h0 : J [] W) :
    CallsIn F n Try.prog 107 #[.func (.yield l) #[] #[], .pointer (some ⟨Bd, 0, none⟩), .pointer (some ⟨Bk, 0, none⟩)] W fun e W' => (∃ v, e = .returned v) ∧
      ((∃ ys, ys = kf K kb K ∧ J ys W') ∨ (∃ pre, (∃ k, k ≤ K ∧ pre = kf K kb k) ∧ Jx pre W')) := by
  refine callsIn_of_wp Try.func107 rfl h72 ?_ hro
  simp only [Try.ntmps107, List.size_toArray, List.length_cons, List.length_nil, Nat.reduceAdd, Nat.reduceSub, Array.replicate_succ, Array.replicate_zero, List.push_toArray, List.append_toArray, List.nil_append, List.cons_append]
  gi_wp2
  gi_loopw [8] (fun i wr => ∃ k : Nat, k ≤ K ∧ i = .int .i64 k ∧ J (kf K kb k) wr ∧ KpC n₀ Bd Bk W wr) (fun i _ => K - (intOf i).toNat)
  case atStart => exact ⟨0, Nat.zero_le _, rfl, h0, KpC.refl _ _ _ _⟩
  case round =>
    obtain ⟨k, hk, rfl, hJs, hnx⟩ := hrel
    have hBk2 : Bx Bk #[.slice ka kb.length kc] 50 wr := hnx.2.2.trans hBk
    have kc0 : wr.cell? ⟨Bk, 0, none⟩ = some (.slice ka kb.length kc) := hBk2.cell 0
    by_cases hlt : k < K
    · have hlt' : (k : Int) < (K : Int) := by omega
      by_cases hkk : k < kb.length
      · have hkk' : (k : Int) < (kb.length : Int) := by omega
        obtain ⟨a2, cap2, he, hc2, hx⟩ := hS.below hnx.1
        cases he
        obtain ⟨b, off, rfl, hb, hcell⟩ := hx (by intro h; rw [h] at hkk; simp at hkk)
        have c0 := hcell k hkk
        clear hx hcell
        cases hkb : kb[k] with
        | true =>
          rw [hkb] at c0
          obtain ⟨fn, tmps, assign, body, hy, hR⟩ := hY _ ⟨k, hlt⟩ wr hJs (Nat.lt_of_le_of_lt (kf_length _ _ _) hlt)
          dsimp only at hy
          have HE := Lib.hid (kf_yes K kb k hlt hkk hkb)
          clear hkb
          gi_wp2
          refine hR.mono ?_
          rintro e W3 (⟨rfl, hJ3, hk3⟩ | ⟨rfl, hJx3⟩)
          · gi_wp2
            go_roundw
            case rel => exact ⟨k + 1, by omega, by simp, by rw [HE.out]; exact hJ3, hnx.trans hk3⟩
            case measure => simp [intOf]; omega
          · gi_wp2
            refine bodyPost_ret (results_none rfl _ _ _) rfl ?_
            exact ⟨⟨_, rfl⟩, .inr ⟨_, ⟨k + 1, by omega, HE.out.symm⟩, hJx3⟩⟩
        | false =>
          rw [hkb] at c0
          have HE := Lib.hid (kf_no K kb k hlt (fun _ => hkb))
          clear hkb
          gi_wp2
          refine ⟨fun _ h => (by cases h), ?_⟩
          gi_wp2
          go_roundw
          case rel => exact ⟨k + 1, by omega, by simp, by rw [HE.out]; exact hJs, hnx⟩
          case measure => simp [intOf]; omega
      · have HE := Lib.hid (kf_no K kb k hlt (fun h => absurd h hkk))
        have hkk' : (kb.length : Int) ≤ (k : Int) := by omega
        gi_wp2
        refine ⟨fun _ h => (by cases h), ?_⟩
        gi_wp2
        go_roundw
        case rel => exact ⟨k + 1, by omega, by simp, by rw [HE.out]; exact hJs, hnx⟩
        case measure => simp [intOf]; omega
    · obtain rfl : k = K := by omega
      clear hlt
      gi_wp2
      go_end0
      exact ⟨⟨_, rfl⟩, .inl ⟨_, rfl, hJs⟩⟩

theorem kept_stops (F : Fence) (n : Nat) (h72 : F.fn 107) (hro : F.round = none) (hn : 1 ≤ n) (Bd Bk n₀ K : Nat) (hK : K ≤ 9000000000000) (kb : List Bool) (pa ka : Option Addr) (pc kc : Nat) (w : World) (hBdl : Bd < w.heap.size) (hBkl : Bk < w.heap.size) (hn₀ : n₀ ≤ w.heap.size)
    (hBd : w.cell? ⟨Bd, 1, none⟩ = some (.slice pa K pc)) (hBk : Bx Bk #[.slice ka kb.length kc] 50 w) (hS : BoS n₀ w (.slice ka kb.length kc) kb) :
    SeqStopsK F n Try.prog 107 #[.pointer (some ⟨Bd, 0, none⟩), .pointer (some ⟨Bk, 0, none⟩)] (fun x : Fin K => #[Value.int .i64 (x.1 : Int)]) (KpC n₀ Bd Bk) (fun ys => ys = kf K kb K) (fun pre => ∃ k, k ≤ K ∧ pre = kf K kb k) K w := fun l J Jx W hW _ _ hY h0 =>
  kept1_in F n h72 hro hn l Bd Bk n₀ K hK kb pa ka pc kc J Jx hY W ((hW.cell (p := ⟨Bd, 1, none⟩) hBdl).trans hBd) ((hW.block _ hBkl).trans hBk) (hS.below (hW.mono hn₀)) h0

set_option maxRecDepth 100000 in
set_option maxHeartbeats 1000000 in
theorem kept_any (sa pa ka : Option Addr) (sc pc n kc : Nat) (d : Dk) (w : World) :
    Calls Try.prog 70 #[.agg #[.slice sa d.S.length sc, .slice pa d.P.length pc, .int .i64 d.fuse, .int .i64 d.ops, .bool d.dead], .slice ka n kc] w fun e w' => e = .returned (.func (.func 107) #[] #[.pointer (some ⟨w.heap.size, 0, none⟩), .pointer (some ⟨w.heap.size + 1, 0, none⟩)]) ∧
      (w.alloc (.cells #[.slice sa d.S.length sc, .slice pa d.P.length pc, .int .i64 d.fuse, .int .i64 d.ops, .bool d.dead] 38)).alloc (.cells #[.slice ka n kc] 50) = w' := by
  go_enter Try.func70, Try.ntmps70
  go_wp2
  go_ret
  exact ⟨rfl, rfl⟩
end Go.Proofs.Ytkpfkknldeafkaa
namespace Go.Proofs.Ytkpfkknldeafkaa
open Go.RowKit

def calmR : Result Next → Prop
  | .ok (.value _) _ => True
  | .ok .skip _ => True
  | .halt _ _ => True
  | _ => False
structure CalmOp (P : Program) (o : Oper) : Prop where
  nodefer : ∀ c, o.op ≠ .defer c
  nocall : ∀ w ρ, o.about P w ρ = none
  calm : ∀ ρ w, calmR ((execOp ρ o).run P w)
theorem calm_value {P : Program} {o : Oper} (h1 : ∀ c, o.op ≠ .defer c) (h2 : ∀ w ρ, o.about P w ρ = none) (h3 : ∀ ρ, ∃ s : Sem Value, execOp ρ o = (do pure (.value (← s)))) : CalmOp P o :=
  ⟨h1, h2, fun ρ w => by
    obtain ⟨s, hs⟩ := h3 ρ
    rw [hs, Sem.run_bind]
    cases s.run P w <;> trivial⟩
theorem calm_unit {P : Program} {o : Oper} (h1 : ∀ c, o.op ≠ .defer c) (h2 : ∀ w ρ, o.about P w ρ = none) (h3 : ∀ ρ, ∃ s : Sem Unit, execOp ρ o = (do s; pure .skip)) : CalmOp P o :=
  ⟨h1, h2, fun ρ w => by
    obtain ⟨s, hs⟩ := h3 ρ
    rw [hs, Sem.run_bind]
    cases s.run P w <;> trivial⟩
set_option maxRecDepth 100000 in
theorem calm_region {F : Fence} {n : Nat} {P : Program} {md : Region.Mode} {ops : Array Oper} {Q : Exit → Act → World → Prop} (hc : ∀ (i : Nat) (o : Oper), ops[i]? = some o → CalmOp P o) :
    ∀ (fuel : Nat) (listed : Array Bool) (a : Act) (w : World), wpAny P md ops (fun e a w => e = .normal ∧ Q .normal a w) fuel listed a w → wpAnyIn F n P md ops Q fuel listed a w
  | 0, _, _, _, h => ⟨h.1, h.2.2⟩
  | fuel + 1, listed, a, w, h => by
    refine ⟨fun hr => (h.1 hr).2, fun i hi => ?_⟩
    have h1 := h.2 i hi
    unfold wpOp at h1
    unfold wpOpIn
    cases ho : ops[i]? with
    | none =>
      rw [ho] at h1
      exact calm_region hc fuel _ _ _ h1
    | some o =>
      rw [ho] at h1
      simp only at h1 ⊢
      have hC := hc i o ho
      by_cases hw : Region.wanted o (yielded ops a.tmps) = true
      · rw [if_pos hw] at h1 ⊢
        rcases h1 with h1 | ⟨_, a', w', he, _⟩
        · refine ⟨fun f hf => (by rw [hC.nocall] at hf; cases hf), ?_⟩
          have hs : Oper.semAt F.round a.eval o = execOp a.eval o := by
            cases F.round with
            | none => simp [Oper.semAt]
            | some l => exact Oper.semAt_some l _ o hC.nodefer
          rw [hs]
          have hq := hC.calm a.eval w
          unfold Oper.wp at h1
          revert h1 hq
          cases (execOp a.eval o).run P w with
          | halt s w' =>
            intro h1 _
            cases s <;> first | exact h1.elim | cases h1.1
          | ok x w' =>
            cases x with
            | value v => intro h1 _; exact calm_region hc fuel _ _ _ h1
            | skip => intro h1 _; exact calm_region hc fuel _ _ _ h1
            | _ => intro _ hq; exact hq.elim
        · cases he
      · rw [if_neg hw] at h1 ⊢
        exact ⟨fun f hf => (by rw [hC.nocall] at hf; cases hf), calm_region hc fuel _ _ _ h1⟩
end Go.Proofs.Ytkpfkknldeafkaa
