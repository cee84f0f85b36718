/- The plain functions of the checksum layer (hash, checksum, little-endian bytes) and their laws. No conditions. -/
import Derived.Test.YtkpfkknldeafkaaBase
import Derived.Laws.Bits64
namespace Go.Proofs.Ytkpfkknldeafkaa
open Go.RowKit

/-! ### the hash -/
def extS (h : Nat) (c : UInt8) : Nat := ((h ^^^ c.toNat) * 1099511628211) % 18446744073709551616
def ext (h : Nat) (l : List UInt8) : Nat := l.foldl extS h
def fnv (l : List UInt8) : Nat := ext 14695981039346656037 l

theorem extS_lt (h : Nat) (c : UInt8) : extS h c < 18446744073709551616 := by unfold extS; omega
theorem ext_nil (h : Nat) : ext h [] = h := rfl
theorem ext_cons (h : Nat) (c : UInt8) (l : List UInt8) : ext h (c :: l) = ext (extS h c) l := by simp [ext]
theorem ext_append (h : Nat) (a b : List UInt8) : ext h (a ++ b) = ext (ext h a) b := by unfold ext; rw [List.foldl_append]
theorem ext_snoc (h : Nat) (a : List UInt8) (c : UInt8) : ext h (a ++ [c]) = extS (ext h a) c := by unfold ext; rw [List.foldl_append, List.foldl_cons, List.foldl_nil]
theorem ext_lt {h : Nat} (hh : h < 18446744073709551616) (l : List UInt8) : ext h l < 18446744073709551616 := by
  induction l generalizing h with
  | nil => exact hh
  | cons c l ih => rw [ext_cons]; exact ih (extS_lt h c)
theorem fnv_lt (l : List UInt8) : fnv l < 18446744073709551616 := by unfold fnv; exact ext_lt (by decide) l
attribute [irreducible] extS

theorem xor_byte_lt {h : Nat} (hh : h < 18446744073709551616) (c : UInt8) : h ^^^ c.toNat < 18446744073709551616 := by
  have hc := c.toNat_lt
  have := Nat.xor_lt_two_pow (x := h) (y := c.toNat) (n := 64) (by omega) (by omega)
  omega
set_option maxRecDepth 100000 in
theorem mul_prime_inj {a b : Nat} (ha : a < 18446744073709551616) (hb : b < 18446744073709551616)
    (h : a * 1099511628211 % 18446744073709551616 = b * 1099511628211 % 18446744073709551616) : a = b := by
  have k : ∀ x : Nat, x < 18446744073709551616 → (x * 1099511628211 % 18446744073709551616) * 14886173955864302971 % 18446744073709551616 = x := by
    intro x hx
    rw [Nat.mod_mul_mod, Nat.mul_assoc, Nat.mul_mod, show (1099511628211 * 14886173955864302971) % 18446744073709551616 = 1 from by decide +kernel, Nat.mul_one, Nat.mod_mod]
    exact Nat.mod_eq_of_lt hx
  rw [← k a ha, ← k b hb, h]
theorem extS_inj {h1 h2 : Nat} {c1 c2 : UInt8} (l1 : h1 < 18446744073709551616) (l2 : h2 < 18446744073709551616) (h : extS h1 c1 = extS h2 c2) : h1 ^^^ c1.toNat = h2 ^^^ c2.toNat := by
  unfold extS at h; exact mul_prime_inj (xor_byte_lt l1 c1) (xor_byte_lt l2 c2) h
theorem xor_cancel_right {a b c : Nat} (h : a ^^^ c = b ^^^ c) : a = b := by
  have : (a ^^^ c) ^^^ c = (b ^^^ c) ^^^ c := by rw [h]
  simpa [Nat.xor_assoc, Nat.xor_self] using this
theorem xor_cancel_left {a b c : Nat} (h : c ^^^ a = c ^^^ b) : a = b := by
  rw [Nat.xor_comm c a, Nat.xor_comm c b] at h; exact xor_cancel_right h
theorem ext_inj (l : List UInt8) {h1 h2 : Nat} (l1 : h1 < 18446744073709551616) (l2 : h2 < 18446744073709551616) (h : ext h1 l = ext h2 l) : h1 = h2 := by
  induction l generalizing h1 h2 with
  | nil => exact h
  | cons c l ih => rw [ext_cons, ext_cons] at h; exact xor_cancel_right (extS_inj l1 l2 (ih (extS_lt _ _) (extS_lt _ _) h))
set_option maxRecDepth 100000 in
theorem fnv_differs (p s : List UInt8) {c1 c2 : UInt8} (hc : c1 ≠ c2) : fnv (p ++ c1 :: s) ≠ fnv (p ++ c2 :: s) := by
  intro h
  unfold fnv at h
  rw [ext_append, ext_append, ext_cons, ext_cons] at h
  have h1 := ext_inj s (extS_lt _ _) (extS_lt _ _) h
  have l := ext_lt (h := 14695981039346656037) (by omega) p
  have h2 := extS_inj l l h1; exact hc (UInt8.toNat_inj.1 (xor_cancel_left h2))

/-! ### the checksum -/
def crc1 (c : Nat) : Nat := if c % 2 = 1 then (c / 2) ^^^ 2197175160 else c / 2
def crcN : Nat → Nat → Nat
  | 0, c => c
  | n + 1, c => crcN n (crc1 c)
def crcS (c : Nat) (b : UInt8) : Nat := crcN 8 (c ^^^ b.toNat)
def crcF (c : Nat) (l : List UInt8) : Nat := l.foldl crcS c
def upd (sum : Nat) (l : List UInt8) : Nat := crcF (sum ^^^ 4294967295) l ^^^ 4294967295
def crc (l : List UInt8) : Nat := upd 0 l

theorem crcN_succ (n c : Nat) : crcN (n + 1) c = crc1 (crcN n c) := by
  induction n generalizing c with
  | zero => rfl
  | succ n ih => exact ih (crc1 c)
theorem xor32 {a b : Nat} (ha : a < 4294967296) (hb : b < 4294967296) : a ^^^ b < 4294967296 := by
  have := Nat.xor_lt_two_pow (x := a) (y := b) (n := 32) (by omega) (by omega); omega
theorem crc1_lt {c : Nat} (h : c < 4294967296) : crc1 c < 4294967296 := by
  unfold crc1; split
  · exact xor32 (by omega) (by omega)
  · omega
theorem crcN_lt (n : Nat) {c : Nat} (h : c < 4294967296) : crcN n c < 4294967296 := by
  induction n generalizing c with
  | zero => exact h
  | succ n ih => exact ih (crc1_lt h)
theorem byte32 (b : UInt8) : b.toNat < 4294967296 := by have := b.toNat_lt; omega
theorem crcS_lt {c : Nat} (h : c < 4294967296) (b : UInt8) : crcS c b < 4294967296 := crcN_lt 8 (xor32 h (byte32 b))
theorem crcF_lt {c : Nat} (h : c < 4294967296) (l : List UInt8) : crcF c l < 4294967296 := by
  induction l generalizing c with
  | nil => exact h
  | cons b l ih => exact ih (crcS_lt h b)
theorem crcF_snoc (c : Nat) (l : List UInt8) (b : UInt8) : crcF c (l ++ [b]) = crcS (crcF c l) b := by unfold crcF; rw [List.foldl_append]; rfl
theorem upd_lt {c : Nat} (h : c < 4294967296) (l : List UInt8) : upd c l < 4294967296 := xor32 (crcF_lt (xor32 h (by omega)) l) (by omega)
theorem crc_lt (l : List UInt8) : crc l < 4294967296 := upd_lt (by omega) l
theorem ones2 (a : Nat) : a ^^^ 4294967295 ^^^ 4294967295 = a := by rw [Nat.xor_assoc, Nat.xor_self, Nat.xor_zero]
theorem upd_nil (c : Nat) : upd c [] = c := ones2 c
theorem upd_append (c : Nat) (a b : List UInt8) : upd c (a ++ b) = upd (upd c a) b := by
  unfold upd; rw [ones2]; unfold crcF; rw [List.foldl_append]

theorem crc1_top {c : Nat} (h : c < 4294967296) : (crc1 c).testBit 31 = decide (c % 2 = 1) := by
  unfold crc1
  have e : (c / 2).testBit 31 = false := Nat.testBit_lt_two_pow (by omega)
  split
  · rw [Nat.testBit_xor, e]; simp [*]; decide +kernel
  · simp [*]
set_option maxRecDepth 100000 in
theorem crc1_inj {a b : Nat} (ha : a < 4294967296) (hb : b < 4294967296) (h : crc1 a = crc1 b) : a = b := by
  have t := congrArg (fun x => x.testBit 31) h
  simp only [crc1_top ha, crc1_top hb] at t
  unfold crc1 at h
  by_cases h1 : a % 2 = 1
  · have h2 : b % 2 = 1 := by simpa [h1] using t
    rw [if_pos h1, if_pos h2] at h
    have := xor_cancel_right h
    omega
  · have h2 : ¬ b % 2 = 1 := by simpa [h1] using t
    rw [if_neg h1, if_neg h2] at h
    omega
theorem crcN_inj (n : Nat) {a b : Nat} (ha : a < 4294967296) (hb : b < 4294967296) (h : crcN n a = crcN n b) : a = b := by
  induction n generalizing a b with
  | zero => exact h
  | succ n ih => exact crc1_inj ha hb (ih (crc1_lt ha) (crc1_lt hb) h)
theorem crcS_inj {a b : Nat} {x y : UInt8} (ha : a < 4294967296) (hb : b < 4294967296) (h : crcS a x = crcS b y) : a ^^^ x.toNat = b ^^^ y.toNat :=
  crcN_inj 8 (xor32 ha (byte32 x)) (xor32 hb (byte32 y)) h
theorem crcF_inj (l : List UInt8) {a b : Nat} (ha : a < 4294967296) (hb : b < 4294967296) (h : crcF a l = crcF b l) : a = b := by
  induction l generalizing a b with
  | nil => exact h
  | cons c l ih => exact xor_cancel_right (crcS_inj ha hb (ih (crcS_lt ha c) (crcS_lt hb c) h))
set_option maxRecDepth 100000 in
theorem crc_differs (p s : List UInt8) {c1 c2 : UInt8} (hc : c1 ≠ c2) : crc (p ++ c1 :: s) ≠ crc (p ++ c2 :: s) := by
  intro h
  have h0 := xor_cancel_right h
  have e : ∀ c : UInt8, crcF (0 ^^^ 4294967295) (p ++ c :: s) = crcF (crcS (crcF (0 ^^^ 4294967295) p) c) s := by
    intro c; unfold crcF; rw [List.foldl_append]; rfl
  rw [e, e] at h0
  have l := crcF_lt (c := 0 ^^^ 4294967295) (xor32 (by omega) (by omega)) p
  have h1 := crcF_inj s (crcS_lt l _) (crcS_lt l _) h0
  exact hc (UInt8.toNat_inj.1 (xor_cancel_left (crcS_inj l l h1)))

/-! ### bytes, the least significant one first -/
def lit : Nat → Nat → List UInt8
  | _, 0 => []
  | u, n + 1 => UInt8.ofNat u :: lit (u / 256) n
theorem lit_length (u n : Nat) : (lit u n).length = n := by
  induction n generalizing u with
  | zero => rfl
  | succ n ih => simp [lit, ih]
set_option maxRecDepth 100000 in
theorem lit_get (u n j : Nat) (h : j < (lit u n).length) : (lit u n)[j] = UInt8.ofNat (u / 256 ^ j) := by
  induction n generalizing u j with
  | zero => simp [lit] at h
  | succ n ih =>
    cases j with
    | zero => simp [lit]
    | succ j =>
      simp only [lit, List.getElem_cons_succ]
      rw [ih (u / 256) j (by simpa [lit] using h), Nat.div_div_eq_div_mul, Nat.pow_succ, Nat.mul_comm 256]
set_option maxRecDepth 100000 in
theorem lit_snoc (u n : Nat) : lit u (n + 1) = lit u n ++ [UInt8.ofNat (u / 256 ^ n)] := by
  induction n generalizing u with
  | zero => simp [lit]
  | succ n ih =>
    rw [show lit u (n + 1 + 1) = UInt8.ofNat u :: lit (u / 256) (n + 1) from rfl, ih (u / 256)]
    simp only [lit, List.cons_append]
    rw [Nat.div_div_eq_div_mul, Nat.pow_succ, Nat.mul_comm 256]
set_option maxRecDepth 100000 in
theorem lit_inj (n : Nat) {u v : Nat} (hu : u < 256 ^ n) (hv : v < 256 ^ n) (h : lit u n = lit v n) : u = v := by
  induction n generalizing u v with
  | zero => simp at hu hv; omega
  | succ n ih =>
    simp only [lit, List.cons.injEq] at h
    have h0 := congrArg UInt8.toNat h.1
    simp only [UInt8.toNat_ofNat'] at h0
    rw [Nat.pow_succ] at hu hv
    have h1 := ih (u := u / 256) (v := v / 256) (by omega) (by omega) h.2
    omega

/-! ### sealed strings -/
def seal' (l : List UInt8) : List UInt8 := l ++ lit (crc l) 4
theorem seal'_length (l : List UInt8) : (seal' l).length = l.length + 4 := by simp [seal', lit_length]
theorem lit_crc_inj {a b : List UInt8} (h : lit (crc a) 4 = lit (crc b) 4) : crc a = crc b :=
  lit_inj 4 (by have := crc_lt a; omega) (by have := crc_lt b; omega) h
set_option maxRecDepth 100000 in
/-- a sealed string with one byte changed is not sealed -/
theorem seal'_changed (l : List UInt8) (i : Nat) (hi : i < (seal' l).length) (c : UInt8) (hc : c ≠ (seal' l)[i]) :
    seal' (((seal' l).set i c).take l.length) ≠ (seal' l).set i c := by
  intro h
  by_cases hl : i < l.length
  · -- a byte of the text was changed
    have e1 : ((seal' l).set i c) = (l.set i c) ++ lit (crc l) 4 := by unfold seal'; rw [List.set_append_left _ _ hl]
    rw [e1] at h
    have e2 : ((l.set i c) ++ lit (crc l) 4).take l.length = l.set i c := by
      rw [List.take_append_of_le_length (by simp), List.take_of_length_le (by simp)]
    rw [e2] at h
    unfold seal' at h
    have h2 := lit_crc_inj (List.append_cancel_left h)
    have e3 : l.set i c = l.take i ++ c :: l.drop (i + 1) := List.set_eq_take_append_cons_drop.trans (by rw [if_pos hl])
    have e4 : l = l.take i ++ l[i] :: l.drop (i + 1) := by
      conv => lhs; rw [← List.take_append_drop i l, List.drop_eq_getElem_cons hl]
    have hc' : c ≠ l[i] := by
      intro he; apply hc; rw [he]; simp only [seal', List.getElem_append_left hl]
    rw [e3] at h2
    have h3 : crc (l.take i ++ c :: l.drop (i + 1)) = crc (l.take i ++ l[i] :: l.drop (i + 1)) := by rw [h2]; exact congrArg crc e4
    exact crc_differs _ _ hc' h3
  · -- a byte of the checksum was changed
    have e1 : ((seal' l).set i c).take l.length = l := by
      rw [List.take_set_of_le (by omega)]
      simp [seal']
    rw [e1] at h
    have h2 := congrArg (fun x => x[i]?) h
    simp only [List.getElem?_set_self hi, List.getElem?_eq_getElem hi] at h2
    exact hc (by simpa using h2.symm)
end Go.Proofs.Ytkpfkknldeafkaa
