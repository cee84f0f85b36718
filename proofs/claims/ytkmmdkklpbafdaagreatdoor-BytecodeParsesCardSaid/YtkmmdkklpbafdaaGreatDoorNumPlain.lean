/- What layer 1 (num) computes, as plain functions on integers and lists of bytes, and the laws between them. No program in sight, no conditions. -/
import Derived.Lib.ParseIntBTie
import Derived.Lib.ItoaLen
namespace Go.Proofs.YtkmmdkklpbafdaaGreatDoor

/-- a number that fits into 64 bits -/
def fits (x : Int) : Bool := decide (-9223372036854775808 ≤ x) && decide (x ≤ 9223372036854775807)
theorem fits_iff (x : Int) : fits x = true ↔ -9223372036854775808 ≤ x ∧ x ≤ 9223372036854775807 := by unfold fits; simp
theorem fits_no (x : Int) : fits x = false ↔ x < -9223372036854775808 ∨ 9223372036854775807 < x := by unfold fits; simp; omega

def addS (a b : Int) : Int × Int := if fits (a + b) = true then (a + b, 0) else (0, 3)
def subS (a b : Int) : Int × Int := if fits (a - b) = true then (a - b, 0) else (0, 3)
def negS (a : Int) : Int × Int := subS 0 a
def mulS (a b : Int) : Int × Int := if fits (a * b) = true then (a * b, 0) else (0, 3)
def divS (a b : Int) : Int × Int := if b = 0 then (0, 4) else if fits (a.fdiv b) = true then (a.fdiv b, 0) else (0, 3)
def modS (a b : Int) : Int × Int := if b = 0 then (0, 4) else (a.fmod b, 0)

set_option maxRecDepth 100000 in
theorem fdiv_eq (a b : Int) (hb : b ≠ 0) : a.fdiv b = a.tdiv b - (if a.tmod b ≠ 0 ∧ ¬ (a < 0 ↔ b < 0) then 1 else 0) := by
  rw [Int.fdiv_eq_tdiv]
  by_cases hd : b ∣ a
  · have h0 : a.tmod b = 0 := Int.tmod_eq_zero_of_dvd hd
    rw [if_pos hd, if_neg (fun h => h.1 h0)]
  · have h0 : a.tmod b ≠ 0 := fun h => hd (Int.dvd_of_tmod_eq_zero h)
    have ha : a ≠ 0 := fun h => hd (by rw [h]; exact Int.dvd_zero b)
    rw [if_neg hd]
    by_cases h2 : 0 < b
    · have hs : b.sign = 1 := Int.sign_eq_one_of_pos h2
      have hb0 : 0 ≤ b := by omega
      by_cases h1 : 0 ≤ a
      · rw [if_pos h1, if_pos hb0, if_neg (fun h => h.2 (by omega))]
      · rw [if_neg h1, if_pos hb0, hs, if_pos (And.intro h0 (by omega))]
    · have hs : b.sign = -1 := Int.sign_eq_neg_one_of_neg (by omega)
      have hb0 : ¬ 0 ≤ b := by omega
      by_cases h1 : 0 ≤ a
      · rw [if_pos h1, if_neg hb0, if_pos (And.intro h0 (by omega))]
      · rw [if_neg h1, if_neg hb0, hs, if_neg (fun h => h.2 (by omega))]; rfl
set_option maxRecDepth 100000 in
theorem fmod_eq (a b : Int) (hb : b ≠ 0) : a.fmod b = a.tmod b + (if a.tmod b ≠ 0 ∧ ¬ (a < 0 ↔ b < 0) then b else 0) := by
  have h1 := Int.fmod_def a b
  have h2 := Int.tmod_def a b
  rw [fdiv_eq a b hb] at h1
  rw [Int.mul_sub] at h1
  split at h1
  · rename_i hc
    rw [if_pos hc]; omega
  · rename_i hc
    rw [if_neg hc]; omega
theorem tmod_le (a b : Int) (h : a ≤ 0) : a.tmod b ≤ 0 := by
  have := Int.tmod_nonneg b (show 0 ≤ -a by omega)
  rw [Int.neg_tmod] at this; omega
set_option maxRecDepth 100000 in
theorem tmod_sign (a b : Int) : (a.tmod b < 0) ↔ (a.tmod b ≠ 0 ∧ a < 0) := by
  rcases Int.lt_trichotomy a 0 with h | h | h
  · constructor
    · intro h2; exact ⟨by omega, h⟩
    · rintro ⟨h2, _⟩
      have := tmod_le a b (by omega)
      omega
  · subst h; simp
  · have := Int.tmod_nonneg b (show 0 ≤ a by omega)
    omega

/-- the magnitudes of a quotient and a remainder -/
theorem tdiv_abs (a b : Int) : (a.tdiv b).natAbs ≤ a.natAbs := by
  rw [Int.natAbs_tdiv]; exact Nat.div_le_self _ _
theorem mul_back (a b : Int) (hb : b ≠ 0) : (a * b).tdiv b = a := Int.mul_tdiv_cancel a hb
set_option maxRecDepth 100000 in
/-- a product that was cut to 64 bits and divides back is the product -/
theorem wrap_back (a b p k : Int) (hb : b ≠ 0) (hb1 : -9223372036854775808 ≤ b) (hb2 : b ≤ 9223372036854775807) (hp : p = a * b + k * 18446744073709551616) (h : p.tdiv b = a) : p = a * b := by
  have h1 := Int.mul_tdiv_add_tmod p b
  rw [h] at h1
  have h2 : (p.tmod b).natAbs < b.natAbs := by rw [Int.natAbs_tmod]; exact Nat.mod_lt _ (by omega)
  have h3 : p.tmod b = k * 18446744073709551616 := by rw [Int.mul_comm b a] at h1; omega
  have h4 : k = 0 := by omega
  rw [hp, h4]; omega

/-! ### numerals -/
def isDig (c : UInt8) : Bool := decide (48 ≤ c.toNat) && decide (c.toNat ≤ 57)
theorem isDig_iff (c : UInt8) : isDig c = true ↔ 48 ≤ c.toNat ∧ c.toNat ≤ 57 := by unfold isDig; simp
def val (l : List UInt8) : Nat := l.foldl (fun a c => a * 10 + (c.toNat - 48)) 0
theorem val_snoc (l : List UInt8) (c : UInt8) : val (l ++ [c]) = val l * 10 + (c.toNat - 48) := by unfold val; rw [List.foldl_append]; rfl
/-- the notation of a number that is not negative -/
def canon (l : List UInt8) : Bool := l.all isDig && (!l.isEmpty && (l.head? != some 48 || l.length == 1))
def minus (l : List UInt8) : Bool := l.head? == some 45
def body (l : List UInt8) : List UInt8 := if minus l = true then l.tail else l
def good (l : List UInt8) : Bool := canon (body l) && !(minus l && body l == [48])
def sval (l : List UInt8) : Int := if minus l = true then -(val (body l) : Int) else (val (body l) : Int)
def parseS (l : List UInt8) : Int × Int := if good l = true then (if fits (sval l) = true then (sval l, 0) else (0, 3)) else (0, 5)

set_option maxRecDepth 100000 in
theorem go_val : ∀ (l : List UInt8) (acc : Nat), l.foldl (fun a c => a * 10 + (c.toNat - 48)) acc = acc * 10 ^ l.length + val l
  | [], acc => by simp [val]
  | c :: r, acc => by
    have e : val (c :: r) = (c.toNat - 48) * 10 ^ r.length + val r := by
      show List.foldl _ (0 * 10 + (c.toNat - 48)) r = _
      rw [go_val r, Nat.zero_mul, Nat.zero_add]
    rw [List.foldl_cons, go_val r, e, List.length_cons, Nat.pow_succ, Nat.add_mul, Nat.mul_assoc, Nat.mul_comm 10, Nat.add_assoc]
theorem val_cons (c : UInt8) (r : List UInt8) : val (c :: r) = (c.toNat - 48) * 10 ^ r.length + val r := by
  show List.foldl _ (0 * 10 + (c.toNat - 48)) r = _
  rw [go_val r, Nat.zero_mul, Nat.zero_add]
theorem val_mono (l r : List UInt8) : val l ≤ val (l ++ r) := by
  unfold val
  rw [List.foldl_append, go_val r]
  have : 1 ≤ 10 ^ r.length := Nat.one_le_pow _ _ (by decide)
  exact Nat.le_trans (Nat.le_mul_of_pos_right _ this) (Nat.le_add_right _ _)

def cap64 (n : Nat) : Lib.NumEnd Nat := if n < 18446744073709551616 then .ok n else .range
theorem cap64_ok {n : Nat} (h : n < 18446744073709551616) : cap64 n = .ok n := by unfold cap64; rw [if_pos h]
theorem cap64_range {n : Nat} (h : 18446744073709551616 ≤ n) : cap64 n = .range := by unfold cap64; rw [if_neg (by omega)]
set_option maxRecDepth 100000 in
/-- what ParseUint's loop gives at digits -/
theorem parseUint10_digits : ∀ (l : List UInt8) (acc : Nat), l.all isDig = true → acc < 18446744073709551616 →
    Lib.parseUint10 acc l = cap64 (l.foldl (fun a c => a * 10 + (c.toNat - 48)) acc)
  | [], acc, _, ha => by rw [Lib.parseUint10]; exact (cap64_ok ha).symm
  | c :: r, acc, h, ha => by
    simp only [List.all_cons, Bool.and_eq_true] at h
    have hc := (isDig_iff c).1 h.1
    have hge : ∀ x : Nat, x ≤ r.foldl (fun a c => a * 10 + (c.toNat - 48)) x := by
      intro x; rw [go_val r]
      have : 1 ≤ 10 ^ r.length := Nat.one_le_pow _ _ (by decide)
      exact Nat.le_trans (Nat.le_mul_of_pos_right _ this) (Nat.le_add_right _ _)
    have h1 := hge (acc * 10 + (c.toNat - 48))
    simp only [Lib.parseUint10, List.foldl_cons]
    rw [if_pos hc]
    by_cases h2 : 1844674407370955162 ≤ acc
    · rw [if_pos h2, cap64_range (by omega)]
    · rw [if_neg h2]
      by_cases h3 : 18446744073709551616 ≤ acc * 10 + (c.toNat - 48)
      · rw [if_pos h3, cap64_range (by omega)]
      · rw [if_neg h3]
        exact parseUint10_digits r _ h.2 (by omega)

theorem canon_ne {l : List UInt8} (h : canon l = true) : l ≠ [] := by
  intro e; subst e; simp [canon] at h
theorem canon_all {l : List UInt8} (h : canon l = true) : l.all isDig = true := by
  unfold canon at h; rw [Bool.and_eq_true] at h; exact h.1
theorem parseMag_canon {l : List UInt8} (h : canon l = true) : Lib.parseMag l = cap64 (val l) := by
  unfold Lib.parseMag
  rw [if_neg (canon_ne h)]
  exact parseUint10_digits l 0 (canon_all h) (by omega)
set_option maxRecDepth 100000 in
/-- ParseInt at a good text -/
theorem parseInt_good {l : List UInt8} (h : good l = true) : Lib.parseIntB 64 l = if fits (sval l) = true then .ok (sval l) else .range := by
  rw [Lib.parseIntB_64]
  unfold good at h
  rw [Bool.and_eq_true] at h
  have hc := h.1
  cases l with
  | nil => simp [canon, body, minus] at hc
  | cons c r =>
    by_cases hm : c.toNat = 45
    · have hc45 : c = 45 := by rw [← UInt8.toNat_inj]; exact hm
      subst hc45
      have hmin : minus (45 :: r) = true := by simp [minus]
      have hb : body (45 :: r) = r := by unfold body; rw [if_pos hmin]; rfl
      rw [hb] at hc
      unfold Lib.atoiAll sval
      simp only [hmin, if_true, hb]
      rw [if_pos (Or.inr (by decide)), parseMag_canon hc]
      by_cases h1 : val r < 18446744073709551616
      · rw [cap64_ok h1]
        by_cases h2 : 9223372036854775808 < val r
        · have : fits (-(val r : Int)) = false := by rw [fits_no]; omega
          simp [this, h2]
        · have : fits (-(val r : Int)) = true := by rw [fits_iff]; omega
          simp [this, h2]
      · rw [cap64_range (by omega)]
        have : fits (-(val r : Int)) = false := by rw [fits_no]; omega
        simp [this]
    · have hmin : minus (c :: r) = false := by
        unfold minus
        simp
        intro e; rw [e] at hm; exact hm (by decide)
      have hb : body (c :: r) = c :: r := by unfold body; rw [hmin]; rfl
      rw [hb] at hc
      have hd := (isDig_iff c).1 (by have := canon_all hc; simp only [List.all_cons, Bool.and_eq_true] at this; exact this.1)
      unfold Lib.atoiAll sval
      simp only [hmin, hb]
      rw [if_neg (by omega), parseMag_canon hc]
      generalize val (c :: r) = v
      by_cases h1 : v < 18446744073709551616
      · rw [cap64_ok h1]
        by_cases h2 : 9223372036854775808 ≤ v
        · have : fits (v : Int) = false := by rw [fits_no]; omega
          simp [this, h2, hm]
        · have : fits (v : Int) = true := by rw [fits_iff]; omega
          simp [this, h2, hm]
      · rw [cap64_range (by omega)]
        have : fits (v : Int) = false := by rw [fits_no]; omega
        simp [this]

/-! ### a number's notation -/
theorem decDigits_step (u : Nat) : Lib.decDigits u = (if u < 10 then [] else Lib.decDigits (u / 10)) ++ [UInt8.ofNat (48 + u % 10)] := by
  rw [Lib.decDigits]
  by_cases h : u < 10
  · rw [dif_pos h, if_pos h, Nat.mod_eq_of_lt h]; rfl
  · rw [dif_neg h, if_neg h]
theorem dig_toNat (k : Nat) (h : k < 10) : (UInt8.ofNat (48 + k)).toNat = 48 + k := by rw [UInt8.toNat_ofNat']; omega
theorem decDigits_ne (u : Nat) : Lib.decDigits u ≠ [] := by rw [decDigits_step]; simp
set_option maxRecDepth 100000 in
theorem decDigits_all (u : Nat) : (Lib.decDigits u).all isDig = true := by
  induction u using Nat.strongRecOn with
  | _ u ih =>
    rw [decDigits_step, List.all_append]
    have hl : isDig (UInt8.ofNat (48 + u % 10)) = true := by rw [isDig_iff, dig_toNat _ (by omega)]; omega
    rw [List.all_cons, hl]
    by_cases h : u < 10
    · rw [if_pos h]; rfl
    · rw [if_neg h, ih (u / 10) (by omega)]; rfl
set_option maxRecDepth 100000 in
theorem decDigits_val (u : Nat) : val (Lib.decDigits u) = u := by
  induction u using Nat.strongRecOn with
  | _ u ih =>
    rw [decDigits_step, val_snoc, dig_toNat _ (by omega)]
    by_cases h : u < 10
    · rw [if_pos h]; simp [val]; omega
    · rw [if_neg h, ih (u / 10) (by omega)]; omega
theorem head_append {l r : List UInt8} (h : l ≠ []) : (l ++ r).head? = l.head? := by
  cases l with
  | nil => exact absurd rfl h
  | cons c t => rfl
set_option maxRecDepth 100000 in
theorem decDigits_head (u : Nat) (h : 0 < u) : (Lib.decDigits u).head? ≠ some 48 := by
  induction u using Nat.strongRecOn with
  | _ u ih =>
    rw [decDigits_step]
    by_cases h1 : u < 10
    · rw [if_pos h1]
      intro e
      have e2 : UInt8.ofNat (48 + u % 10) = 48 := Option.some.inj e
      have := congrArg UInt8.toNat e2
      rw [dig_toNat _ (by omega)] at this
      have h48 : (48 : UInt8).toNat = 48 := rfl
      omega
    · rw [if_neg h1, head_append (decDigits_ne _)]
      exact ih (u / 10) (by omega) (by omega)
set_option maxRecDepth 100000 in
theorem decDigits_canon (u : Nat) : canon (Lib.decDigits u) = true := by
  unfold canon
  rw [decDigits_all u, Bool.true_and]
  have h1 : (Lib.decDigits u).isEmpty = false := by simpa using decDigits_ne u
  rw [h1]
  rcases Nat.eq_zero_or_pos u with h | h
  · subst h; rw [Lib.decDigits_one (by decide)]; rfl
  · have := decDigits_head u h
    simp [this]
set_option maxRecDepth 100000 in
/-- a notation is the notation of its number -/
theorem canon_back : ∀ (n : Nat) (l : List UInt8), l.length = n → canon l = true → Lib.decDigits (val l) = l := by
  intro n
  induction n with
  | zero => intro l hl h; exact absurd (List.eq_nil_of_length_eq_zero hl) (canon_ne h)
  | succ n ih =>
    intro l hl h
    obtain ⟨r, c, rfl⟩ : ∃ r c, l = r ++ [c] := ⟨l.dropLast, l.getLast (canon_ne h), (List.dropLast_concat_getLast _).symm⟩
    have hall := canon_all h
    rw [List.all_append, Bool.and_eq_true] at hall
    have hc := (isDig_iff c).1 (by simpa using hall.2)
    have hcb : UInt8.ofNat (48 + (c.toNat - 48)) = c := by rw [show 48 + (c.toNat - 48) = c.toNat by omega]; simp
    rw [val_snoc]
    by_cases hr : r = []
    · subst hr
      rw [decDigits_step, if_pos (by simp [val]; omega)]
      simp only [List.nil_append]
      rw [show (val [] * 10 + (c.toNat - 48)) % 10 = c.toNat - 48 by simp [val]; omega, hcb]
    · have hcr : canon r = true := by
        unfold canon at h ⊢
        rw [hall.1, Bool.true_and]
        have e1 : r.isEmpty = false := by simpa using hr
        rw [Bool.and_eq_true, Bool.and_eq_true] at h
        have h3 := h.2.2
        rw [head_append hr] at h3
        have h4 : ((r ++ [c]).length == 1) = false := by
          rw [beq_eq_false_iff_ne]; simp; exact hr
        rw [h4, Bool.or_false] at h3
        rw [e1, h3]; rfl
      have hv : Lib.decDigits (val r) = r := ih r (by simp at hl; omega) hcr
      have hpos : 0 < val r := by
        rcases Nat.eq_zero_or_pos (val r) with h0 | h0
        · rw [h0, Lib.decDigits_one (by decide)] at hv
          exfalso
          rw [← hv] at h
          simp [canon] at h
        · exact h0
      rw [decDigits_step, if_neg (by omega), show (val r * 10 + (c.toNat - 48)) / 10 = val r by omega, show (val r * 10 + (c.toNat - 48)) % 10 = c.toNat - 48 by omega, hv, hcb]

set_option maxRecDepth 100000 in
theorem itoa_good (n : Int) : good (Lib.itoa n) = true ∧ sval (Lib.itoa n) = n := by
  unfold Lib.itoa
  by_cases h : n < 0
  · rw [if_pos h]
    have hm : minus (45 :: Lib.decDigits n.natAbs) = true := by simp [minus]
    have hb : body (45 :: Lib.decDigits n.natAbs) = Lib.decDigits n.natAbs := by unfold body; rw [if_pos hm]; rfl
    constructor
    · unfold good
      rw [hb, decDigits_canon, hm]
      have : Lib.decDigits n.natAbs ≠ [48] := by
        intro e
        have := decDigits_val n.natAbs
        rw [e] at this
        simp [val] at this
        omega
      simp [this]
    · unfold sval
      rw [if_pos hm, hb, decDigits_val]; omega
  · rw [if_neg h]
    have hm : minus (Lib.decDigits n.toNat) = false := by
      unfold minus
      rcases hd : Lib.decDigits n.toNat with _ | ⟨c, r⟩
      · exact absurd hd (decDigits_ne _)
      · have ha := decDigits_all n.toNat
        rw [hd] at ha
        simp only [List.all_cons, Bool.and_eq_true] at ha
        have := (isDig_iff c).1 ha.1
        simp
        intro e; rw [e] at this; simp at this
    have hb : body (Lib.decDigits n.toNat) = Lib.decDigits n.toNat := by unfold body; rw [hm]; rfl
    constructor
    · unfold good
      rw [hb, decDigits_canon, hm]; rfl
    · unfold sval
      rw [hm, hb, decDigits_val]; simp; omega
theorem parse_itoa (n : Int) (h : fits n = true) : parseS (Lib.itoa n) = (n, 0) := by
  unfold parseS
  rw [if_pos (itoa_good n).1, (itoa_good n).2, if_pos h]
set_option maxRecDepth 100000 in
theorem itoa_parse (l : List UInt8) (y : Int) (h : parseS l = (y, 0)) : Lib.itoa y = l := by
  unfold parseS at h
  by_cases hg : good l = true
  · rw [if_pos hg] at h
    split at h
    · simp only [Prod.mk.injEq, and_true] at h
      subst h
      unfold good at hg
      rw [Bool.and_eq_true] at hg
      have hb := canon_back _ _ rfl hg.1
      by_cases hm : minus l = true
      · have hl : l = 45 :: body l := by
          unfold body; rw [if_pos hm]
          unfold minus at hm
          cases l with
          | nil => simp at hm
          | cons c r => simp at hm; subst hm; rfl
        have hv : val (body l) ≠ 0 := by
          intro e
          rw [e, Lib.decDigits_one (by decide)] at hb
          have h2 := hg.2
          rw [hm, ← hb] at h2
          simp at h2
        unfold sval
        rw [if_pos hm]
        unfold Lib.itoa
        rw [if_pos (by omega), show (-(val (body l) : Int)).natAbs = val (body l) by omega, hb]
        exact hl.symm
      · have hl : body l = l := by unfold body; rw [if_neg hm]
        unfold sval
        rw [if_neg hm]
        unfold Lib.itoa
        rw [if_neg (by omega), Int.toNat_natCast, hb, hl]
    · simp at h
  · rw [if_neg hg] at h; simp at h

/-! ### the laws -/
theorem divides (a b : Int) : a = b * a.fdiv b + a.fmod b := by have := Int.fmod_def a b; omega
set_option maxRecDepth 100000 in
theorem fmod_range (a b : Int) (hb : b ≠ 0) : (0 < b → 0 ≤ a.fmod b ∧ a.fmod b < b) ∧ (b < 0 → a.fmod b ≤ 0 ∧ b < a.fmod b) := by
  constructor
  · intro h
    exact ⟨Int.fmod_nonneg_of_pos a h, Int.fmod_lt_of_pos a h⟩
  · intro h
    have e := fmod_eq a b hb
    have h2 : (a.tmod b).natAbs < b.natAbs := by rw [Int.natAbs_tmod]; exact Nat.mod_lt _ (by omega)
    have h3 := tmod_sign a b
    generalize a.tmod b = m at *
    split at e
    · rename_i hc; omega
    · rename_i hc; omega
end Go.Proofs.YtkmmdkklpbafdaaGreatDoor
