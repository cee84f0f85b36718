/- Layer 2 (wire): varints as plain functions, and that they are restored. No conditions. -/
import Derived.Test.YtmffdoblpkjmjaaDoorBase
namespace Go.Proofs.YtmffdoblpkjmjaaDoor
open Go.RowKit

/-- the varint of u, with at most k continued bytes -/
def uintF : Nat → Nat → List UInt8
  | 0, u => [UInt8.ofNat u]
  | k + 1, u => if u < 128 then [UInt8.ofNat u] else UInt8.ofNat (u % 128 + 128) :: uintF k (u / 128)
def uintS (u : Nat) : List UInt8 := uintF 9 u
theorem uintF_len (k u : Nat) : 1 ≤ (uintF k u).length ∧ (uintF k u).length ≤ k + 1 := by
  induction k generalizing u with
  | zero => simp [uintF]
  | succ k ih => unfold uintF; split
                 · simp
                 · have := ih (u / 128); simp; omega
set_option maxRecDepth 100000 in
theorem uintF_small (k m u : Nat) (hk : m ≤ k) (h : u < 128 ^ (m + 1)) : (uintF k u).length ≤ m + 1 := by
  induction k generalizing u m with
  | zero => have := (uintF_len 0 u).2; omega
  | succ k ih =>
    unfold uintF; split
    · simp
    · rename_i h128
      cases m with
      | zero => simp at h; omega
      | succ m =>
        have h2 : u / 128 < 128 ^ (m + 1) := by
          rw [Nat.pow_succ] at h
          exact Nat.div_lt_of_lt_mul (by rw [Nat.mul_comm]; exact h)
        have := ih m (u / 128) (by omega) h2
        simp; omega

/-- a varint taken off the bytes r, behind i bytes that gave u: the number, the count of bytes, the error -/
def tkF : Nat → List UInt8 → Nat → Nat → Nat × Nat × Int
  | 0, _, _, _ => (0, 0, 5)
  | _ + 1, [], _, _ => (0, 0, 6)
  | k + 1, c :: r, i, u =>
    if (i = 9 ∧ 1 < c.toNat) ∨ (c.toNat = 0 ∧ 0 < i) then (0, 0, 5)
    else if c.toNat < 128 then (u + c.toNat % 128 * 128 ^ i, i + 1, 0) else tkF k r (i + 1) (u + c.toNat % 128 * 128 ^ i)
def takeS (s : List UInt8) (at_ : Int) : Nat × Int × Int :=
  if 0 ≤ at_ ∧ at_ ≤ (s.length : Int) then
    (if (tkF 10 (s.drop at_.toNat) 0 0).2.2 = 0 then ((tkF 10 (s.drop at_.toNat) 0 0).1, at_ + ((tkF 10 (s.drop at_.toNat) 0 0).2.1 : Int), 0) else (0, 0, (tkF 10 (s.drop at_.toNat) 0 0).2.2))
  else (0, 0, 1)
set_option maxRecDepth 100000 in
theorem tkF_err (k : Nat) (r : List UInt8) (i u : Nat) : (tkF k r i u).2.2 = 0 ∨ ((tkF k r i u).1 = 0 ∧ (tkF k r i u).2.1 = 0 ∧ ((tkF k r i u).2.2 = 5 ∨ (tkF k r i u).2.2 = 6)) := by
  induction k generalizing r i u with
  | zero => right; simp [tkF]
  | succ k ih =>
    cases r with
    | nil => right; simp [tkF]
    | cons c r =>
      unfold tkF
      split
      · right; simp
      · split
        · left; rfl
        · exact ih _ _ _
set_option maxRecDepth 100000 in
theorem tkF_app (k : Nat) (u : Nat) (rest : List UInt8) : ∀ (i v : Nat), i + k = 9 → u < 128 ^ k * 2 → (0 < i → 0 < u) → tkF (k + 1) (uintF k u ++ rest) i v = (v + u * 128 ^ i, i + (uintF k u).length, 0) := by
  induction k generalizing u with
  | zero =>
    intro i v hi hu h0
    obtain rfl : i = 9 := by omega
    have hu2 : u < 2 := by simpa using hu
    have hc : (UInt8.ofNat u).toNat = u := by rw [UInt8.toNat_ofNat']; omega
    simp only [uintF, List.cons_append, List.nil_append, tkF, hc]
    have h1 := h0 (by omega)
    rw [if_neg (by omega), if_pos (by omega)]
    rw [Nat.mod_eq_of_lt (by omega)]; rfl
  | succ k ih =>
    intro i v hi hu h0
    unfold uintF
    split
    · rename_i h128
      have hc : (UInt8.ofNat u).toNat = u := by rw [UInt8.toNat_ofNat']; omega
      simp only [List.cons_append, List.nil_append, tkF, hc]
      rw [if_neg (by omega), if_pos h128, Nat.mod_eq_of_lt h128]; rfl
    · rename_i h128
      have hc : (UInt8.ofNat (u % 128 + 128)).toNat = u % 128 + 128 := by rw [UInt8.toNat_ofNat']; omega
      rw [List.cons_append]
      unfold tkF
      rw [hc, if_neg (by omega), if_neg (by omega)]
      have hq : u / 128 < 128 ^ k * 2 := by
        refine Nat.div_lt_of_lt_mul ?_
        rw [Nat.pow_succ] at hu
        have : 128 * (128 ^ k * 2) = 128 ^ k * 128 * 2 := by rw [Nat.mul_comm (128 ^ k) 128, Nat.mul_assoc]
        omega
      rw [ih (u / 128) (i + 1) _ (by omega) hq (fun _ => by omega)]
      have e1 : (u % 128 + 128) % 128 = u % 128 := by omega
      rw [e1, Nat.pow_succ, List.length_cons]
      have e2 : v + u % 128 * 128 ^ i + u / 128 * (128 ^ i * 128) = v + u * 128 ^ i := by
        have h1 : u * 128 ^ i = (u % 128 + 128 * (u / 128)) * 128 ^ i := by rw [Nat.mod_add_div]
        rw [h1, Nat.add_mul, Nat.add_assoc]
        congr 2
        rw [Nat.mul_comm (128 ^ i) 128, ← Nat.mul_assoc, Nat.mul_comm (u / 128) 128]
      rw [e2]
      simp only [Prod.mk.injEq, true_and, and_true]; omega
set_option maxRecDepth 100000 in
/-- what was encoded is taken -/
theorem take_uint (u : Nat) (hu : u < 18446744073709551616) (pre rest : List UInt8) : takeS (pre ++ (uintS u ++ rest)) (pre.length : Int) = (u, ((pre.length + (uintS u).length : Nat) : Int), 0) := by
  unfold takeS
  have e : (pre ++ (uintS u ++ rest)).drop ((pre.length : Int)).toNat = uintS u ++ rest := by rw [Int.toNat_natCast, List.drop_left']; rfl
  rw [if_pos (by simp; omega), e]
  unfold uintS
  rw [tkF_app 9 u rest 0 0 rfl (by have : (128 : Nat) ^ 9 * 2 = 18446744073709551616 := by decide
                                   omega) (by omega)]
  simp
set_option maxRecDepth 100000 in
/-- what is taken was encoded -/
theorem tkF_inv (k : Nat) : ∀ (r : List UInt8) (i v : Nat), i + k = 9 → (tkF (k + 1) r i v).2.2 = 0 → ∃ u, u < 128 ^ k * 2 ∧ (0 < i → 0 < u) ∧ (tkF (k + 1) r i v).1 = v + u * 128 ^ i ∧ (tkF (k + 1) r i v).2.1 = i + (uintF k u).length ∧ ∃ rest, r = uintF k u ++ rest := by
  induction k with
  | zero =>
    intro r i v hi h
    obtain rfl : i = 9 := by omega
    cases r with
    | nil => simp [tkF] at h
    | cons c r =>
      have hlt := c.toNat_lt
      unfold tkF at h ⊢
      by_cases h1 : (9 = 9 ∧ 1 < c.toNat) ∨ (c.toNat = 0 ∧ 0 < 9)
      · rw [if_pos h1] at h; simp at h
      · rw [if_neg h1] at h ⊢
        rw [if_pos (by omega)]
        refine ⟨c.toNat, by omega, fun _ => by omega, ?_, ?_, r, ?_⟩
        · simp only; rw [Nat.mod_eq_of_lt (by omega)]
        · simp [uintF]
        · simp [uintF]
  | succ k ih =>
    intro r i v hi h
    cases r with
    | nil => simp [tkF] at h
    | cons c r =>
      have hlt := c.toNat_lt
      unfold tkF at h ⊢
      by_cases h1 : (i = 9 ∧ 1 < c.toNat) ∨ (c.toNat = 0 ∧ 0 < i)
      · rw [if_pos h1] at h; simp at h
      · rw [if_neg h1] at h ⊢
        by_cases h2 : c.toNat < 128
        · rw [if_pos h2]
          refine ⟨c.toNat, ?_, fun _ => by omega, ?_, ?_, r, ?_⟩
          · have : 0 < 128 ^ k := Nat.pow_pos (by decide)
            rw [Nat.pow_succ]; omega
          · simp only; rw [Nat.mod_eq_of_lt h2]
          · unfold uintF; rw [if_pos h2]; rfl
          · unfold uintF; rw [if_pos h2]; simp
        · rw [if_neg h2] at h ⊢
          obtain ⟨u, q1, q2, q3, q4, rest, q5⟩ := ih r (i + 1) _ (by omega) h
          have q2' := q2 (by omega)
          refine ⟨u * 128 + c.toNat % 128, ?_, fun _ => by omega, ?_, ?_, rest, ?_⟩
          · rw [Nat.pow_succ]
            have : u * 128 + c.toNat % 128 < (u + 1) * 128 := by omega
            have : (u + 1) * 128 ≤ (128 ^ k * 2) * 128 := Nat.mul_le_mul_right _ q1
            have e : 128 ^ k * 128 * 2 = 128 ^ k * 2 * 128 := by rw [Nat.mul_assoc, Nat.mul_assoc]
            omega
          · rw [q3, Nat.pow_succ, Nat.add_mul, ← Nat.add_assoc, Nat.add_assoc, Nat.add_assoc, Nat.add_comm (c.toNat % 128 * 128 ^ i)]
            congr 2
            rw [Nat.mul_assoc, Nat.mul_comm 128]
          · rw [q4]
            have : ¬ u * 128 + c.toNat % 128 < 128 := by omega
            conv => rhs; unfold uintF
            rw [if_neg this, show (u * 128 + c.toNat % 128) / 128 = u by omega, List.length_cons]; omega
          · have : ¬ u * 128 + c.toNat % 128 < 128 := by omega
            unfold uintF
            rw [if_neg this, show (u * 128 + c.toNat % 128) / 128 = u by omega, show (u * 128 + c.toNat % 128) % 128 + 128 = c.toNat by omega, UInt8.ofNat_toNat, List.cons_append, ← q5]
set_option maxRecDepth 100000 in
theorem take_inv {s : List UInt8} {at_ : Nat} (h : (takeS s at_).2.2 = 0) : ∃ u rest, u < 18446744073709551616 ∧ at_ ≤ s.length ∧ takeS s at_ = (u, ((at_ + (uintS u).length : Nat) : Int), 0) ∧ s.drop at_ = uintS u ++ rest := by
  unfold takeS at h ⊢
  by_cases h1 : (0 : Int) ≤ (at_ : Int) ∧ (at_ : Int) ≤ (s.length : Int)
  · rw [if_pos h1] at h ⊢
    rw [Int.toNat_natCast] at h ⊢
    have h2 : (tkF 10 (s.drop at_) 0 0).2.2 = 0 := by
      split at h
      · assumption
      · exact h
    obtain ⟨u, q1, _, q3, q4, rest, q5⟩ := tkF_inv 9 (s.drop at_) 0 0 rfl h2
    have hb : (128 : Nat) ^ 9 * 2 = 18446744073709551616 := by decide
    refine ⟨u, rest, by omega, by omega, ?_, q5⟩
    rw [if_pos h2, q3, q4]
    simp only [Prod.mk.injEq, and_true]
    refine ⟨by simp, ?_⟩
    show _ = ((at_ + (uintF 9 u).length : Nat) : Int)
    omega
  · rw [if_neg h1] at h; simp at h
set_option maxRecDepth 100000 in
/-- a number that is taken off bytes in front of nothing -/
theorem takeS_bounds (s : List UInt8) (at_ : Int) : (takeS s at_).1 < 18446744073709551616 ∧ 0 ≤ (takeS s at_).2.1 ∧ (takeS s at_).2.1 ≤ (s.length : Int) ∧ 0 ≤ (takeS s at_).2.2 ∧ (takeS s at_).2.2 ≤ 6 ∧ ((takeS s at_).2.2 = 0 → at_ < (takeS s at_).2.1) := by
  by_cases h1 : (0 : Int) ≤ at_ ∧ at_ ≤ (s.length : Int)
  · obtain ⟨n, rfl⟩ : ∃ n : Nat, at_ = n := ⟨at_.toNat, by omega⟩
    by_cases h : (takeS s n).2.2 = 0
    · obtain ⟨u, rest, q1, q2, q3, q4⟩ := take_inv h
      rw [q3]
      have hl : (uintS u).length + rest.length = s.length - n := by rw [← List.length_append, ← q4, List.length_drop]
      have := (uintF_len 9 u).1
      have : 1 ≤ (uintS u).length := this
      refine ⟨q1, ?_, ?_, by simp, by simp, fun _ => ?_⟩ <;> simp only <;> omega
    · unfold takeS at h ⊢
      rw [if_pos h1] at h ⊢
      by_cases h2 : (tkF 10 (s.drop (n : Int).toNat) 0 0).2.2 = 0
      · rw [if_pos h2] at h; simp at h
      · rw [if_neg h2]
        rcases tkF_err 10 (s.drop (n : Int).toNat) 0 0 with e | ⟨_, _, e | e⟩
        · exact absurd e h2
        · rw [e]; simp
        · rw [e]; simp
  · unfold takeS; rw [if_neg h1]; simp
end Go.Proofs.YtmffdoblpkjmjaaDoor
