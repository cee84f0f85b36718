/- What the arithmetic functions of layer 1 (num) and of its reference return. No conditions but the numbers' own ranges. -/
import Derived.Test.YtkmmdkklpbafdaaGreatDoorBase
import Derived.Test.YtkmmdkklpbafdaaGreatDoorNumPlain
namespace Go.Proofs.YtkmmdkklpbafdaaGreatDoor
open Go.RowKit

theorem w64_hi (x : Int) (h1 : 9223372036854775807 < x) (h2 : x ≤ 18446744073709551614) : wrap64 x = x - 18446744073709551616 := by unfold wrap64; omega
theorem w64_lo (x : Int) (h1 : x < -9223372036854775808) (h2 : -18446744073709551616 ≤ x) : wrap64 x = x + 18446744073709551616 := by unfold wrap64; omega
theorem w64_some (x : Int) : ∃ k : Int, wrap64 x = x + k * 18446744073709551616 ∧ -9223372036854775808 ≤ wrap64 x ∧ wrap64 x ≤ 9223372036854775807 := by
  refine ⟨-((x + 9223372036854775808) / 18446744073709551616), ?_, ?_, ?_⟩ <;> unfold wrap64 <;> omega
theorem fits_mk {x : Int} (h1 : -9223372036854775808 ≤ x) (h2 : x ≤ 9223372036854775807) : fits x = true := (fits_iff x).2 ⟨h1, h2⟩
theorem add_ok {a b : Int} (h : fits (a + b) = true) : addS a b = (a + b, 0) := by unfold addS; rw [if_pos h]
theorem add_no {a b : Int} (h : fits (a + b) = false) : addS a b = (0, 3) := by unfold addS; rw [h]; rfl
theorem sub_ok {a b : Int} (h : fits (a - b) = true) : subS a b = (a - b, 0) := by unfold subS; rw [if_pos h]
theorem sub_no {a b : Int} (h : fits (a - b) = false) : subS a b = (0, 3) := by unfold subS; rw [h]; rfl
theorem mul_ok {a b : Int} (h : fits (a * b) = true) : mulS a b = (a * b, 0) := by unfold mulS; rw [if_pos h]
theorem mul_no {a b : Int} (h : fits (a * b) = false) : mulS a b = (0, 3) := by unfold mulS; rw [h]; rfl

theorem tdiv_half (a b : Int) (hb0 : b ≠ 0) (hb1 : b ≠ -1) (hb2 : b ≠ 1) : 2 * (a.tdiv b).natAbs ≤ a.natAbs := by
  rw [Int.natAbs_tdiv]
  have h2 : 2 ≤ b.natAbs := by omega
  have h3 : a.natAbs / b.natAbs ≤ a.natAbs / 2 := Nat.div_le_div_left h2 (by decide)
  show 2 * (a.natAbs / b.natAbs) ≤ a.natAbs
  omega
theorem tdiv_bd (a b : Int) (h1 : -9223372036854775808 ≤ a) (h2 : a ≤ 9223372036854775807) (hb0 : b ≠ 0) (hb1 : b ≠ -1) : -9223372036854775808 ≤ a.tdiv b ∧ a.tdiv b ≤ 9223372036854775807 := by
  by_cases hb2 : b = 1
  · subst hb2; rw [Int.tdiv_one]; exact ⟨h1, h2⟩
  · have := tdiv_half a b hb0 hb1 hb2
    omega
theorem tdiv_bd2 (a b : Int) (h1 : -9223372036854775808 ≤ a) (h2 : a ≤ 9223372036854775807) (hb0 : b ≠ 0) (hb1 : b ≠ -1) (hr : a.tmod b ≠ 0) : -9223372036854775808 ≤ a.tdiv b - 1 := by
  have hb2 : b ≠ 1 := by intro h; subst h; exact hr (Int.tmod_one a)
  have := tdiv_half a b hb0 hb1 hb2
  omega
theorem div_neg1 (a : Int) : divS a (-1) = negS a := by
  unfold divS negS subS
  rw [if_neg (by decide), Int.zero_sub, show a.fdiv (-1) = -a from by rw [fdiv_eq a (-1) (by decide)]; simp]
set_option maxRecDepth 100000 in
theorem div_keep {a b : Int} (h1 : -9223372036854775808 ≤ a) (h2 : a ≤ 9223372036854775807) (hb0 : b ≠ 0) (hb1 : b ≠ -1) (hc : a.tmod b = 0 ∨ (a < 0 ↔ b < 0)) : divS a b = (a.tdiv b, 0) := by
  have h := tdiv_bd a b h1 h2 hb0 hb1
  have e : a.fdiv b = a.tdiv b := by
    rw [fdiv_eq a b hb0, if_neg, Int.sub_zero]
    rintro ⟨h3, h4⟩
    exact hc.elim h3 h4
  unfold divS
  rw [if_neg hb0, e, if_pos (fits_mk h.1 h.2)]
theorem div_down {a b : Int} (h1 : -9223372036854775808 ≤ a) (h2 : a ≤ 9223372036854775807) (hb0 : b ≠ 0) (hb1 : b ≠ -1) (hr : a.tmod b ≠ 0) (hs : ¬ (a < 0 ↔ b < 0)) : divS a b = (a.tdiv b - 1, 0) := by
  have h := tdiv_bd a b h1 h2 hb0 hb1
  have h3 := tdiv_bd2 a b h1 h2 hb0 hb1 hr
  have e : a.fdiv b = a.tdiv b - 1 := by rw [fdiv_eq a b hb0, if_pos ⟨hr, hs⟩]
  unfold divS
  rw [if_neg hb0, e, if_pos (fits_mk h3 (by omega))]
theorem mod_neg1 (a : Int) : modS a (-1) = (0, 0) := by
  unfold modS
  rw [if_neg (by decide), show a.fmod (-1) = 0 from by rw [fmod_eq a (-1) (by decide)]; simp]
theorem mod_keep {a b : Int} (hb0 : b ≠ 0) (hc : a.tmod b = 0 ∨ (a < 0 ↔ b < 0)) : modS a b = (a.tmod b, 0) := by
  unfold modS
  rw [if_neg hb0, fmod_eq a b hb0, if_neg, Int.add_zero]
  rintro ⟨h3, h4⟩
  exact hc.elim h3 h4
theorem mod_up {a b : Int} (hb0 : b ≠ 0) (hr : a.tmod b ≠ 0) (hs : ¬ (a < 0 ↔ b < 0)) : modS a b = (a.tmod b + b, 0) := by
  unfold modS
  rw [if_neg hb0, fmod_eq a b hb0, if_pos ⟨hr, hs⟩]
theorem tmod_bd (a b : Int) (hb0 : b ≠ 0) : (0 ≤ a → 0 ≤ a.tmod b) ∧ (a ≤ 0 → a.tmod b ≤ 0) ∧ (a.tmod b).natAbs < b.natAbs := by
  refine ⟨fun h => Int.tmod_nonneg b h, fun h => tmod_le a b h, ?_⟩
  rw [Int.natAbs_tmod]; exact Nat.mod_lt _ (by omega)

theorem mul_zero1 (b : Int) : mulS 0 b = (0, 0) := by unfold mulS; rw [Int.zero_mul, if_pos (by decide)]
theorem mul_zero2 (a : Int) : mulS a 0 = (0, 0) := by unfold mulS; rw [Int.mul_zero, if_pos (by decide)]
theorem mul_neg1 (b : Int) : mulS (-1) b = negS b := by unfold mulS negS subS; rw [Int.neg_mul, Int.one_mul, Int.zero_sub]
theorem mul_neg2 (a : Int) : mulS a (-1) = negS a := by unfold mulS negS subS; rw [Int.mul_neg, Int.mul_one, Int.zero_sub]
end Go.Proofs.YtkmmdkklpbafdaaGreatDoor
