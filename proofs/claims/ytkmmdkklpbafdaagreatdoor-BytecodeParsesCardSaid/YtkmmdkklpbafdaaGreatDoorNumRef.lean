/- What the arithmetic functions of the reference of layer 1 return. No conditions but the numbers' own ranges. -/
import Derived.Test.YtkmmdkklpbafdaaGreatDoorNumWalk
namespace Go.Proofs.YtkmmdkklpbafdaaGreatDoor
open Go.RowKit

theorem u64_neg (a : Int) (h1 : -9223372036854775808 ≤ a) (h2 : a < 0) : IntKind.u64.wrap (0 - IntKind.u64.wrap a) = (a.natAbs : Int) := by
  simp only [IntKind.wrap, IntKind.signed, IntKind.bits]
  simp
  omega
set_option maxRecDepth 100000 in
set_option maxHeartbeats 400000 in
theorem Rsize_any (a : Int) (w : World) (ha1 : -9223372036854775808 ≤ a) (ha2 : a ≤ 9223372036854775807) :
    Calls Tryz.prog 103 #[.int .i64 a] w fun e w' => e = .returned (.int .u64 (a.natAbs : Int)) ∧ w = w' := by
  by_cases hn : a < 0
  · obtain ⟨u, hu⟩ : ∃ u, IntKind.u64.wrap a = u := ⟨_, rfl⟩
    have hm := u64_neg a ha1 hn
    rw [hu, Int.zero_sub] at hm
    obtain ⟨m, hm2⟩ : ∃ m : Int, (a.natAbs : Int) = m := ⟨_, rfl⟩
    rw [hm2] at hm ⊢
    clear hm2
    go_enter Tryz.func103, Tryz.ntmps103
    go_wp2
    go_ret
    exact ⟨rfl, rfl⟩
  · have hm : (a.natAbs : Int) = a := by omega
    rw [hm]
    clear hm
    have h0 : 0 ≤ a := by omega
    have hu : IntKind.u64.wrap a = a := by
      simp only [IntKind.wrap, IntKind.signed, IntKind.bits]
      simp
      omega
    go_enter Tryz.func103, Tryz.ntmps103
    go_wp2
    go_ret
    exact ⟨rfl, rfl⟩

set_option maxRecDepth 100000 in
theorem mul_lim1 {a b : Int} (hb : b ≠ 0) (hs : a < 0 ↔ b < 0) : fits (a * b) = true ↔ ¬ (9223372036854775807 / (b.natAbs : Int) < (a.natAbs : Int)) := by
  have e : a * b = (a.natAbs : Int) * (b.natAbs : Int) := by
    by_cases h : a < 0
    · have h2 := hs.1 h
      rw [show (a.natAbs : Int) = -a by omega, show (b.natAbs : Int) = -b by omega, Int.neg_mul_neg]
    · rw [show (a.natAbs : Int) = a by omega, show (b.natAbs : Int) = b by omega]
  have hb' : (0 : Int) < (b.natAbs : Int) := by omega
  have h1 := Int.le_ediv_iff_mul_le (a := (a.natAbs : Int)) (b := 9223372036854775807) hb'
  have h0 : 0 ≤ (a.natAbs : Int) * (b.natAbs : Int) := Int.mul_nonneg (by omega) (by omega)
  rw [fits_iff, e]
  omega
set_option maxRecDepth 100000 in
theorem mul_lim2 {a b : Int} (hb : b ≠ 0) (hs : ¬ (a < 0 ↔ b < 0)) : fits (a * b) = true ↔ ¬ (9223372036854775808 / (b.natAbs : Int) < (a.natAbs : Int)) := by
  have e : a * b = -((a.natAbs : Int) * (b.natAbs : Int)) := by
    by_cases h : a < 0
    · rw [show (a.natAbs : Int) = -a by omega, show (b.natAbs : Int) = b by omega, Int.neg_mul, Int.neg_neg]
    · rw [show (a.natAbs : Int) = a by omega, show (b.natAbs : Int) = -b by omega, Int.mul_neg, Int.neg_neg]
  have hb' : (0 : Int) < (b.natAbs : Int) := by omega
  have h1 := Int.le_ediv_iff_mul_le (a := (a.natAbs : Int)) (b := 9223372036854775808) hb'
  have h0 : 0 ≤ (a.natAbs : Int) * (b.natAbs : Int) := Int.mul_nonneg (by omega) (by omega)
  rw [fits_iff, e]
  omega
end Go.Proofs.YtkmmdkklpbafdaaGreatDoor
