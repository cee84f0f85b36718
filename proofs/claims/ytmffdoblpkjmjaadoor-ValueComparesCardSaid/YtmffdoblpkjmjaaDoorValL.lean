/- Layer 5's order: antisymmetric, transitive, 0 only for equals. No conditions. -/
import Derived.Test.YtmffdoblpkjmjaaDoorValP
namespace Go.Proofs.YtmffdoblpkjmjaaDoor
open Go.RowKit

theorem ci_anti (x y : Int) : Lib.compareInt y x = -Lib.compareInt x y := by
  unfold Lib.compareInt
  by_cases h1 : x < y
  · rw [if_neg (by omega), if_pos (by omega), if_pos h1]; rfl
  · by_cases h2 : y < x
    · rw [if_pos h2, if_neg h1, if_pos h2]
    · rw [if_neg h2, if_neg (by omega), if_neg h1, if_neg (by omega)]; rfl
theorem ci_zero (x y : Int) : Lib.compareInt x y = 0 ↔ x = y := by
  unfold Lib.compareInt
  by_cases h1 : x < y
  · rw [if_pos h1]; constructor <;> intro h <;> omega
  · by_cases h2 : y < x
    · rw [if_neg h1, if_pos h2]; constructor <;> intro h <;> omega
    · rw [if_neg h1, if_neg h2]; constructor <;> intro h <;> omega
theorem ci_le (x y : Int) : Lib.compareInt x y ≤ 0 ↔ x ≤ y := by
  unfold Lib.compareInt
  by_cases h1 : x < y
  · rw [if_pos h1]; constructor <;> intro h <;> omega
  · by_cases h2 : y < x
    · rw [if_neg h1, if_pos h2]; constructor <;> intro h <;> omega
    · rw [if_neg h1, if_neg h2]; constructor <;> intro h <;> omega
theorem cb_anti : ∀ s t : List UInt8, Lib.compareBytes t s = -Lib.compareBytes s t
  | [], [] => rfl
  | [], _ :: _ => rfl
  | _ :: _, [] => rfl
  | a :: s, b :: t => by
    have ih := cb_anti s t
    simp only [Lib.compareBytes]
    by_cases h1 : a < b
    · have h2 : ¬ b < a := fun h2 => UInt8.lt_irrefl _ (UInt8.lt_trans h1 h2)
      rw [if_neg h2, if_pos h1, if_pos h1]; rfl
    · by_cases h2 : b < a
      · rw [if_pos h2, if_neg h1, if_pos h2]
      · rw [if_neg h2, if_neg h1, if_neg h1, if_neg h2, ih]
theorem cb_zero : ∀ s t : List UInt8, Lib.compareBytes s t = 0 ↔ s = t
  | [], [] => by simp [Lib.compareBytes]
  | [], _ :: _ => by simp [Lib.compareBytes]
  | _ :: _, [] => by simp [Lib.compareBytes]
  | a :: s, b :: t => by
    have ih := cb_zero s t
    simp only [Lib.compareBytes]
    by_cases h1 : a < b
    · rw [if_pos h1]
      constructor
      · intro h; omega
      · intro h; injection h with h _; subst h; exact absurd h1 (UInt8.lt_irrefl _)
    · by_cases h2 : b < a
      · rw [if_neg h1, if_pos h2]
        constructor
        · intro h; omega
        · intro h; injection h with h _; subst h; exact absurd h2 (UInt8.lt_irrefl _)
      · have : a = b := UInt8.le_antisymm (UInt8.not_lt.1 h2) (UInt8.not_lt.1 h1)
        subst this
        rw [if_neg h1, if_neg h1, ih]; simp
theorem cb_trans : ∀ s t u : List UInt8, Lib.compareBytes s t ≤ 0 → Lib.compareBytes t u ≤ 0 → Lib.compareBytes s u ≤ 0
  | [], [], u => by intro _ h; exact h
  | [], _ :: _, [] => by intro _ _; decide
  | [], _ :: _, _ :: _ => by intro _ _; simp [Lib.compareBytes]
  | _ :: _, [], _ => by intro h _; simp [Lib.compareBytes] at h
  | _ :: _, _ :: _, [] => by intro _ h; simp [Lib.compareBytes] at h
  | a :: s, b :: t, c :: u => by
    intro h1 h2
    have ih := cb_trans s t u
    simp only [Lib.compareBytes] at h1 h2 ⊢
    by_cases k1 : a < b
    · rw [if_pos k1] at h1
      by_cases k2 : b < c
      · rw [if_pos (UInt8.lt_trans k1 k2)]; decide
      · rw [if_neg k2] at h2
        by_cases k3 : c < b
        · rw [if_pos k3] at h2; exact absurd h2 (by decide)
        · have : b = c := UInt8.le_antisymm (UInt8.not_lt.1 k3) (UInt8.not_lt.1 k2)
          subst this; rw [if_pos k1]; decide
    · rw [if_neg k1] at h1
      by_cases k2 : b < a
      · rw [if_pos k2] at h1; exact absurd h1 (by decide)
      · rw [if_neg k2] at h1
        have : a = b := UInt8.le_antisymm (UInt8.not_lt.1 k2) (UInt8.not_lt.1 k1)
        subst this
        by_cases k3 : a < c
        · rw [if_pos k3]; decide
        · rw [if_neg k3] at h2 ⊢
          by_cases k4 : c < a
          · rw [if_pos k4] at h2; exact absurd h2 (by decide)
          · rw [if_neg k4] at h2 ⊢; exact ih h1 h2
theorem cmp_anti (a b : Vl) : cmpV b a = -cmpV a b := by
  unfold cmpV
  by_cases hk : a.k = b.k
  · rw [if_pos hk, if_pos hk.symm]
    by_cases hn : a.n = b.n
    · rw [if_pos hn, if_pos hn.symm, cb_anti]
    · rw [if_neg hn, if_neg (fun e => hn e.symm), ci_anti]
  · rw [if_neg hk, if_neg (fun e => hk e.symm), ci_anti]
theorem cmp_zero (a b : Vl) : cmpV a b = 0 ↔ a = b := by
  unfold cmpV
  obtain ⟨ak, an, sa⟩ := a
  obtain ⟨bk, bn, sb⟩ := b
  simp only [Vl.mk.injEq]
  by_cases hk : ak = bk
  · rw [if_pos hk]
    by_cases hn : an = bn
    · rw [if_pos hn, cb_zero]; simp [hk, hn]
    · rw [if_neg hn, ci_zero]; simp [hn]
  · rw [if_neg hk, ci_zero]; simp [hk]
theorem cmp_trans (a b c : Vl) (h1 : cmpV a b ≤ 0) (h2 : cmpV b c ≤ 0) : cmpV a c ≤ 0 := by
  unfold cmpV at *
  by_cases k1 : a.k = b.k
  · rw [if_pos k1] at h1
    by_cases k2 : b.k = c.k
    · rw [if_pos k2] at h2
      rw [if_pos (k1.trans k2)]
      by_cases n1 : a.n = b.n
      · rw [if_pos n1] at h1
        by_cases n2 : b.n = c.n
        · rw [if_pos n2] at h2; rw [if_pos (n1.trans n2)]; exact cb_trans _ _ _ h1 h2
        · rw [if_neg n2, ci_le] at h2; rw [if_neg (by omega), ci_le]; omega
      · rw [if_neg n1, ci_le] at h1
        by_cases n2 : b.n = c.n
        · rw [if_neg (by omega), ci_le]; omega
        · rw [if_neg n2, ci_le] at h2; rw [if_neg (by omega), ci_le]; omega
    · rw [if_neg k2, ci_le] at h2; rw [if_neg (by omega), ci_le]; omega
  · rw [if_neg k1, ci_le] at h1
    by_cases k2 : b.k = c.k
    · rw [if_neg (by omega), ci_le]; omega
    · rw [if_neg k2, ci_le] at h2; rw [if_neg (by omega), ci_le]; omega
theorem cmp_range (a b : Vl) : -1 ≤ cmpV a b ∧ cmpV a b ≤ 1 := by
  have hi : ∀ x y, -1 ≤ Lib.compareInt x y ∧ Lib.compareInt x y ≤ 1 := by
    intro x y; unfold Lib.compareInt; split
    · omega
    · split <;> omega
  have hb : ∀ s t, -1 ≤ Lib.compareBytes s t ∧ Lib.compareBytes s t ≤ 1 := by
    intro s
    induction s with
    | nil => intro t; cases t <;> simp [Lib.compareBytes]
    | cons a s ih =>
      intro t
      cases t with
      | nil => simp [Lib.compareBytes]
      | cons b t => simp only [Lib.compareBytes]; split
                    · omega
                    · split
                      · omega
                      · exact ih t
  unfold cmpV; split
  · split
    · exact hb _ _
    · exact hi _ _
  · exact hi _ _
end Go.Proofs.YtmffdoblpkjmjaaDoor
