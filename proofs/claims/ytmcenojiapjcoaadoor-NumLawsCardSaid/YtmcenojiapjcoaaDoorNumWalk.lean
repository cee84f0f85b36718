/- What the arithmetic functions of layer 1 (num) and of its reference return. No conditions but the numbers' own ranges. -/
import Derived.Test.YtmcenojiapjcoaaDoorBase
import Derived.Test.YtmcenojiapjcoaaDoorNumPlain
namespace Go.Proofs.YtmcenojiapjcoaaDoor
open Go.RowKit

theorem w64_hi (x : Int) (h1 : 9223372036854775807 < x) (h2 : x ≤ 18446744073709551614) : wrap64 x = x - 18446744073709551616 := by unfold wrap64; omega
theorem w64_lo (x : Int) (h1 : x < -9223372036854775808) (h2 : -18446744073709551616 ≤ x) : wrap64 x = x + 18446744073709551616 := by unfold wrap64; omega
theorem w64_some (x : Int) : ∃ k : Int, wrap64 x = x + k * 18446744073709551616 ∧ -9223372036854775808 ≤ wrap64 x ∧ wrap64 x ≤ 9223372036854775807 := by
  refine ⟨-((x + 9223372036854775808) / 18446744073709551616), ?_, ?_, ?_⟩ <;> unfold wrap64 <;> omega
theorem fits_mk {x : Int} (h1 : -9223372036854775808 ≤ x) (h2 : x ≤ 9223372036854775807) : fits x = true := (fits_iff x).2 ⟨h1, h2⟩
theorem add_ok {a b : Int} (h : fits (a + b) = true) : addS a b = (a + b, 0) := by unfold addS; rw [if_pos h]
theorem add_no {a b : Int} (h : fits (a + b) = false) : addS a b = (0, 3) := by unfold addS; rw [h]; rfl
theorem sub_ok {a b : Int} (h : fits (a - b) = true) : subS a b = (a - b, 0) := by unfold subS; rw [if_pos h]
theorem sub_no {a b : Int} (h : fits (a - b) = false) : subS a b = (0, 3) := by unfold subS; rw [h]; rfl
theorem mul_ok {a b : Int} (h : fits (a * b) = true) : mulS a b = (a * b, 0) := by unfold mulS; rw [if_pos h]
theorem mul_no {a b : Int} (h : fits (a * b) = false) : mulS a b = (0, 3) := by unfold mulS; rw [h]; rfl

set_option maxRecDepth 100000 in
set_option maxHeartbeats 400000 in
theorem Add_any (a b : Int) (w : World) (ha1 : -9223372036854775808 ≤ a) (ha2 : a ≤ 9223372036854775807) (hb1 : -9223372036854775808 ≤ b) (hb2 : b ≤ 9223372036854775807) :
    Calls Tryd.prog 20 #[.int .i64 a, .int .i64 b] w fun e w' => e = .returned (.tuple #[.int .i64 (addS a b).1, .int .i64 (addS a b).2]) ∧ w = w' := by
  by_cases hf : fits (a + b) = true
  · have hfin := add_ok hf
    rw [hfin]
    obtain ⟨h1, h2⟩ := (fits_iff _).1 hf
    clear hf hfin
    rcases Int.lt_trichotomy b 0 with hb | hb | hb
    all_goals
      (try have hb' : ¬ (0 < b) := by omega)
      (try have hb'' : ¬ (b < 0) := by omega)
      go_enter Tryd.func20, Tryd.ntmps20
      go_wp2
      go_ret2
      exact ⟨rfl, rfl⟩
  · have hf' : fits (a + b) = false := by simpa using hf
    have hfin := add_no hf'
    rw [hfin]
    obtain ⟨k, hk, hk1, hk2⟩ := w64_some (a + b)
    obtain ⟨s, hs⟩ : ∃ s, s = wrap64 (a + b) := ⟨_, rfl⟩
    rw [← hs] at hk hk1 hk2
    have hs' := hs.symm
    have hno := (fits_no _).1 hf'
    have hc : (0 < b ∧ s < a) ∨ (b < 0 ∧ a < s) := by omega
    clear hf hf' hfin hno hk hs
    rcases hc with ⟨hb, hl⟩ | ⟨hb, hl⟩
    all_goals
      (try have hb' : ¬ (0 < b) := by omega)
      go_enter Tryd.func20, Tryd.ntmps20
      go_wp2
      go_ret2
      exact ⟨rfl, rfl⟩
set_option maxRecDepth 100000 in
set_option maxHeartbeats 400000 in
theorem Sub_any (a b : Int) (w : World) (ha1 : -9223372036854775808 ≤ a) (ha2 : a ≤ 9223372036854775807) (hb1 : -9223372036854775808 ≤ b) (hb2 : b ≤ 9223372036854775807) :
    Calls Tryd.prog 22 #[.int .i64 a, .int .i64 b] w fun e w' => e = .returned (.tuple #[.int .i64 (subS a b).1, .int .i64 (subS a b).2]) ∧ w = w' := by
  by_cases hf : fits (a - b) = true
  · have hfin := sub_ok hf
    rw [hfin]
    obtain ⟨h1, h2⟩ := (fits_iff _).1 hf
    clear hf hfin
    rcases Int.lt_trichotomy b 0 with hb | hb | hb
    all_goals
      (try have hb' : ¬ (0 < b) := by omega)
      (try have hb'' : ¬ (b < 0) := by omega)
      go_enter Tryd.func22, Tryd.ntmps22
      go_wp2
      go_ret2
      exact ⟨rfl, rfl⟩
  · have hf' : fits (a - b) = false := by simpa using hf
    have hfin := sub_no hf'
    rw [hfin]
    obtain ⟨k, hk, hk1, hk2⟩ := w64_some (a - b)
    obtain ⟨s, hs⟩ : ∃ s, s = wrap64 (a - b) := ⟨_, rfl⟩
    rw [← hs] at hk hk1 hk2
    have hs' := hs.symm
    have hno := (fits_no _).1 hf'
    have hc : (0 < b ∧ a < s) ∨ (b < 0 ∧ s < a) := by omega
    clear hf hf' hfin hno hk hs
    rcases hc with ⟨hb, hl⟩ | ⟨hb, hl⟩
    all_goals
      (try have hb' : ¬ (0 < b) := by omega)
      go_enter Tryd.func22, Tryd.ntmps22
      go_wp2
      go_ret2
      exact ⟨rfl, rfl⟩
set_option maxRecDepth 100000 in
set_option maxHeartbeats 400000 in
theorem Neg_any (a : Int) (w : World) (ha1 : -9223372036854775808 ≤ a) (ha2 : a ≤ 9223372036854775807) :
    Calls Tryd.prog 24 #[.int .i64 a] w fun e w' => e = .returned (.tuple #[.int .i64 (negS a).1, .int .i64 (negS a).2]) ∧ w = w' := by
  by_cases hm : a = -9223372036854775808
  · subst hm
    have hfin : negS (-9223372036854775808) = (0, 3) := by unfold negS subS; rw [(fits_no _).2 (by omega)]; rfl
    rw [hfin]
    clear hfin
    go_enter Tryd.func24, Tryd.ntmps24
    go_wp2
    go_ret2
    exact ⟨rfl, rfl⟩
  · have hfin : negS a = (-a, 0) := by unfold negS; rw [sub_ok (fits_mk (by omega) (by omega)), Int.zero_sub]
    rw [hfin]
    have hne : (a == -9223372036854775808) = false := by rw [beq_eq_false_iff_ne]; exact hm
    have hlo : -9223372036854775807 ≤ a := by omega
    clear hfin hm
    go_enter Tryd.func24, Tryd.ntmps24
    go_wp2
    go_ret2
    exact ⟨rfl, rfl⟩
theorem tdiv_half (a b : Int) (hb0 : b ≠ 0) (hb1 : b ≠ -1) (hb2 : b ≠ 1) : 2 * (a.tdiv b).natAbs ≤ a.natAbs := by
  rw [Int.natAbs_tdiv]
  have h2 : 2 ≤ b.natAbs := by omega
  have h3 : a.natAbs / b.natAbs ≤ a.natAbs / 2 := Nat.div_le_div_left h2 (by decide)
  show 2 * (a.natAbs / b.natAbs) ≤ a.natAbs
  omega
theorem tdiv_bd (a b : Int) (h1 : -9223372036854775808 ≤ a) (h2 : a ≤ 9223372036854775807) (hb0 : b ≠ 0) (hb1 : b ≠ -1) : -9223372036854775808 ≤ a.tdiv b ∧ a.tdiv b ≤ 9223372036854775807 := by
  by_cases hb2 : b = 1
  · subst hb2; rw [Int.tdiv_one]; exact ⟨h1, h2⟩
  · have := tdiv_half a b hb0 hb1 hb2
    omega
theorem tdiv_bd2 (a b : Int) (h1 : -9223372036854775808 ≤ a) (h2 : a ≤ 9223372036854775807) (hb0 : b ≠ 0) (hb1 : b ≠ -1) (hr : a.tmod b ≠ 0) : -9223372036854775808 ≤ a.tdiv b - 1 := by
  have hb2 : b ≠ 1 := by intro h; subst h; exact hr (Int.tmod_one a)
  have := tdiv_half a b hb0 hb1 hb2
  omega
theorem div_neg1 (a : Int) : divS a (-1) = negS a := by
  unfold divS negS subS
  rw [if_neg (by decide), Int.zero_sub, show a.fdiv (-1) = -a from by rw [fdiv_eq a (-1) (by decide)]; simp]
theorem div_keep {a b : Int} (h1 : -9223372036854775808 ≤ a) (h2 : a ≤ 9223372036854775807) (hb0 : b ≠ 0) (hb1 : b ≠ -1) (hc : a.tmod b = 0 ∨ (a < 0 ↔ b < 0)) : divS a b = (a.tdiv b, 0) := by
  have h := tdiv_bd a b h1 h2 hb0 hb1
  have e : a.fdiv b = a.tdiv b := by
    rw [fdiv_eq a b hb0, if_neg, Int.sub_zero]
    rintro ⟨h3, h4⟩
    exact hc.elim h3 h4
  unfold divS
  rw [if_neg hb0, e, if_pos (fits_mk h.1 h.2)]
theorem div_down {a b : Int} (h1 : -9223372036854775808 ≤ a) (h2 : a ≤ 9223372036854775807) (hb0 : b ≠ 0) (hb1 : b ≠ -1) (hr : a.tmod b ≠ 0) (hs : ¬ (a < 0 ↔ b < 0)) : divS a b = (a.tdiv b - 1, 0) := by
  have h := tdiv_bd a b h1 h2 hb0 hb1
  have h3 := tdiv_bd2 a b h1 h2 hb0 hb1 hr
  have e : a.fdiv b = a.tdiv b - 1 := by rw [fdiv_eq a b hb0, if_pos ⟨hr, hs⟩]
  unfold divS
  rw [if_neg hb0, e, if_pos (fits_mk h3 (by omega))]
theorem mod_neg1 (a : Int) : modS a (-1) = (0, 0) := by
  unfold modS
  rw [if_neg (by decide), show a.fmod (-1) = 0 from by rw [fmod_eq a (-1) (by decide)]; simp]
theorem mod_keep {a b : Int} (hb0 : b ≠ 0) (hc : a.tmod b = 0 ∨ (a < 0 ↔ b < 0)) : modS a b = (a.tmod b, 0) := by
  unfold modS
  rw [if_neg hb0, fmod_eq a b hb0, if_neg, Int.add_zero]
  rintro ⟨h3, h4⟩
  exact hc.elim h3 h4
theorem mod_up {a b : Int} (hb0 : b ≠ 0) (hr : a.tmod b ≠ 0) (hs : ¬ (a < 0 ↔ b < 0)) : modS a b = (a.tmod b + b, 0) := by
  unfold modS
  rw [if_neg hb0, fmod_eq a b hb0, if_pos ⟨hr, hs⟩]
theorem tmod_bd (a b : Int) (hb0 : b ≠ 0) : (0 ≤ a → 0 ≤ a.tmod b) ∧ (a ≤ 0 → a.tmod b ≤ 0) ∧ (a.tmod b).natAbs < b.natAbs := by
  refine ⟨fun h => Int.tmod_nonneg b h, fun h => tmod_le a b h, ?_⟩
  rw [Int.natAbs_tmod]; exact Nat.mod_lt _ (by omega)

set_option maxRecDepth 100000 in
set_option maxHeartbeats 400000 in
theorem Div_any (a b : Int) (w : World) (ha1 : -9223372036854775808 ≤ a) (ha2 : a ≤ 9223372036854775807) (hb1 : -9223372036854775808 ≤ b) (hb2 : b ≤ 9223372036854775807) :
    Calls Tryd.prog 11 #[.int .i64 a, .int .i64 b] w fun e w' => e = .returned (.tuple #[.int .i64 (divS a b).1, .int .i64 (divS a b).2]) ∧ w = w' := by
  by_cases hb0 : b = 0
  · subst hb0
    have hfin : divS a 0 = (0, 4) := rfl
    rw [hfin]
    clear hfin
    go_enter Tryd.func11, Tryd.ntmps11
    go_wp2
    go_ret2
    exact ⟨rfl, rfl⟩
  · have hb0' : (b == 0) = false := by rw [beq_eq_false_iff_ne]; exact hb0
    by_cases hb1 : b = -1
    · subst hb1
      rw [div_neg1]
      clear hb0 hb0'
      go_enter Tryd.func11, Tryd.ntmps11
      go_wp2_with (go_at_call 24; refine (Neg_any _ _ ha1 ha2).mono ?_; rintro e w' ⟨rfl, rfl⟩)
      go_ret2
      exact ⟨rfl, rfl⟩
    · have hb1' : (b == -1) = false := by rw [beq_eq_false_iff_ne]; exact hb1
      obtain ⟨q1, q2⟩ := tdiv_bd a b ha1 ha2 hb0 hb1
      by_cases hr : a.tmod b = 0
      · have hfin := div_keep ha1 ha2 hb0 hb1 (Or.inl hr)
        rw [hfin]
        have hrt : (a.tmod b != 0) = false := by rw [hr]; rfl
        have HR := Lib.hid hr
        clear hfin hr
        by_cases h0 : 0 ≤ a
        · have hm : a.tmod b = a % b := Int.tmod_eq_emod_of_nonneg h0
          rw [hm] at hrt
          by_cases h1 : 0 < b
          · have hd : a.tdiv b = a / b := Int.tdiv_eq_ediv_of_nonneg h0
            rw [hd] at q1 q2 ⊢
            clear hm hd hb1
            go_enter Tryd.func11, Tryd.ntmps11
            go_wp2
            go_ret2
            exact ⟨rfl, rfl⟩
          · clear hm hb1
            go_enter Tryd.func11, Tryd.ntmps11
            go_wp2
            go_ret2
            exact ⟨rfl, rfl⟩
        · clear hb1
          go_enter Tryd.func11, Tryd.ntmps11
          go_wp2
          go_ret2
          exact ⟨rfl, rfl⟩
      · have hrt : (a.tmod b != 0) = true := by rw [bne_iff_ne]; exact hr
        have q3 := tdiv_bd2 a b ha1 ha2 hb0 hb1 hr
        have HR := Lib.hid hr; clear hr
        by_cases h0 : 0 ≤ a
        · have hm : a.tmod b = a % b := Int.tmod_eq_emod_of_nonneg h0
          rw [hm] at hrt
          clear hm
          have h0' : ¬ a < 0 := by omega
          by_cases h1 : 0 < b
          · have h1' : ¬ b < 0 := by omega
            have hfin := div_keep ha1 ha2 hb0 hb1 (Or.inr (by omega))
            rw [hfin]
            have hd : a.tdiv b = a / b := Int.tdiv_eq_ediv_of_nonneg h0
            rw [hd] at q1 q2 q3 ⊢
            clear hd hb1 hfin
            go_enter Tryd.func11, Tryd.ntmps11
            go_wp2
            go_ret2
            exact ⟨rfl, rfl⟩
          · have h1' : b < 0 := by omega
            have hfin := div_down ha1 ha2 hb0 hb1 HR.out (by omega)
            rw [hfin]
            clear hb0 hb1 hfin
            go_enter Tryd.func11, Tryd.ntmps11
            go_wp2
            go_ret2
            exact ⟨rfl, rfl⟩
        · have h0' : a < 0 := by omega
          by_cases h1 : 0 < b
          · have h1' : ¬ b < 0 := by omega
            have hfin := div_down ha1 ha2 hb0 hb1 HR.out (by omega)
            rw [hfin]
            clear hb0 hb1 hfin
            go_enter Tryd.func11, Tryd.ntmps11
            go_wp2
            go_ret2
            exact ⟨rfl, rfl⟩
          · have h1' : b < 0 := by omega
            have hfin := div_keep ha1 ha2 hb0 hb1 (Or.inr (by omega))
            rw [hfin]
            clear hb0 hb1 hfin
            go_enter Tryd.func11, Tryd.ntmps11
            go_wp2
            go_ret2
            exact ⟨rfl, rfl⟩
set_option maxRecDepth 100000 in
set_option maxHeartbeats 400000 in
theorem Mod_any (a b : Int) (w : World) (ha1 : -9223372036854775808 ≤ a) (ha2 : a ≤ 9223372036854775807) (hb1 : -9223372036854775808 ≤ b) (hb2 : b ≤ 9223372036854775807) :
    Calls Tryd.prog 12 #[.int .i64 a, .int .i64 b] w fun e w' => e = .returned (.tuple #[.int .i64 (modS a b).1, .int .i64 (modS a b).2]) ∧ w = w' := by
  by_cases hb0 : b = 0
  · subst hb0
    have hfin : modS a 0 = (0, 4) := rfl
    rw [hfin]
    clear hfin
    go_enter Tryd.func12, Tryd.ntmps12
    go_wp2
    go_ret2
    exact ⟨rfl, rfl⟩
  · have hb0' : (b == 0) = false := by rw [beq_eq_false_iff_ne]; exact hb0
    by_cases hb1 : b = -1
    · subst hb1
      rw [mod_neg1]
      clear hb0 hb0'
      go_enter Tryd.func12, Tryd.ntmps12
      go_wp2
      go_ret2
      exact ⟨rfl, rfl⟩
    · have hb1' : (b == -1) = false := by rw [beq_eq_false_iff_ne]; exact hb1
      obtain ⟨m1, m2, m3⟩ := tmod_bd a b hb0
      by_cases h0 : 0 ≤ a
      · have hm : a.tmod b = a % b := Int.tmod_eq_emod_of_nonneg h0
        have m4 : 0 ≤ a % b := by rw [← hm]; exact m1 h0
        have m5 : a % b ≤ 9223372036854775807 := by rw [← hm]; omega
        have m5' : a % b ≤ (b.natAbs : Int) := by rw [← hm]; omega
        have h0' : ¬ a % b < 0 := by omega
        by_cases hr : a.tmod b = 0
        · have hrt : (a % b != 0) = false := by rw [← hm, hr]; rfl
          have hfin := mod_keep (a := a) hb0 (Or.inl hr)
          rw [hfin, hm]
          clear hfin hr hb1 hm m1 m2 m3
          go_enter Tryd.func12, Tryd.ntmps12
          go_wp2
          go_ret2
          exact ⟨rfl, rfl⟩
        · have hrt : (a % b != 0) = true := by rw [bne_iff_ne, ← hm]; exact hr
          by_cases h1 : 0 < b
          · have hfin := mod_keep (a := a) hb0 (Or.inr (by omega))
            have h1' : ¬ b < 0 := by omega
            rw [hfin, hm]
            clear hfin hr hb1 hm m1 m2 m3
            go_enter Tryd.func12, Tryd.ntmps12
            go_wp2
            go_ret2
            exact ⟨rfl, rfl⟩
          · have hfin := mod_up hb0 hr (by omega)
            have h1' : b < 0 := by omega
            rw [hfin, hm]
            clear hfin hr hb1 hm m1 m2 m3
            go_enter Tryd.func12, Tryd.ntmps12
            go_wp2
            go_ret2
            exact ⟨rfl, rfl⟩
      · have m4 : a.tmod b ≤ 0 := m2 (by omega)
        have m5 : -9223372036854775808 ≤ a.tmod b := by omega
        by_cases hr : a.tmod b = 0
        · have hrt : (a.tmod b != 0) = false := by rw [hr]; rfl
          have hfin := mod_keep (a := a) hb0 (Or.inl hr)
          rw [hfin]
          clear hfin hr hb1 m1 m2 m3
          go_enter Tryd.func12, Tryd.ntmps12
          go_wp2
          go_ret2
          exact ⟨rfl, rfl⟩
        · have hrt : (a.tmod b != 0) = true := by rw [bne_iff_ne]; exact hr
          have h0' : a.tmod b < 0 := by omega
          by_cases h1 : 0 < b
          · have hfin := mod_up hb0 hr (by omega)
            have h1' : ¬ b < 0 := by omega
            have m6 : -9223372036854775808 ≤ a.tmod b + b := by omega
            have m7 : a.tmod b + b ≤ 9223372036854775807 := by omega
            rw [hfin]
            clear hfin hr hb1 m1 m2 m3
            go_enter Tryd.func12, Tryd.ntmps12
            go_wp2
            go_ret2
            exact ⟨rfl, rfl⟩
          · have hfin := mod_keep (a := a) hb0 (Or.inr (by omega))
            have h1' : b < 0 := by omega
            rw [hfin]
            clear hfin hr hb1 m1 m2 m3
            go_enter Tryd.func12, Tryd.ntmps12
            go_wp2
            go_ret2
            exact ⟨rfl, rfl⟩
theorem mul_zero1 (b : Int) : mulS 0 b = (0, 0) := by unfold mulS; rw [Int.zero_mul, if_pos (by decide)]
theorem mul_zero2 (a : Int) : mulS a 0 = (0, 0) := by unfold mulS; rw [Int.mul_zero, if_pos (by decide)]
theorem mul_neg1 (b : Int) : mulS (-1) b = negS b := by unfold mulS negS subS; rw [Int.neg_mul, Int.one_mul, Int.zero_sub]
theorem mul_neg2 (a : Int) : mulS a (-1) = negS a := by unfold mulS negS subS; rw [Int.mul_neg, Int.mul_one, Int.zero_sub]
set_option maxRecDepth 100000 in
set_option maxHeartbeats 400000 in
theorem Mul_any (a b : Int) (w : World) (ha1 : -9223372036854775808 ≤ a) (ha2 : a ≤ 9223372036854775807) (hb1 : -9223372036854775808 ≤ b) (hb2 : b ≤ 9223372036854775807) :
    Calls Tryd.prog 26 #[.int .i64 a, .int .i64 b] w fun e w' => e = .returned (.tuple #[.int .i64 (mulS a b).1, .int .i64 (mulS a b).2]) ∧ w = w' := by
  by_cases hz : a = 0
  · subst hz
    rw [mul_zero1]
    go_enter Tryd.func26, Tryd.ntmps26
    go_wp2
    go_ret2
    exact ⟨rfl, rfl⟩
  have hz' : (a == 0) = false := by rw [beq_eq_false_iff_ne]; exact hz
  by_cases hb0 : b = 0
  · subst hb0
    rw [mul_zero2]
    clear hz
    go_enter Tryd.func26, Tryd.ntmps26
    go_wp2
    go_ret2
    exact ⟨rfl, rfl⟩
  have hb0' : (b == 0) = false := by rw [beq_eq_false_iff_ne]; exact hb0
  by_cases hn : a = -1
  · subst hn
    rw [mul_neg1]
    clear hz hz'
    go_enter Tryd.func26, Tryd.ntmps26
    go_wp2_with (go_at_call 24; refine (Neg_any _ _ hb1 hb2).mono ?_; rintro e w' ⟨rfl, rfl⟩)
    go_ret2
    exact ⟨rfl, rfl⟩
  have hn' : (a == -1) = false := by rw [beq_eq_false_iff_ne]; exact hn
  by_cases hm : b = -1
  · subst hm
    rw [mul_neg2]
    clear hz hn hb0'
    go_enter Tryd.func26, Tryd.ntmps26
    go_wp2_with (go_at_call 24; refine (Neg_any _ _ ha1 ha2).mono ?_; rintro e w' ⟨rfl, rfl⟩)
    go_ret2
    exact ⟨rfl, rfl⟩
  have hm' : (b == -1) = false := by rw [beq_eq_false_iff_ne]; exact hm
  obtain ⟨k, hk, hk1, hk2⟩ := w64_some (a * b)
  obtain ⟨p, hp⟩ : ∃ p, wrap64 (a * b) = p := ⟨_, rfl⟩
  rw [hp] at hk hk1 hk2
  obtain ⟨q1, q2⟩ := tdiv_bd p b hk1 hk2 hb0 hm
  obtain ⟨q, hq⟩ : ∃ q, p.tdiv b = q := ⟨_, rfl⟩
  by_cases hf : fits (a * b) = true
  · have hfin := mul_ok hf
    have hpe : p = a * b := by rw [← hp]; exact IntWalk.wrap64_in _ ((fits_iff _).1 hf)
    rw [hfin, ← hpe]
    have hqa : (q != a) = false := by rw [← hq, hpe, mul_back a b hb0]; simp
    have HP := Lib.hid hp
    rw [hq] at q1 q2
    clear hf hfin hpe hk hz hn hm
    by_cases h0 : 0 ≤ p ∧ 1 ≤ b
    · obtain ⟨h1, h2⟩ := h0
      rw [Int.tdiv_eq_ediv_of_nonneg h1] at hq
      go_enter Tryd.func26, Tryd.ntmps26
      go_wp2
      go_ret2
      first | exact ⟨rfl, rfl⟩ | (refine ⟨?_, rfl⟩; show Ending.returned (.tuple #[.int .i64 (wrap64 (a * b)), .int .i64 0]) = _; rw [HP.out])
    · go_enter Tryd.func26, Tryd.ntmps26
      go_wp2
      go_ret2
      first | exact ⟨rfl, rfl⟩ | (refine ⟨?_, rfl⟩; show Ending.returned (.tuple #[.int .i64 (wrap64 (a * b)), .int .i64 0]) = _; rw [HP.out])
  · have hf' : fits (a * b) = false := by simpa using hf
    have hfin := mul_no hf'
    rw [hfin]
    have hqa : (q != a) = true := by
      rw [bne_iff_ne]
      intro h
      have := wrap_back a b p k hb0 hb1 hb2 hk (by rw [hq, h])
      rw [← this] at hf
      exact hf (fits_mk hk1 hk2)
    have HP := Lib.hid hp
    rw [hq] at q1 q2
    clear hf hf' hfin hk hz hn hm
    by_cases h0 : 0 ≤ p ∧ 1 ≤ b
    · obtain ⟨h1, h2⟩ := h0
      rw [Int.tdiv_eq_ediv_of_nonneg h1] at hq
      go_enter Tryd.func26, Tryd.ntmps26
      go_wp2
      go_ret2
      exact ⟨rfl, rfl⟩
    · go_enter Tryd.func26, Tryd.ntmps26
      go_wp2
      go_ret2
      exact ⟨rfl, rfl⟩
end Go.Proofs.YtmcenojiapjcoaaDoor
