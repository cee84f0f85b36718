/- What the arithmetic functions of the reference of layer 1 return. No conditions but the numbers' own ranges. -/
import Derived.Test.YtmcenojiapjcoaaDoorNumWalk
namespace Go.Proofs.YtmcenojiapjcoaaDoor
open Go.RowKit

set_option maxRecDepth 100000 in
set_option maxHeartbeats 400000 in
theorem RAdd_any (a b : Int) (w : World) (ha1 : -9223372036854775808 ≤ a) (ha2 : a ≤ 9223372036854775807) (hb1 : -9223372036854775808 ≤ b) (hb2 : b ≤ 9223372036854775807) :
    Calls Tryd.prog 21 #[.int .i64 a, .int .i64 b] w fun e w' => e = .returned (.tuple #[.int .i64 (addS a b).1, .int .i64 (addS a b).2]) ∧ w = w' := by
  by_cases hf : fits (a + b) = true
  · have hfin := add_ok hf
    rw [hfin]
    obtain ⟨h1, h2⟩ := (fits_iff _).1 hf
    clear hf hfin
    rcases Int.lt_trichotomy b 0 with hb | hb | hb
    all_goals
      (try have hb' : ¬ (0 < b) := by omega)
      (try have hb'' : ¬ (b < 0) := by omega)
      go_enter Tryd.func21, Tryd.ntmps21
      go_wp2
      go_ret2
      exact ⟨rfl, rfl⟩
  · have hf' : fits (a + b) = false := by simpa using hf
    have hfin := add_no hf'
    rw [hfin]
    have hno := (fits_no _).1 hf'
    have hc : (0 < b ∧ 9223372036854775807 - b < a) ∨ (b < 0 ∧ a < -9223372036854775808 - b) := by omega
    clear hf hf' hfin hno
    rcases hc with ⟨hb, hl⟩ | ⟨hb, hl⟩
    all_goals
      (try have hb' : ¬ (0 < b) := by omega)
      (try have hb' : ¬ (b < 0) := by omega)
      go_enter Tryd.func21, Tryd.ntmps21
      go_wp2
      go_ret2
      exact ⟨rfl, rfl⟩
set_option maxRecDepth 100000 in
set_option maxHeartbeats 400000 in
theorem RSub_any (a b : Int) (w : World) (ha1 : -9223372036854775808 ≤ a) (ha2 : a ≤ 9223372036854775807) (hb1 : -9223372036854775808 ≤ b) (hb2 : b ≤ 9223372036854775807) :
    Calls Tryd.prog 23 #[.int .i64 a, .int .i64 b] w fun e w' => e = .returned (.tuple #[.int .i64 (subS a b).1, .int .i64 (subS a b).2]) ∧ w = w' := by
  by_cases hf : fits (a - b) = true
  · have hfin := sub_ok hf
    rw [hfin]
    obtain ⟨h1, h2⟩ := (fits_iff _).1 hf
    clear hf hfin
    rcases Int.lt_trichotomy b 0 with hb | hb | hb
    all_goals
      (try have hb' : ¬ (0 < b) := by omega)
      (try have hb'' : ¬ (b < 0) := by omega)
      go_enter Tryd.func23, Tryd.ntmps23
      go_wp2
      go_ret2
      exact ⟨rfl, rfl⟩
  · have hf' : fits (a - b) = false := by simpa using hf
    have hfin := sub_no hf'
    rw [hfin]
    have hno := (fits_no _).1 hf'
    have hc : (b < 0 ∧ 9223372036854775807 + b < a) ∨ (0 < b ∧ a < -9223372036854775808 + b) := by omega
    clear hf hf' hfin hno
    rcases hc with ⟨hb, hl⟩ | ⟨hb, hl⟩
    all_goals
      (try have hb' : ¬ (0 < b) := by omega)
      (try have hb' : ¬ (b < 0) := by omega)
      go_enter Tryd.func23, Tryd.ntmps23
      go_wp2
      go_ret2
      exact ⟨rfl, rfl⟩
set_option maxRecDepth 100000 in
set_option maxHeartbeats 400000 in
theorem RNeg_any (a : Int) (w : World) (ha1 : -9223372036854775808 ≤ a) (ha2 : a ≤ 9223372036854775807) :
    Calls Tryd.prog 25 #[.int .i64 a] w fun e w' => e = .returned (.tuple #[.int .i64 (negS a).1, .int .i64 (negS a).2]) ∧ w = w' := by
  go_enter Tryd.func25, Tryd.ntmps25
  go_wp2_with (go_at_call 23; refine (RSub_any _ _ _ (by omega) (by omega) ha1 ha2).mono ?_; rintro e w' ⟨rfl, rfl⟩)
  go_ret2
  exact ⟨rfl, rfl⟩
set_option maxRecDepth 100000 in
set_option maxHeartbeats 400000 in
theorem RDiv_any (a b : Int) (w : World) (ha1 : -9223372036854775808 ≤ a) (ha2 : a ≤ 9223372036854775807) (hb1 : -9223372036854775808 ≤ b) (hb2 : b ≤ 9223372036854775807) :
    Calls Tryd.prog 14 #[.int .i64 a, .int .i64 b] w fun e w' => e = .returned (.tuple #[.int .i64 (divS a b).1, .int .i64 (divS a b).2]) ∧ w = w' := by
  by_cases hb0 : b = 0
  · subst hb0
    have hfin : divS a 0 = (0, 4) := rfl
    rw [hfin]
    clear hfin
    go_enter Tryd.func14, Tryd.ntmps14
    go_wp2
    go_ret2
    exact ⟨rfl, rfl⟩
  · have hb0' : (b == 0) = false := by rw [beq_eq_false_iff_ne]; exact hb0
    by_cases hb1 : b = -1
    · subst hb1
      rw [div_neg1]
      clear hb0 hb0'
      go_enter Tryd.func14, Tryd.ntmps14
      go_wp2_with (go_at_call 25; refine (RNeg_any _ _ ha1 ha2).mono ?_; rintro e w' ⟨rfl, rfl⟩)
      go_ret2
      exact ⟨rfl, rfl⟩
    · have hb1' : (b == -1) = false := by rw [beq_eq_false_iff_ne]; exact hb1
      obtain ⟨q1, q2⟩ := tdiv_bd a b ha1 ha2 hb0 hb1
      by_cases hr : a.tmod b = 0
      · have hfin := div_keep ha1 ha2 hb0 hb1 (Or.inl hr)
        rw [hfin]
        have hrt : (a.tmod b != 0) = false := by rw [hr]; rfl
        have HR := Lib.hid hr
        clear hfin hr
        by_cases h0 : 0 ≤ a
        · have hm : a.tmod b = a % b := Int.tmod_eq_emod_of_nonneg h0
          rw [hm] at hrt
          by_cases h1 : 0 < b
          · have hd : a.tdiv b = a / b := Int.tdiv_eq_ediv_of_nonneg h0
            rw [hd] at q1 q2 ⊢
            clear hm hd hb1
            go_enter Tryd.func14, Tryd.ntmps14
            go_wp2
            go_ret2
            exact ⟨rfl, rfl⟩
          · clear hm hb1
            go_enter Tryd.func14, Tryd.ntmps14
            go_wp2
            go_ret2
            exact ⟨rfl, rfl⟩
        · clear hb1
          go_enter Tryd.func14, Tryd.ntmps14
          go_wp2
          go_ret2
          exact ⟨rfl, rfl⟩
      · have hrt : (a.tmod b != 0) = true := by rw [bne_iff_ne]; exact hr
        have q3 := tdiv_bd2 a b ha1 ha2 hb0 hb1 hr
        have HR := Lib.hid hr; clear hr
        by_cases h0 : 0 ≤ a
        · have hm : a.tmod b = a % b := Int.tmod_eq_emod_of_nonneg h0
          rw [hm] at hrt
          clear hm
          have h0' : ¬ a < 0 := by omega
          by_cases h1 : 0 < b
          · have h1' : ¬ b < 0 := by omega
            have hfin := div_keep ha1 ha2 hb0 hb1 (Or.inr (by omega))
            rw [hfin]
            have hd : a.tdiv b = a / b := Int.tdiv_eq_ediv_of_nonneg h0
            rw [hd] at q1 q2 q3 ⊢
            clear hd hb1 hfin
            go_enter Tryd.func14, Tryd.ntmps14
            go_wp2
            go_ret2
            exact ⟨rfl, rfl⟩
          · have h1' : b < 0 := by omega
            have hfin := div_down ha1 ha2 hb0 hb1 HR.out (by omega)
            rw [hfin]
            clear hb0 hb1 hfin
            go_enter Tryd.func14, Tryd.ntmps14
            go_wp2
            go_ret2
            exact ⟨rfl, rfl⟩
        · have h0' : a < 0 := by omega
          by_cases h1 : 0 < b
          · have h1' : ¬ b < 0 := by omega
            have hfin := div_down ha1 ha2 hb0 hb1 HR.out (by omega)
            rw [hfin]
            clear hb0 hb1 hfin
            go_enter Tryd.func14, Tryd.ntmps14
            go_wp2
            go_ret2
            exact ⟨rfl, rfl⟩
          · have h1' : b < 0 := by omega
            have hfin := div_keep ha1 ha2 hb0 hb1 (Or.inr (by omega))
            rw [hfin]
            clear hb0 hb1 hfin
            go_enter Tryd.func14, Tryd.ntmps14
            go_wp2
            go_ret2
            exact ⟨rfl, rfl⟩
set_option maxRecDepth 100000 in
set_option maxHeartbeats 400000 in
theorem RMod_any (a b : Int) (w : World) (ha1 : -9223372036854775808 ≤ a) (ha2 : a ≤ 9223372036854775807) (hb1 : -9223372036854775808 ≤ b) (hb2 : b ≤ 9223372036854775807) :
    Calls Tryd.prog 15 #[.int .i64 a, .int .i64 b] w fun e w' => e = .returned (.tuple #[.int .i64 (modS a b).1, .int .i64 (modS a b).2]) ∧ w = w' := by
  by_cases hb0 : b = 0
  · subst hb0
    have hfin : modS a 0 = (0, 4) := rfl
    rw [hfin]
    clear hfin
    go_enter Tryd.func15, Tryd.ntmps15
    go_wp2
    go_ret2
    exact ⟨rfl, rfl⟩
  · have hb0' : (b == 0) = false := by rw [beq_eq_false_iff_ne]; exact hb0
    by_cases hb1 : b = -1
    · subst hb1
      rw [mod_neg1]
      clear hb0 hb0'
      go_enter Tryd.func15, Tryd.ntmps15
      go_wp2
      go_ret2
      exact ⟨rfl, rfl⟩
    · have hb1' : (b == -1) = false := by rw [beq_eq_false_iff_ne]; exact hb1
      obtain ⟨m1, m2, m3⟩ := tmod_bd a b hb0
      by_cases h0 : 0 ≤ a
      · have hm : a.tmod b = a % b := Int.tmod_eq_emod_of_nonneg h0
        have m4 : 0 ≤ a % b := by rw [← hm]; exact m1 h0
        have m5 : a % b ≤ 9223372036854775807 := by rw [← hm]; omega
        have m5' : a % b ≤ (b.natAbs : Int) := by rw [← hm]; omega
        have h0' : ¬ a % b < 0 := by omega
        by_cases hr : a.tmod b = 0
        · have hrt : (a % b != 0) = false := by rw [← hm, hr]; rfl
          have hfin := mod_keep (a := a) hb0 (Or.inl hr)
          rw [hfin, hm]
          clear hfin hr hb1 hm m1 m2 m3
          go_enter Tryd.func15, Tryd.ntmps15
          go_wp2
          go_ret2
          exact ⟨rfl, rfl⟩
        · have hrt : (a % b != 0) = true := by rw [bne_iff_ne, ← hm]; exact hr
          by_cases h1 : 0 < b
          · have hfin := mod_keep (a := a) hb0 (Or.inr (by omega))
            have h1' : ¬ b < 0 := by omega
            rw [hfin, hm]
            clear hfin hr hb1 hm m1 m2 m3
            go_enter Tryd.func15, Tryd.ntmps15
            go_wp2
            go_ret2
            exact ⟨rfl, rfl⟩
          · have hfin := mod_up hb0 hr (by omega)
            have h1' : b < 0 := by omega
            rw [hfin, hm]
            clear hfin hr hb1 hm m1 m2 m3
            go_enter Tryd.func15, Tryd.ntmps15
            go_wp2
            go_ret2
            exact ⟨rfl, rfl⟩
      · have m4 : a.tmod b ≤ 0 := m2 (by omega)
        have m5 : -9223372036854775808 ≤ a.tmod b := by omega
        by_cases hr : a.tmod b = 0
        · have hrt : (a.tmod b != 0) = false := by rw [hr]; rfl
          have hfin := mod_keep (a := a) hb0 (Or.inl hr)
          rw [hfin]
          clear hfin hr hb1 m1 m2 m3
          go_enter Tryd.func15, Tryd.ntmps15
          go_wp2
          go_ret2
          exact ⟨rfl, rfl⟩
        · have hrt : (a.tmod b != 0) = true := by rw [bne_iff_ne]; exact hr
          have h0' : a.tmod b < 0 := by omega
          by_cases h1 : 0 < b
          · have hfin := mod_up hb0 hr (by omega)
            have h1' : ¬ b < 0 := by omega
            have m6 : -9223372036854775808 ≤ a.tmod b + b := by omega
            have m7 : a.tmod b + b ≤ 9223372036854775807 := by omega
            rw [hfin]
            clear hfin hr hb1 m1 m2 m3
            go_enter Tryd.func15, Tryd.ntmps15
            go_wp2
            go_ret2
            exact ⟨rfl, rfl⟩
          · have hfin := mod_keep (a := a) hb0 (Or.inr (by omega))
            have h1' : b < 0 := by omega
            rw [hfin]
            clear hfin hr hb1 m1 m2 m3
            go_enter Tryd.func15, Tryd.ntmps15
            go_wp2
            go_ret2
            exact ⟨rfl, rfl⟩
theorem u64_neg (a : Int) (h1 : -9223372036854775808 ≤ a) (h2 : a < 0) : IntKind.u64.wrap (0 - IntKind.u64.wrap a) = (a.natAbs : Int) := by
  simp only [IntKind.wrap, IntKind.signed, IntKind.bits]
  simp
  omega
set_option maxRecDepth 100000 in
set_option maxHeartbeats 400000 in
theorem Rsize_any (a : Int) (w : World) (ha1 : -9223372036854775808 ≤ a) (ha2 : a ≤ 9223372036854775807) :
    Calls Tryd.prog 29 #[.int .i64 a] w fun e w' => e = .returned (.int .u64 (a.natAbs : Int)) ∧ w = w' := by
  by_cases hn : a < 0
  · obtain ⟨u, hu⟩ : ∃ u, IntKind.u64.wrap a = u := ⟨_, rfl⟩
    have hm := u64_neg a ha1 hn
    rw [hu, Int.zero_sub] at hm
    obtain ⟨m, hm2⟩ : ∃ m : Int, (a.natAbs : Int) = m := ⟨_, rfl⟩
    rw [hm2] at hm ⊢
    clear hm2
    go_enter Tryd.func29, Tryd.ntmps29
    go_wp2
    go_ret
    exact ⟨rfl, rfl⟩
  · have hm : (a.natAbs : Int) = a := by omega
    rw [hm]
    clear hm
    have h0 : 0 ≤ a := by omega
    have hu : IntKind.u64.wrap a = a := by
      simp only [IntKind.wrap, IntKind.signed, IntKind.bits]
      simp
      omega
    go_enter Tryd.func29, Tryd.ntmps29
    go_wp2
    go_ret
    exact ⟨rfl, rfl⟩

theorem mul_lim1 {a b : Int} (hb : b ≠ 0) (hs : a < 0 ↔ b < 0) : fits (a * b) = true ↔ ¬ (9223372036854775807 / (b.natAbs : Int) < (a.natAbs : Int)) := by
  have e : a * b = (a.natAbs : Int) * (b.natAbs : Int) := by
    by_cases h : a < 0
    · have h2 := hs.1 h
      rw [show (a.natAbs : Int) = -a by omega, show (b.natAbs : Int) = -b by omega, Int.neg_mul_neg]
    · rw [show (a.natAbs : Int) = a by omega, show (b.natAbs : Int) = b by omega]
  have hb' : (0 : Int) < (b.natAbs : Int) := by omega
  have h1 := Int.le_ediv_iff_mul_le (a := (a.natAbs : Int)) (b := 9223372036854775807) hb'
  have h0 : 0 ≤ (a.natAbs : Int) * (b.natAbs : Int) := Int.mul_nonneg (by omega) (by omega)
  rw [fits_iff, e]
  omega
theorem mul_lim2 {a b : Int} (hb : b ≠ 0) (hs : ¬ (a < 0 ↔ b < 0)) : fits (a * b) = true ↔ ¬ (9223372036854775808 / (b.natAbs : Int) < (a.natAbs : Int)) := by
  have e : a * b = -((a.natAbs : Int) * (b.natAbs : Int)) := by
    by_cases h : a < 0
    · rw [show (a.natAbs : Int) = -a by omega, show (b.natAbs : Int) = b by omega, Int.neg_mul, Int.neg_neg]
    · rw [show (a.natAbs : Int) = a by omega, show (b.natAbs : Int) = -b by omega, Int.mul_neg, Int.neg_neg]
  have hb' : (0 : Int) < (b.natAbs : Int) := by omega
  have h1 := Int.le_ediv_iff_mul_le (a := (a.natAbs : Int)) (b := 9223372036854775808) hb'
  have h0 : 0 ≤ (a.natAbs : Int) * (b.natAbs : Int) := Int.mul_nonneg (by omega) (by omega)
  rw [fits_iff, e]
  omega
set_option maxRecDepth 100000 in
set_option maxHeartbeats 400000 in
theorem RMul_any (a b : Int) (w : World) (ha1 : -9223372036854775808 ≤ a) (ha2 : a ≤ 9223372036854775807) (hb1 : -9223372036854775808 ≤ b) (hb2 : b ≤ 9223372036854775807) :
    Calls Tryd.prog 27 #[.int .i64 a, .int .i64 b] w fun e w' => e = .returned (.tuple #[.int .i64 (mulS a b).1, .int .i64 (mulS a b).2]) ∧ w = w' := by
  by_cases hz : a = 0
  · subst hz
    rw [mul_zero1]
    go_enter Tryd.func27, Tryd.ntmps27
    go_wp2
    go_ret2
    exact ⟨rfl, rfl⟩
  have hz' : (a == 0) = false := by rw [beq_eq_false_iff_ne]; exact hz
  by_cases hb0 : b = 0
  · subst hb0
    rw [mul_zero2]
    clear hz
    go_enter Tryd.func27, Tryd.ntmps27
    go_wp2
    go_ret2
    exact ⟨rfl, rfl⟩
  have hb0' : (b == 0) = false := by rw [beq_eq_false_iff_ne]; exact hb0
  obtain ⟨x, hx⟩ : ∃ x : Int, (a.natAbs : Int) = x := ⟨_, rfl⟩
  obtain ⟨y, hy⟩ : ∃ y : Int, (b.natAbs : Int) = y := ⟨_, rfl⟩
  have hx0 : 0 ≤ x := by omega
  have hy0 : 1 ≤ y := by omega
  have hx1 : x ≤ 9223372036854775808 := by omega
  have hy1 : y ≤ 9223372036854775808 := by omega
  have hyn : ¬ y = 0 := by omega
  by_cases ha : a < 0
  · by_cases hb : b < 0
    · skip
      by_cases hf : fits (a * b) = true
      · have hfin := mul_ok hf
        rw [hfin]
        have hl := (mul_lim1 hb0 (by omega)).1 hf
        rw [hx, hy] at hl
        have hw : wrap64 (a * b) = a * b := IntWalk.wrap64_in _ ((fits_iff _).1 hf)
        obtain ⟨f1, f2⟩ := (fits_iff _).1 hf
        have HX := Lib.hid hx; clear hx
        have HY := Lib.hid hy; clear hy
        clear hf hfin
        go_enter Tryd.func27, Tryd.ntmps27
        go_wp2_with (go_at_call 29; refine (Rsize_any _ _ (by assumption) (by assumption)).mono ?_; (first | rw [HX.out] | rw [HY.out]); rintro e w' ⟨rfl, rfl⟩)
        go_ret2
        exact ⟨rfl, rfl⟩
      · have hfin := mul_no (a := a) (b := b) (by simpa using hf)
        rw [hfin]
        have hl : 9223372036854775807 / y < x := by
          have := fun h => hf ((mul_lim1 hb0 (by omega)).2 h)
          rw [hx, hy] at this
          exact Decidable.not_not.1 this
        have HX := Lib.hid hx; clear hx
        have HY := Lib.hid hy; clear hy
        clear hf hfin
        go_enter Tryd.func27, Tryd.ntmps27
        go_wp2_with (go_at_call 29; refine (Rsize_any _ _ (by assumption) (by assumption)).mono ?_; (first | rw [HX.out] | rw [HY.out]); rintro e w' ⟨rfl, rfl⟩)
        go_ret2
        exact ⟨rfl, rfl⟩
    · skip
      by_cases hf : fits (a * b) = true
      · have hfin := mul_ok hf
        rw [hfin]
        have hl := (mul_lim2 hb0 (by omega)).1 hf
        rw [hx, hy] at hl
        have hw : wrap64 (a * b) = a * b := IntWalk.wrap64_in _ ((fits_iff _).1 hf)
        obtain ⟨f1, f2⟩ := (fits_iff _).1 hf
        have HX := Lib.hid hx; clear hx
        have HY := Lib.hid hy; clear hy
        clear hf hfin
        go_enter Tryd.func27, Tryd.ntmps27
        go_wp2_with (go_at_call 29; refine (Rsize_any _ _ (by assumption) (by assumption)).mono ?_; (first | rw [HX.out] | rw [HY.out]); rintro e w' ⟨rfl, rfl⟩)
        go_ret2
        exact ⟨rfl, rfl⟩
      · have hfin := mul_no (a := a) (b := b) (by simpa using hf)
        rw [hfin]
        have hl : 9223372036854775808 / y < x := by
          have := fun h => hf ((mul_lim2 hb0 (by omega)).2 h)
          rw [hx, hy] at this
          exact Decidable.not_not.1 this
        have HX := Lib.hid hx; clear hx
        have HY := Lib.hid hy; clear hy
        clear hf hfin
        go_enter Tryd.func27, Tryd.ntmps27
        go_wp2_with (go_at_call 29; refine (Rsize_any _ _ (by assumption) (by assumption)).mono ?_; (first | rw [HX.out] | rw [HY.out]); rintro e w' ⟨rfl, rfl⟩)
        go_ret2
        exact ⟨rfl, rfl⟩
  · by_cases hb : b < 0
    · skip
      by_cases hf : fits (a * b) = true
      · have hfin := mul_ok hf
        rw [hfin]
        have hl := (mul_lim2 hb0 (by omega)).1 hf
        rw [hx, hy] at hl
        have hw : wrap64 (a * b) = a * b := IntWalk.wrap64_in _ ((fits_iff _).1 hf)
        obtain ⟨f1, f2⟩ := (fits_iff _).1 hf
        have HX := Lib.hid hx; clear hx
        have HY := Lib.hid hy; clear hy
        clear hf hfin
        go_enter Tryd.func27, Tryd.ntmps27
        go_wp2_with (go_at_call 29; refine (Rsize_any _ _ (by assumption) (by assumption)).mono ?_; (first | rw [HX.out] | rw [HY.out]); rintro e w' ⟨rfl, rfl⟩)
        go_ret2
        exact ⟨rfl, rfl⟩
      · have hfin := mul_no (a := a) (b := b) (by simpa using hf)
        rw [hfin]
        have hl : 9223372036854775808 / y < x := by
          have := fun h => hf ((mul_lim2 hb0 (by omega)).2 h)
          rw [hx, hy] at this
          exact Decidable.not_not.1 this
        have HX := Lib.hid hx; clear hx
        have HY := Lib.hid hy; clear hy
        clear hf hfin
        go_enter Tryd.func27, Tryd.ntmps27
        go_wp2_with (go_at_call 29; refine (Rsize_any _ _ (by assumption) (by assumption)).mono ?_; (first | rw [HX.out] | rw [HY.out]); rintro e w' ⟨rfl, rfl⟩)
        go_ret2
        exact ⟨rfl, rfl⟩
    · skip
      by_cases hf : fits (a * b) = true
      · have hfin := mul_ok hf
        rw [hfin]
        have hl := (mul_lim1 hb0 (by omega)).1 hf
        rw [hx, hy] at hl
        have hw : wrap64 (a * b) = a * b := IntWalk.wrap64_in _ ((fits_iff _).1 hf)
        obtain ⟨f1, f2⟩ := (fits_iff _).1 hf
        have HX := Lib.hid hx; clear hx
        have HY := Lib.hid hy; clear hy
        clear hf hfin
        go_enter Tryd.func27, Tryd.ntmps27
        go_wp2_with (go_at_call 29; refine (Rsize_any _ _ (by assumption) (by assumption)).mono ?_; (first | rw [HX.out] | rw [HY.out]); rintro e w' ⟨rfl, rfl⟩)
        go_ret2
        exact ⟨rfl, rfl⟩
      · have hfin := mul_no (a := a) (b := b) (by simpa using hf)
        rw [hfin]
        have hl : 9223372036854775807 / y < x := by
          have := fun h => hf ((mul_lim1 hb0 (by omega)).2 h)
          rw [hx, hy] at this
          exact Decidable.not_not.1 this
        have HX := Lib.hid hx; clear hx
        have HY := Lib.hid hy; clear hy
        clear hf hfin
        go_enter Tryd.func27, Tryd.ntmps27
        go_wp2_with (go_at_call 29; refine (Rsize_any _ _ (by assumption) (by assumption)).mono ?_; (first | rw [HX.out] | rw [HY.out]); rintro e w' ⟨rfl, rfl⟩)
        go_ret2
        exact ⟨rfl, rfl⟩
end Go.Proofs.YtmcenojiapjcoaaDoor
