/- The walks of two laws of layer 1 (num): division, and the laws of arithmetic. The library's variables are as the program's start lays them (Laid). -/
import Derived.Test.YtmcenojiapjcoaaDoorNumLaw
namespace Go.Proofs.YtmcenojiapjcoaaDoor
open Go.RowKit

theorem u64_eq (x : Int) : IntKind.u64.wrap x = x % 18446744073709551616 := by
  simp only [IntKind.wrap, IntKind.signed, IntKind.bits]
  simp
theorem u64_id {x : Int} (h0 : 0 ≤ x) (h1 : x ≤ 9223372036854775807) : IntKind.u64.wrap x = x := by rw [u64_eq]; omega
theorem u64_sum {a b q r : Int} (h : a = b * q + r) : IntKind.u64.wrap (IntKind.u64.wrap (IntKind.u64.wrap b * IntKind.u64.wrap q) + IntKind.u64.wrap r) = IntKind.u64.wrap a := by
  rw [u64_eq b, u64_eq q, u64_eq r, u64_eq a, u64_eq (_ * _), u64_eq (_ + _), ← Int.mul_emod, ← Int.add_emod, ← h]
theorem fdiv_same {a b : Int} (hb : b ≠ 0) (hs : a < 0 ↔ b < 0) : 0 ≤ a.fdiv b := by
  rw [fdiv_eq a b hb, if_neg (fun h => h.2 hs), Int.sub_zero]
  by_cases h : b < 0
  · have := Int.tdiv_nonneg (a := -a) (b := -b) (by omega) (by omega)
    rwa [Int.neg_tdiv_neg] at this
  · exact Int.tdiv_nonneg (by omega) (by omega)
theorem fdiv_opp {a b : Int} (hb : b ≠ 0) (ha : a ≠ 0) (hs : ¬ (a < 0 ↔ b < 0)) : a.fdiv b < 0 := by
  have h1 : a.tdiv b ≤ 0 := by
    by_cases h : b < 0
    · have := Int.tdiv_nonneg (a := a) (b := -b) (by omega) (by omega)
      rw [Int.tdiv_neg] at this; omega
    · have := Int.tdiv_nonneg (a := -a) (b := b) (by omega) (by omega)
      rw [Int.neg_tdiv] at this; omega
  rw [fdiv_eq a b hb]
  by_cases hr : a.tmod b = 0
  · rw [if_neg (fun h => h.1 hr), Int.sub_zero]
    have h2 := Int.mul_tdiv_add_tmod a b
    rw [hr, Int.add_zero] at h2
    have h3 : a.tdiv b ≠ 0 := by intro h; rw [h, Int.mul_zero] at h2; exact ha h2.symm
    omega
  · rw [if_pos ⟨hr, hs⟩]; omega
theorem div_fits {a b : Int} (ha1 : -9223372036854775808 ≤ a) (ha2 : a ≤ 9223372036854775807) (hb0 : b ≠ 0) (h : ¬ (b = -1 ∧ a = -9223372036854775808)) : fits (a.fdiv b) = true := by
  by_cases hb1 : b = -1
  · subst hb1
    have := div_neg1 a
    have e : a.fdiv (-1) = -a := by rw [fdiv_eq a (-1) (by decide)]; simp
    rw [e]; exact fits_mk (by omega) (by omega)
  · have h2 := tdiv_bd a b ha1 ha2 hb0 hb1
    rw [fdiv_eq a b hb0]
    split
    · rename_i hc
      exact fits_mk (tdiv_bd2 a b ha1 ha2 hb0 hb1 hc.1) (by omega)
    · rw [Int.sub_zero]; exact fits_mk h2.1 h2.2
theorem wrap_min : wrap64 9223372036854775808 = -9223372036854775808 := by unfold wrap64; omega
set_option maxRecDepth 100000 in
set_option maxHeartbeats 2000000 in
theorem div_zero (a b : Int) (a1 : -9223372036854775808 ≤ a) (a2 : a ≤ 9223372036854775807) (b1 : -9223372036854775808 ≤ b) (b2 : b ≤ 9223372036854775807) (h : b = 0) (w : World) (hL : Laid w) :
    Calls Tryd.prog 3 #[.int .i64 a, .int .i64 b] w fun e w' => e = .returned (.bool true) ∧ Below w.heap.size w w' := by
  have HD := Lib.hid (show divS a b = (0, 4) by unfold divS; rw [if_pos h])
  have HM := Lib.hid (show modS a b = (0, 4) by unfold modS; rw [if_pos h])
  have hz : (b == 0) = true := by rw [h]; rfl
  clear h
  go_enter Tryd.func3, Tryd.ntmps3
  go_wp2_with fail
  refine (Div_any a b _ a1 a2 b1 b2).mono ?_
  rw [HD.out]; rintro e w' ⟨rfl, rfl⟩
  go_wp2_with fail
  refine (Mod_any a b _ a1 a2 b1 b2).mono ?_
  rw [HM.out]; rintro e w' ⟨rfl, rfl⟩
  go_wp2_with (go_at_call 13; refine (lives_any _ hL).mono ?_; rintro e w5 ⟨rfl, hb⟩)
  go_ret
  exact ⟨rfl, hb⟩
set_option maxRecDepth 100000 in
set_option maxHeartbeats 2000000 in
theorem div_over (w : World) (hL : Laid w) :
    Calls Tryd.prog 3 #[.int .i64 (-9223372036854775808), .int .i64 (-1)] w fun e w' => e = .returned (.bool true) ∧ Below w.heap.size w w' := by
  have HD := Lib.hid (show divS (-9223372036854775808) (-1) = (0, 3) by decide +kernel)
  have HM := Lib.hid (show modS (-9223372036854775808) (-1) = (0, 0) by decide +kernel)
  have hwm := wrap_min
  go_enter Tryd.func3, Tryd.ntmps3
  go_wp2_with fail
  refine (Div_any (-9223372036854775808) (-1) _ (by omega) (by omega) (by omega) (by omega)).mono ?_
  rw [HD.out]; rintro e w' ⟨rfl, rfl⟩
  go_wp2_with fail
  refine (Mod_any (-9223372036854775808) (-1) _ (by omega) (by omega) (by omega) (by omega)).mono ?_
  rw [HM.out]; rintro e w' ⟨rfl, rfl⟩
  go_wp2_with (go_at_call 13; refine (lives_any _ hL).mono ?_; rintro e w5 ⟨rfl, hb⟩)
  go_ret
  exact ⟨rfl, hb⟩
set_option maxRecDepth 100000 in
set_option maxHeartbeats 2000000 in
theorem div_zp (a b : Int) (a1 : -9223372036854775808 ≤ a) (a2 : a ≤ 9223372036854775807) (b1 : -9223372036854775808 ≤ b) (b2 : b ≤ 9223372036854775807) (ha : a = 0) (hb0 : 0 < b) (hno : ¬ (b = -1 ∧ a = -9223372036854775808)) (w : World) (hL : Laid w) :
    Calls Tryd.prog 3 #[.int .i64 a, .int .i64 b] w fun e w' => e = .returned (.bool true) ∧ Below w.heap.size w w' := by
  have hbn : b ≠ 0 := by omega
  have hfit := div_fits a1 a2 hbn hno
  obtain ⟨q1, q2⟩ := (fits_iff _).1 hfit
  have hr := fmod_range a b hbn
  have heq := divides a b
  have hsum := u64_sum heq
  have hq0 : a.fdiv b = 0 := by rw [ha, Int.zero_fdiv]
  have HD := Lib.hid (show divS a b = (a.fdiv b, 0) by unfold divS; rw [if_neg hbn, if_pos hfit])
  have HM := Lib.hid (show modS a b = (a.fmod b, 0) by unfold modS; rw [if_neg hbn])
  obtain ⟨q, hq⟩ : ∃ q, a.fdiv b = q := ⟨_, rfl⟩
  obtain ⟨r, hrr⟩ : ∃ r, a.fmod b = r := ⟨_, rfl⟩
  rw [hq] at q1 q2 hq0 hsum HD heq
  rw [hrr] at hr hsum HM heq
  clear hq hrr hfit hno
  have hbz : (b == 0) = false := by rw [beq_eq_false_iff_ne]; exact hbn
  have r1 : 0 ≤ r := by have := hr.1 (by omega); omega
  have r2 : r < b := by have := hr.1 (by omega); omega
  clear hr
  subst ha
  subst hq0
  have hr0 : r = 0 := by rw [Int.mul_zero, Int.zero_add] at heq; exact heq.symm
  subst hr0
  obtain ⟨B, hB⟩ : ∃ B, IntKind.u64.wrap b = B := ⟨_, rfl⟩
  clear hsum heq hbn
  go_enter Tryd.func3, Tryd.ntmps3
  go_wp2_with fail
  refine (Div_any 0 b _ a1 a2 b1 b2).mono ?_
  rw [HD.out]; rintro e w' ⟨rfl, rfl⟩
  go_wp2_with fail
  refine (Mod_any 0 b _ a1 a2 b1 b2).mono ?_
  rw [HM.out]; rintro e w' ⟨rfl, rfl⟩
  go_wp2_with (go_at_call 13; refine (lives_any _ hL).mono ?_; rintro e w5 ⟨rfl, hb⟩)
  go_ret
  exact ⟨rfl, hb⟩
set_option maxRecDepth 100000 in
set_option maxHeartbeats 2000000 in
theorem div_zn (a b : Int) (a1 : -9223372036854775808 ≤ a) (a2 : a ≤ 9223372036854775807) (b1 : -9223372036854775808 ≤ b) (b2 : b ≤ 9223372036854775807) (ha : a = 0) (hb0 : b < 0) (hno : ¬ (b = -1 ∧ a = -9223372036854775808)) (w : World) (hL : Laid w) :
    Calls Tryd.prog 3 #[.int .i64 a, .int .i64 b] w fun e w' => e = .returned (.bool true) ∧ Below w.heap.size w w' := by
  have hbn : b ≠ 0 := by omega
  have hfit := div_fits a1 a2 hbn hno
  obtain ⟨q1, q2⟩ := (fits_iff _).1 hfit
  have hr := fmod_range a b hbn
  have heq := divides a b
  have hsum := u64_sum heq
  have hq0 : a.fdiv b = 0 := by rw [ha, Int.zero_fdiv]
  have HD := Lib.hid (show divS a b = (a.fdiv b, 0) by unfold divS; rw [if_neg hbn, if_pos hfit])
  have HM := Lib.hid (show modS a b = (a.fmod b, 0) by unfold modS; rw [if_neg hbn])
  obtain ⟨q, hq⟩ : ∃ q, a.fdiv b = q := ⟨_, rfl⟩
  obtain ⟨r, hrr⟩ : ∃ r, a.fmod b = r := ⟨_, rfl⟩
  rw [hq] at q1 q2 hq0 hsum HD heq
  rw [hrr] at hr hsum HM heq
  clear hq hrr hfit hno
  have hbz : (b == 0) = false := by rw [beq_eq_false_iff_ne]; exact hbn
  have r1 : r ≤ 0 := by have := hr.2 (by omega); omega
  have r2 : b < r := by have := hr.2 (by omega); omega
  clear hr
  subst ha
  subst hq0
  have hr0 : r = 0 := by rw [Int.mul_zero, Int.zero_add] at heq; exact heq.symm
  subst hr0
  obtain ⟨B, hB⟩ : ∃ B, IntKind.u64.wrap b = B := ⟨_, rfl⟩
  clear hsum heq hbn
  go_enter Tryd.func3, Tryd.ntmps3
  go_wp2_with fail
  refine (Div_any 0 b _ a1 a2 b1 b2).mono ?_
  rw [HD.out]; rintro e w' ⟨rfl, rfl⟩
  go_wp2_with fail
  refine (Mod_any 0 b _ a1 a2 b1 b2).mono ?_
  rw [HM.out]; rintro e w' ⟨rfl, rfl⟩
  go_wp2_with (go_at_call 13; refine (lives_any _ hL).mono ?_; rintro e w5 ⟨rfl, hb⟩)
  go_ret
  exact ⟨rfl, hb⟩
set_option maxRecDepth 100000 in
set_option maxHeartbeats 2000000 in
theorem div_pp (a b : Int) (a1 : -9223372036854775808 ≤ a) (a2 : a ≤ 9223372036854775807) (b1 : -9223372036854775808 ≤ b) (b2 : b ≤ 9223372036854775807) (ha : 0 < a) (hb0 : 0 < b) (hno : ¬ (b = -1 ∧ a = -9223372036854775808)) (w : World) (hL : Laid w) :
    Calls Tryd.prog 3 #[.int .i64 a, .int .i64 b] w fun e w' => e = .returned (.bool true) ∧ Below w.heap.size w w' := by
  have hbn : b ≠ 0 := by omega
  have hfit := div_fits a1 a2 hbn hno
  obtain ⟨q1, q2⟩ := (fits_iff _).1 hfit
  have hr := fmod_range a b hbn
  have heq := divides a b
  have hsum := u64_sum heq
  have hq0 : 0 ≤ a.fdiv b := fdiv_same hbn (by omega)
  have HD := Lib.hid (show divS a b = (a.fdiv b, 0) by unfold divS; rw [if_neg hbn, if_pos hfit])
  have HM := Lib.hid (show modS a b = (a.fmod b, 0) by unfold modS; rw [if_neg hbn])
  obtain ⟨q, hq⟩ : ∃ q, a.fdiv b = q := ⟨_, rfl⟩
  obtain ⟨r, hrr⟩ : ∃ r, a.fmod b = r := ⟨_, rfl⟩
  rw [hq] at q1 q2 hq0 hsum HD heq
  rw [hrr] at hr hsum HM heq
  clear hq hrr hfit hno
  have hbz : (b == 0) = false := by rw [beq_eq_false_iff_ne]; exact hbn
  have r1 : 0 ≤ r := by have := hr.1 (by omega); omega
  have r2 : r < b := by have := hr.1 (by omega); omega
  clear hr
  have haz : (a == 0) = false := by rw [beq_eq_false_iff_ne]; omega
  rw [u64_id (x := b) (by omega) b2, u64_id (x := r) (by omega) (by omega)] at hsum
  rw [u64_id (x := a) (by omega) a2] at hsum
  rw [u64_id (x := q) (by omega) q2] at hsum
  obtain ⟨P1, hP⟩ : ∃ P1, IntKind.u64.wrap (b * q) = P1 := ⟨_, rfl⟩
  rw [hP] at hsum
  clear heq hbn
  have hqd : decide (0 ≤ q) = true := by rw [decide_eq_true_iff]; omega
  have had : decide (a < 0) = false := by rw [decide_eq_false_iff_not]; omega
  go_enter Tryd.func3, Tryd.ntmps3
  go_wp2_with fail
  refine (Div_any a b _ a1 a2 b1 b2).mono ?_
  rw [HD.out]; rintro e w' ⟨rfl, rfl⟩
  go_wp2_with fail
  refine (Mod_any a b _ a1 a2 b1 b2).mono ?_
  rw [HM.out]; rintro e w' ⟨rfl, rfl⟩
  go_wp2_with (go_at_call 13; refine (lives_any _ hL).mono ?_; rintro e w5 ⟨rfl, hb⟩)
  go_ret
  exact ⟨rfl, hb⟩
set_option maxRecDepth 100000 in
set_option maxHeartbeats 2000000 in
theorem div_pn (a b : Int) (a1 : -9223372036854775808 ≤ a) (a2 : a ≤ 9223372036854775807) (b1 : -9223372036854775808 ≤ b) (b2 : b ≤ 9223372036854775807) (ha : 0 < a) (hb0 : b < 0) (hno : ¬ (b = -1 ∧ a = -9223372036854775808)) (w : World) (hL : Laid w) :
    Calls Tryd.prog 3 #[.int .i64 a, .int .i64 b] w fun e w' => e = .returned (.bool true) ∧ Below w.heap.size w w' := by
  have hbn : b ≠ 0 := by omega
  have hfit := div_fits a1 a2 hbn hno
  obtain ⟨q1, q2⟩ := (fits_iff _).1 hfit
  have hr := fmod_range a b hbn
  have heq := divides a b
  have hsum := u64_sum heq
  have hq0 : a.fdiv b < 0 := fdiv_opp hbn (by omega) (by omega)
  have HD := Lib.hid (show divS a b = (a.fdiv b, 0) by unfold divS; rw [if_neg hbn, if_pos hfit])
  have HM := Lib.hid (show modS a b = (a.fmod b, 0) by unfold modS; rw [if_neg hbn])
  obtain ⟨q, hq⟩ : ∃ q, a.fdiv b = q := ⟨_, rfl⟩
  obtain ⟨r, hrr⟩ : ∃ r, a.fmod b = r := ⟨_, rfl⟩
  rw [hq] at q1 q2 hq0 hsum HD heq
  rw [hrr] at hr hsum HM heq
  clear hq hrr hfit hno
  have hbz : (b == 0) = false := by rw [beq_eq_false_iff_ne]; exact hbn
  have r1 : r ≤ 0 := by have := hr.2 (by omega); omega
  have r2 : b < r := by have := hr.2 (by omega); omega
  clear hr
  have haz : (a == 0) = false := by rw [beq_eq_false_iff_ne]; omega
  obtain ⟨B, hB⟩ : ∃ B, IntKind.u64.wrap b = B := ⟨_, rfl⟩
  obtain ⟨R, hR⟩ : ∃ R, IntKind.u64.wrap r = R := ⟨_, rfl⟩
  rw [hB, hR] at hsum
  rw [u64_id (x := a) (by omega) a2] at hsum
  obtain ⟨Q, hQ⟩ : ∃ Q, IntKind.u64.wrap q = Q := ⟨_, rfl⟩
  rw [hQ] at hsum
  have hqz : (q == 0) = false := by rw [beq_eq_false_iff_ne]; omega
  obtain ⟨P1, hP⟩ : ∃ P1, IntKind.u64.wrap (B * Q) = P1 := ⟨_, rfl⟩
  rw [hP] at hsum
  clear heq hbn
  have hqd : decide (0 ≤ q) = false := by rw [decide_eq_false_iff_not]; omega
  have had : decide (a < 0) = false := by rw [decide_eq_false_iff_not]; omega
  go_enter Tryd.func3, Tryd.ntmps3
  go_wp2_with fail
  refine (Div_any a b _ a1 a2 b1 b2).mono ?_
  rw [HD.out]; rintro e w' ⟨rfl, rfl⟩
  go_wp2_with fail
  refine (Mod_any a b _ a1 a2 b1 b2).mono ?_
  rw [HM.out]; rintro e w' ⟨rfl, rfl⟩
  go_wp2_with (go_at_call 13; refine (lives_any _ hL).mono ?_; rintro e w5 ⟨rfl, hb⟩)
  go_ret
  exact ⟨rfl, hb⟩
set_option maxRecDepth 100000 in
set_option maxHeartbeats 2000000 in
theorem div_np (a b : Int) (a1 : -9223372036854775808 ≤ a) (a2 : a ≤ 9223372036854775807) (b1 : -9223372036854775808 ≤ b) (b2 : b ≤ 9223372036854775807) (ha : a < 0) (hb0 : 0 < b) (hno : ¬ (b = -1 ∧ a = -9223372036854775808)) (w : World) (hL : Laid w) :
    Calls Tryd.prog 3 #[.int .i64 a, .int .i64 b] w fun e w' => e = .returned (.bool true) ∧ Below w.heap.size w w' := by
  have hbn : b ≠ 0 := by omega
  have hfit := div_fits a1 a2 hbn hno
  obtain ⟨q1, q2⟩ := (fits_iff _).1 hfit
  have hr := fmod_range a b hbn
  have heq := divides a b
  have hsum := u64_sum heq
  have hq0 : a.fdiv b < 0 := fdiv_opp hbn (by omega) (by omega)
  have HD := Lib.hid (show divS a b = (a.fdiv b, 0) by unfold divS; rw [if_neg hbn, if_pos hfit])
  have HM := Lib.hid (show modS a b = (a.fmod b, 0) by unfold modS; rw [if_neg hbn])
  obtain ⟨q, hq⟩ : ∃ q, a.fdiv b = q := ⟨_, rfl⟩
  obtain ⟨r, hrr⟩ : ∃ r, a.fmod b = r := ⟨_, rfl⟩
  rw [hq] at q1 q2 hq0 hsum HD heq
  rw [hrr] at hr hsum HM heq
  clear hq hrr hfit hno
  have hbz : (b == 0) = false := by rw [beq_eq_false_iff_ne]; exact hbn
  have r1 : 0 ≤ r := by have := hr.1 (by omega); omega
  have r2 : r < b := by have := hr.1 (by omega); omega
  clear hr
  have haz : (a == 0) = false := by rw [beq_eq_false_iff_ne]; omega
  rw [u64_id (x := b) (by omega) b2, u64_id (x := r) (by omega) (by omega)] at hsum
  obtain ⟨A, hA⟩ : ∃ A, IntKind.u64.wrap a = A := ⟨_, rfl⟩
  rw [hA] at hsum
  obtain ⟨Q, hQ⟩ : ∃ Q, IntKind.u64.wrap q = Q := ⟨_, rfl⟩
  rw [hQ] at hsum
  have hqz : (q == 0) = false := by rw [beq_eq_false_iff_ne]; omega
  obtain ⟨P1, hP⟩ : ∃ P1, IntKind.u64.wrap (b * Q) = P1 := ⟨_, rfl⟩
  rw [hP] at hsum
  clear heq hbn
  have hqd : decide (0 ≤ q) = false := by rw [decide_eq_false_iff_not]; omega
  have had : decide (a < 0) = true := by rw [decide_eq_true_iff]; omega
  go_enter Tryd.func3, Tryd.ntmps3
  go_wp2_with fail
  refine (Div_any a b _ a1 a2 b1 b2).mono ?_
  rw [HD.out]; rintro e w' ⟨rfl, rfl⟩
  go_wp2_with fail
  refine (Mod_any a b _ a1 a2 b1 b2).mono ?_
  rw [HM.out]; rintro e w' ⟨rfl, rfl⟩
  go_wp2_with (go_at_call 13; refine (lives_any _ hL).mono ?_; rintro e w5 ⟨rfl, hb⟩)
  go_ret
  exact ⟨rfl, hb⟩
set_option maxRecDepth 100000 in
set_option maxHeartbeats 2000000 in
theorem div_nn (a b : Int) (a1 : -9223372036854775808 ≤ a) (a2 : a ≤ 9223372036854775807) (b1 : -9223372036854775808 ≤ b) (b2 : b ≤ 9223372036854775807) (ha : a < 0) (hb0 : b < 0) (hno : ¬ (b = -1 ∧ a = -9223372036854775808)) (w : World) (hL : Laid w) :
    Calls Tryd.prog 3 #[.int .i64 a, .int .i64 b] w fun e w' => e = .returned (.bool true) ∧ Below w.heap.size w w' := by
  have hbn : b ≠ 0 := by omega
  have hfit := div_fits a1 a2 hbn hno
  obtain ⟨q1, q2⟩ := (fits_iff _).1 hfit
  have hr := fmod_range a b hbn
  have heq := divides a b
  have hsum := u64_sum heq
  have hq0 : 0 ≤ a.fdiv b := fdiv_same hbn (by omega)
  have HD := Lib.hid (show divS a b = (a.fdiv b, 0) by unfold divS; rw [if_neg hbn, if_pos hfit])
  have HM := Lib.hid (show modS a b = (a.fmod b, 0) by unfold modS; rw [if_neg hbn])
  obtain ⟨q, hq⟩ : ∃ q, a.fdiv b = q := ⟨_, rfl⟩
  obtain ⟨r, hrr⟩ : ∃ r, a.fmod b = r := ⟨_, rfl⟩
  rw [hq] at q1 q2 hq0 hsum HD heq
  rw [hrr] at hr hsum HM heq
  clear hq hrr hfit hno
  have hbz : (b == 0) = false := by rw [beq_eq_false_iff_ne]; exact hbn
  have r1 : r ≤ 0 := by have := hr.2 (by omega); omega
  have r2 : b < r := by have := hr.2 (by omega); omega
  clear hr
  have haz : (a == 0) = false := by rw [beq_eq_false_iff_ne]; omega
  obtain ⟨B, hB⟩ : ∃ B, IntKind.u64.wrap b = B := ⟨_, rfl⟩
  obtain ⟨R, hR⟩ : ∃ R, IntKind.u64.wrap r = R := ⟨_, rfl⟩
  rw [hB, hR] at hsum
  obtain ⟨A, hA⟩ : ∃ A, IntKind.u64.wrap a = A := ⟨_, rfl⟩
  rw [hA] at hsum
  rw [u64_id (x := q) (by omega) q2] at hsum
  obtain ⟨P1, hP⟩ : ∃ P1, IntKind.u64.wrap (B * q) = P1 := ⟨_, rfl⟩
  rw [hP] at hsum
  clear heq hbn
  have hqd : decide (0 ≤ q) = true := by rw [decide_eq_true_iff]; omega
  have had : decide (a < 0) = true := by rw [decide_eq_true_iff]; omega
  go_enter Tryd.func3, Tryd.ntmps3
  go_wp2_with fail
  refine (Div_any a b _ a1 a2 b1 b2).mono ?_
  rw [HD.out]; rintro e w' ⟨rfl, rfl⟩
  go_wp2_with fail
  refine (Mod_any a b _ a1 a2 b1 b2).mono ?_
  rw [HM.out]; rintro e w' ⟨rfl, rfl⟩
  go_wp2_with (go_at_call 13; refine (lives_any _ hL).mono ?_; rintro e w5 ⟨rfl, hb⟩)
  go_ret
  exact ⟨rfl, hb⟩

theorem dividesLaw (a : Int) (wa : (Lit.int .i64 a).wf = true) (b : Int) (wb : (Lit.int .i64 b).wf = true) (w : World) (hL : Laid w) :
    Calls Tryd.prog 3 #[.int .i64 a, .int .i64 b] w fun e w' => e = .returned (.bool true) ∧ Below w.heap.size w w' := by
  obtain ⟨a1, a2⟩ := of_wf wa
  obtain ⟨b1, b2⟩ := of_wf wb
  by_cases hb0 : b = 0
  · exact div_zero a b a1 a2 b1 b2 hb0 w hL
  · by_cases hno : b = -1 ∧ a = -9223372036854775808
    · obtain ⟨rfl, rfl⟩ := hno
      exact div_over w hL
    · rcases Int.lt_trichotomy a 0 with ha | ha | ha
      · rcases Int.lt_or_gt_of_ne hb0 with hb | hb
        · exact div_nn a b a1 a2 b1 b2 ha hb hno w hL
        · exact div_np a b a1 a2 b1 b2 ha hb hno w hL
      · rcases Int.lt_or_gt_of_ne hb0 with hb | hb
        · exact div_zn a b a1 a2 b1 b2 ha hb hno w hL
        · exact div_zp a b a1 a2 b1 b2 ha hb hno w hL
      · rcases Int.lt_or_gt_of_ne hb0 with hb | hb
        · exact div_pn a b a1 a2 b1 b2 ha hb hno w hL
        · exact div_pp a b a1 a2 b1 b2 ha hb hno w hL

set_option maxRecDepth 100000 in
set_option maxHeartbeats 4000000 in
theorem laws_e (a b c x e u g w1 i z k s l t m d i2 : Int) (a1 : -9223372036854775808 ≤ a) (a2 : a ≤ 9223372036854775807) (b1 : -9223372036854775808 ≤ b) (b2 : b ≤ 9223372036854775807) (c1 : -9223372036854775808 ≤ c) (c2 : c ≤ 9223372036854775807)
    (x1 : -9223372036854775808 ≤ x) (x2 : x ≤ 9223372036854775807) (y1 : -9223372036854775808 ≤ w1) (y2 : w1 ≤ 9223372036854775807) (z1 : -9223372036854775808 ≤ z) (z2 : z ≤ 9223372036854775807)
    (HA : Hid (addS a b = (x, e))) (HA2 : Hid (addS b a = (x, e))) (HM : Hid (mulS a b = (u, g))) (HM2 : Hid (mulS b a = (u, g))) (HS : Hid (subS x b = (d, i2))) (HW : Hid (mulS a c = (w1, i))) (HZ : Hid (mulS b c = (z, k))) (HP : Hid (addS w1 z = (s, l))) (HT : Hid (mulS x c = (t, m)))
    (he : (e != 0) = true) (w : World) (hL : Laid w) :
    Calls Tryd.prog 10 #[.int .i64 a, .int .i64 b, .int .i64 c] w fun e w' => e = .returned (.bool true) ∧ Below w.heap.size w w' := by
  have he0 : (e == 0) = false := by rw [bne_iff_ne] at he; rw [beq_eq_false_iff_ne]; exact he
  go_enter Tryd.func10, Tryd.ntmps10
  go_wp2_with fail
  refine (Add_any a b _ a1 a2 b1 b2).mono ?_
  rw [HA.out]; rintro e w' ⟨rfl, rfl⟩
  go_wp2_with fail
  refine (Add_any b a _ b1 b2 a1 a2).mono ?_
  rw [HA2.out]; rintro e w' ⟨rfl, rfl⟩
  go_wp2_with fail
  refine (Mul_any a b _ a1 a2 b1 b2).mono ?_
  rw [HM.out]; rintro e w' ⟨rfl, rfl⟩
  go_wp2_with fail
  refine (Mul_any b a _ b1 b2 a1 a2).mono ?_
  rw [HM2.out]; rintro e w' ⟨rfl, rfl⟩
  go_wp2_with fail
  refine (Sub_any x b _ x1 x2 b1 b2).mono ?_
  rw [HS.out]; rintro e w' ⟨rfl, rfl⟩
  go_wp2_with fail
  refine (Mul_any a c _ a1 a2 c1 c2).mono ?_
  rw [HW.out]; rintro e w' ⟨rfl, rfl⟩
  go_wp2_with fail
  refine (Mul_any b c _ b1 b2 c1 c2).mono ?_
  rw [HZ.out]; rintro e w' ⟨rfl, rfl⟩
  go_wp2_with fail
  refine (Add_any w1 z _ y1 y2 z1 z2).mono ?_
  rw [HP.out]; rintro e w' ⟨rfl, rfl⟩
  go_wp2_with fail
  refine (Mul_any x c _ x1 x2 c1 c2).mono ?_
  rw [HT.out]; rintro e w' ⟨rfl, rfl⟩
  go_wp2_with (go_at_call 13; refine (lives_any _ hL).mono ?_; rintro e w5 ⟨rfl, hb⟩)
  go_ret
  exact ⟨rfl, hb⟩

set_option maxRecDepth 100000 in
set_option maxHeartbeats 4000000 in
theorem laws_i (a b c x e u g w1 i z k s l t m d i2 : Int) (a1 : -9223372036854775808 ≤ a) (a2 : a ≤ 9223372036854775807) (b1 : -9223372036854775808 ≤ b) (b2 : b ≤ 9223372036854775807) (c1 : -9223372036854775808 ≤ c) (c2 : c ≤ 9223372036854775807)
    (x1 : -9223372036854775808 ≤ x) (x2 : x ≤ 9223372036854775807) (y1 : -9223372036854775808 ≤ w1) (y2 : w1 ≤ 9223372036854775807) (z1 : -9223372036854775808 ≤ z) (z2 : z ≤ 9223372036854775807)
    (HA : Hid (addS a b = (x, e))) (HA2 : Hid (addS b a = (x, e))) (HM : Hid (mulS a b = (u, g))) (HM2 : Hid (mulS b a = (u, g))) (HS : Hid (subS x b = (d, i2))) (HW : Hid (mulS a c = (w1, i))) (HZ : Hid (mulS b c = (z, k))) (HP : Hid (addS w1 z = (s, l))) (HT : Hid (mulS x c = (t, m)))
    (he : e = 0) (hd : d = a) (hi2 : i2 = 0) (hi : (i != 0) = true) (w : World) (hL : Laid w) :
    Calls Tryd.prog 10 #[.int .i64 a, .int .i64 b, .int .i64 c] w fun e w' => e = .returned (.bool true) ∧ Below w.heap.size w w' := by
  subst he
  have hdd := hd.symm; clear hd; subst hdd
  subst hi2
  go_enter Tryd.func10, Tryd.ntmps10
  go_wp2_with fail
  refine (Add_any a b _ a1 a2 b1 b2).mono ?_
  rw [HA.out]; rintro e w' ⟨rfl, rfl⟩
  go_wp2_with fail
  refine (Add_any b a _ b1 b2 a1 a2).mono ?_
  rw [HA2.out]; rintro e w' ⟨rfl, rfl⟩
  go_wp2_with fail
  refine (Mul_any a b _ a1 a2 b1 b2).mono ?_
  rw [HM.out]; rintro e w' ⟨rfl, rfl⟩
  go_wp2_with fail
  refine (Mul_any b a _ b1 b2 a1 a2).mono ?_
  rw [HM2.out]; rintro e w' ⟨rfl, rfl⟩
  go_wp2_with fail
  refine (Sub_any x b _ x1 x2 b1 b2).mono ?_
  rw [HS.out]; rintro e w' ⟨rfl, rfl⟩
  go_wp2_with fail
  refine (Mul_any a c _ a1 a2 c1 c2).mono ?_
  rw [HW.out]; rintro e w' ⟨rfl, rfl⟩
  go_wp2_with fail
  refine (Mul_any b c _ b1 b2 c1 c2).mono ?_
  rw [HZ.out]; rintro e w' ⟨rfl, rfl⟩
  go_wp2_with fail
  refine (Add_any w1 z _ y1 y2 z1 z2).mono ?_
  rw [HP.out]; rintro e w' ⟨rfl, rfl⟩
  go_wp2_with fail
  refine (Mul_any x c _ x1 x2 c1 c2).mono ?_
  rw [HT.out]; rintro e w' ⟨rfl, rfl⟩
  go_wp2_with (go_at_call 13; refine (lives_any _ hL).mono ?_; rintro e w5 ⟨rfl, hb⟩)
  go_ret
  exact ⟨rfl, hb⟩

set_option maxRecDepth 100000 in
set_option maxHeartbeats 4000000 in
theorem laws_k (a b c x e u g w1 i z k s l t m d i2 : Int) (a1 : -9223372036854775808 ≤ a) (a2 : a ≤ 9223372036854775807) (b1 : -9223372036854775808 ≤ b) (b2 : b ≤ 9223372036854775807) (c1 : -9223372036854775808 ≤ c) (c2 : c ≤ 9223372036854775807)
    (x1 : -9223372036854775808 ≤ x) (x2 : x ≤ 9223372036854775807) (y1 : -9223372036854775808 ≤ w1) (y2 : w1 ≤ 9223372036854775807) (z1 : -9223372036854775808 ≤ z) (z2 : z ≤ 9223372036854775807)
    (HA : Hid (addS a b = (x, e))) (HA2 : Hid (addS b a = (x, e))) (HM : Hid (mulS a b = (u, g))) (HM2 : Hid (mulS b a = (u, g))) (HS : Hid (subS x b = (d, i2))) (HW : Hid (mulS a c = (w1, i))) (HZ : Hid (mulS b c = (z, k))) (HP : Hid (addS w1 z = (s, l))) (HT : Hid (mulS x c = (t, m)))
    (he : e = 0) (hd : d = a) (hi2 : i2 = 0) (hi : i = 0) (hk : (k != 0) = true) (w : World) (hL : Laid w) :
    Calls Tryd.prog 10 #[.int .i64 a, .int .i64 b, .int .i64 c] w fun e w' => e = .returned (.bool true) ∧ Below w.heap.size w w' := by
  subst he
  have hdd := hd.symm; clear hd; subst hdd
  subst hi2
  subst hi
  go_enter Tryd.func10, Tryd.ntmps10
  go_wp2_with fail
  refine (Add_any a b _ a1 a2 b1 b2).mono ?_
  rw [HA.out]; rintro e w' ⟨rfl, rfl⟩
  go_wp2_with fail
  refine (Add_any b a _ b1 b2 a1 a2).mono ?_
  rw [HA2.out]; rintro e w' ⟨rfl, rfl⟩
  go_wp2_with fail
  refine (Mul_any a b _ a1 a2 b1 b2).mono ?_
  rw [HM.out]; rintro e w' ⟨rfl, rfl⟩
  go_wp2_with fail
  refine (Mul_any b a _ b1 b2 a1 a2).mono ?_
  rw [HM2.out]; rintro e w' ⟨rfl, rfl⟩
  go_wp2_with fail
  refine (Sub_any x b _ x1 x2 b1 b2).mono ?_
  rw [HS.out]; rintro e w' ⟨rfl, rfl⟩
  go_wp2_with fail
  refine (Mul_any a c _ a1 a2 c1 c2).mono ?_
  rw [HW.out]; rintro e w' ⟨rfl, rfl⟩
  go_wp2_with fail
  refine (Mul_any b c _ b1 b2 c1 c2).mono ?_
  rw [HZ.out]; rintro e w' ⟨rfl, rfl⟩
  go_wp2_with fail
  refine (Add_any w1 z _ y1 y2 z1 z2).mono ?_
  rw [HP.out]; rintro e w' ⟨rfl, rfl⟩
  go_wp2_with fail
  refine (Mul_any x c _ x1 x2 c1 c2).mono ?_
  rw [HT.out]; rintro e w' ⟨rfl, rfl⟩
  go_wp2_with (go_at_call 13; refine (lives_any _ hL).mono ?_; rintro e w5 ⟨rfl, hb⟩)
  go_ret
  exact ⟨rfl, hb⟩

set_option maxRecDepth 100000 in
set_option maxHeartbeats 4000000 in
theorem laws_l (a b c x e u g w1 i z k s l t m d i2 : Int) (a1 : -9223372036854775808 ≤ a) (a2 : a ≤ 9223372036854775807) (b1 : -9223372036854775808 ≤ b) (b2 : b ≤ 9223372036854775807) (c1 : -9223372036854775808 ≤ c) (c2 : c ≤ 9223372036854775807)
    (x1 : -9223372036854775808 ≤ x) (x2 : x ≤ 9223372036854775807) (y1 : -9223372036854775808 ≤ w1) (y2 : w1 ≤ 9223372036854775807) (z1 : -9223372036854775808 ≤ z) (z2 : z ≤ 9223372036854775807)
    (HA : Hid (addS a b = (x, e))) (HA2 : Hid (addS b a = (x, e))) (HM : Hid (mulS a b = (u, g))) (HM2 : Hid (mulS b a = (u, g))) (HS : Hid (subS x b = (d, i2))) (HW : Hid (mulS a c = (w1, i))) (HZ : Hid (mulS b c = (z, k))) (HP : Hid (addS w1 z = (s, l))) (HT : Hid (mulS x c = (t, m)))
    (he : e = 0) (hd : d = a) (hi2 : i2 = 0) (hi : i = 0) (hk : k = 0) (hl : (l != 0) = true) (w : World) (hL : Laid w) :
    Calls Tryd.prog 10 #[.int .i64 a, .int .i64 b, .int .i64 c] w fun e w' => e = .returned (.bool true) ∧ Below w.heap.size w w' := by
  subst he
  have hdd := hd.symm; clear hd; subst hdd
  subst hi2
  subst hi
  subst hk
  go_enter Tryd.func10, Tryd.ntmps10
  go_wp2_with fail
  refine (Add_any a b _ a1 a2 b1 b2).mono ?_
  rw [HA.out]; rintro e w' ⟨rfl, rfl⟩
  go_wp2_with fail
  refine (Add_any b a _ b1 b2 a1 a2).mono ?_
  rw [HA2.out]; rintro e w' ⟨rfl, rfl⟩
  go_wp2_with fail
  refine (Mul_any a b _ a1 a2 b1 b2).mono ?_
  rw [HM.out]; rintro e w' ⟨rfl, rfl⟩
  go_wp2_with fail
  refine (Mul_any b a _ b1 b2 a1 a2).mono ?_
  rw [HM2.out]; rintro e w' ⟨rfl, rfl⟩
  go_wp2_with fail
  refine (Sub_any x b _ x1 x2 b1 b2).mono ?_
  rw [HS.out]; rintro e w' ⟨rfl, rfl⟩
  go_wp2_with fail
  refine (Mul_any a c _ a1 a2 c1 c2).mono ?_
  rw [HW.out]; rintro e w' ⟨rfl, rfl⟩
  go_wp2_with fail
  refine (Mul_any b c _ b1 b2 c1 c2).mono ?_
  rw [HZ.out]; rintro e w' ⟨rfl, rfl⟩
  go_wp2_with fail
  refine (Add_any w1 z _ y1 y2 z1 z2).mono ?_
  rw [HP.out]; rintro e w' ⟨rfl, rfl⟩
  go_wp2_with fail
  refine (Mul_any x c _ x1 x2 c1 c2).mono ?_
  rw [HT.out]; rintro e w' ⟨rfl, rfl⟩
  go_wp2_with (go_at_call 13; refine (lives_any _ hL).mono ?_; rintro e w5 ⟨rfl, hb⟩)
  go_ret
  exact ⟨rfl, hb⟩

set_option maxRecDepth 100000 in
set_option maxHeartbeats 4000000 in
theorem laws_m (a b c x e u g w1 i z k s l t m d i2 : Int) (a1 : -9223372036854775808 ≤ a) (a2 : a ≤ 9223372036854775807) (b1 : -9223372036854775808 ≤ b) (b2 : b ≤ 9223372036854775807) (c1 : -9223372036854775808 ≤ c) (c2 : c ≤ 9223372036854775807)
    (x1 : -9223372036854775808 ≤ x) (x2 : x ≤ 9223372036854775807) (y1 : -9223372036854775808 ≤ w1) (y2 : w1 ≤ 9223372036854775807) (z1 : -9223372036854775808 ≤ z) (z2 : z ≤ 9223372036854775807)
    (HA : Hid (addS a b = (x, e))) (HA2 : Hid (addS b a = (x, e))) (HM : Hid (mulS a b = (u, g))) (HM2 : Hid (mulS b a = (u, g))) (HS : Hid (subS x b = (d, i2))) (HW : Hid (mulS a c = (w1, i))) (HZ : Hid (mulS b c = (z, k))) (HP : Hid (addS w1 z = (s, l))) (HT : Hid (mulS x c = (t, m)))
    (he : e = 0) (hd : d = a) (hi2 : i2 = 0) (hi : i = 0) (hk : k = 0) (hl : l = 0) (hm : m = 0) (hst : s = t) (w : World) (hL : Laid w) :
    Calls Tryd.prog 10 #[.int .i64 a, .int .i64 b, .int .i64 c] w fun e w' => e = .returned (.bool true) ∧ Below w.heap.size w w' := by
  subst he
  have hdd := hd.symm; clear hd; subst hdd
  subst hi2
  subst hi
  subst hk
  subst hl
  subst hm
  subst hst
  go_enter Tryd.func10, Tryd.ntmps10
  go_wp2_with fail
  refine (Add_any a b _ a1 a2 b1 b2).mono ?_
  rw [HA.out]; rintro e w' ⟨rfl, rfl⟩
  go_wp2_with fail
  refine (Add_any b a _ b1 b2 a1 a2).mono ?_
  rw [HA2.out]; rintro e w' ⟨rfl, rfl⟩
  go_wp2_with fail
  refine (Mul_any a b _ a1 a2 b1 b2).mono ?_
  rw [HM.out]; rintro e w' ⟨rfl, rfl⟩
  go_wp2_with fail
  refine (Mul_any b a _ b1 b2 a1 a2).mono ?_
  rw [HM2.out]; rintro e w' ⟨rfl, rfl⟩
  go_wp2_with fail
  refine (Sub_any x b _ x1 x2 b1 b2).mono ?_
  rw [HS.out]; rintro e w' ⟨rfl, rfl⟩
  go_wp2_with fail
  refine (Mul_any a c _ a1 a2 c1 c2).mono ?_
  rw [HW.out]; rintro e w' ⟨rfl, rfl⟩
  go_wp2_with fail
  refine (Mul_any b c _ b1 b2 c1 c2).mono ?_
  rw [HZ.out]; rintro e w' ⟨rfl, rfl⟩
  go_wp2_with fail
  refine (Add_any w1 z _ y1 y2 z1 z2).mono ?_
  rw [HP.out]; rintro e w' ⟨rfl, rfl⟩
  go_wp2_with fail
  refine (Mul_any x c _ x1 x2 c1 c2).mono ?_
  rw [HT.out]; rintro e w' ⟨rfl, rfl⟩
  go_wp2_with (go_at_call 13; refine (lives_any _ hL).mono ?_; rintro e w5 ⟨rfl, hb⟩)
  go_ret
  exact ⟨rfl, hb⟩

theorem lawsLaw (a : Int) (wa : (Lit.int .i64 a).wf = true) (b : Int) (wb : (Lit.int .i64 b).wf = true) (c : Int) (wc : (Lit.int .i64 c).wf = true) (w : World) (hL : Laid w) :
    Calls Tryd.prog 10 #[.int .i64 a, .int .i64 b, .int .i64 c] w fun e w' => e = .returned (.bool true) ∧ Below w.heap.size w w' := by
  obtain ⟨a1, a2⟩ := of_wf wa
  obtain ⟨b1, b2⟩ := of_wf wb
  obtain ⟨c1, c2⟩ := of_wf wc
  obtain ⟨⟨x, e⟩, hx⟩ : ∃ q, addS a b = q := ⟨_, rfl⟩
  obtain ⟨⟨u, g⟩, hu⟩ : ∃ q, mulS a b = q := ⟨_, rfl⟩
  obtain ⟨⟨d, i2⟩, hs⟩ : ∃ q, subS x b = q := ⟨_, rfl⟩
  obtain ⟨⟨w1, i⟩, hw⟩ : ∃ q, mulS a c = q := ⟨_, rfl⟩
  obtain ⟨⟨z, k⟩, hz⟩ : ∃ q, mulS b c = q := ⟨_, rfl⟩
  obtain ⟨⟨s, l⟩, hp⟩ : ∃ q, addS w1 z = q := ⟨_, rfl⟩
  obtain ⟨⟨t, m⟩, ht⟩ : ∃ q, mulS x c = q := ⟨_, rfl⟩
  have hx2 : addS b a = (x, e) := by rw [← hx]; unfold addS; rw [Int.add_comm b a]
  have hu2 : mulS b a = (u, g) := by rw [← hu]; unfold mulS; rw [Int.mul_comm b a]
  have bx := addS_bd a b; rw [hx] at bx
  have bw := mulS_bd a c; rw [hw] at bw
  have bz := mulS_bd b c; rw [hz] at bz
  by_cases he : e = 0
  · have he' := he
    subst he'
    obtain ⟨hxe, _⟩ := add_inv hx
    have hsub : subS x b = (a, 0) := by
      rw [hxe]; unfold subS
      rw [show a + b - b = a by omega, if_pos (fits_mk a1 a2)]
    rw [hs] at hsub
    simp only [Prod.mk.injEq] at hsub
    obtain ⟨hd, hi2⟩ := hsub
    by_cases hi : i = 0
    · by_cases hk : k = 0
      · by_cases hl : l = 0
        · have hi' := hi; have hk' := hk; have hl' := hl
          subst hi'; subst hk'; subst hl'
          obtain ⟨hwe, _⟩ := mul_inv hw
          obtain ⟨hze, _⟩ := mul_inv hz
          obtain ⟨hse, hsf⟩ := add_inv hp
          have hte : mulS x c = (s, 0) := by
            have e1 : x * c = w1 + z := by rw [hxe, hwe, hze, Int.add_mul]
            unfold mulS
            rw [e1, if_pos hsf, ← hse]
          rw [ht] at hte
          simp only [Prod.mk.injEq] at hte
          exact laws_m a b c x 0 u g w1 0 z 0 s 0 t m d i2 a1 a2 b1 b2 c1 c2 bx.1 bx.2 bw.1 bw.2 bz.1 bz.2 (Lib.hid hx) (Lib.hid hx2) (Lib.hid hu) (Lib.hid hu2) (Lib.hid hs) (Lib.hid hw) (Lib.hid hz) (Lib.hid hp) (Lib.hid ht) rfl hd hi2 rfl rfl rfl hte.2 hte.1.symm w hL
        · exact laws_l a b c x 0 u g w1 i z k s l t m d i2 a1 a2 b1 b2 c1 c2 bx.1 bx.2 bw.1 bw.2 bz.1 bz.2 (Lib.hid hx) (Lib.hid hx2) (Lib.hid hu) (Lib.hid hu2) (Lib.hid hs) (Lib.hid hw) (Lib.hid hz) (Lib.hid hp) (Lib.hid ht) rfl hd hi2 hi hk (by rw [bne_iff_ne]; exact hl) w hL
      · exact laws_k a b c x 0 u g w1 i z k s l t m d i2 a1 a2 b1 b2 c1 c2 bx.1 bx.2 bw.1 bw.2 bz.1 bz.2 (Lib.hid hx) (Lib.hid hx2) (Lib.hid hu) (Lib.hid hu2) (Lib.hid hs) (Lib.hid hw) (Lib.hid hz) (Lib.hid hp) (Lib.hid ht) rfl hd hi2 hi (by rw [bne_iff_ne]; exact hk) w hL
    · exact laws_i a b c x 0 u g w1 i z k s l t m d i2 a1 a2 b1 b2 c1 c2 bx.1 bx.2 bw.1 bw.2 bz.1 bz.2 (Lib.hid hx) (Lib.hid hx2) (Lib.hid hu) (Lib.hid hu2) (Lib.hid hs) (Lib.hid hw) (Lib.hid hz) (Lib.hid hp) (Lib.hid ht) rfl hd hi2 (by rw [bne_iff_ne]; exact hi) w hL
  · exact laws_e a b c x e u g w1 i z k s l t m d i2 a1 a2 b1 b2 c1 c2 bx.1 bx.2 bw.1 bw.2 bz.1 bz.2 (Lib.hid hx) (Lib.hid hx2) (Lib.hid hu) (Lib.hid hu2) (Lib.hid hs) (Lib.hid hw) (Lib.hid hz) (Lib.hid hp) (Lib.hid ht) (by rw [bne_iff_ne]; exact he) w hL
end Go.Proofs.YtmcenojiapjcoaaDoor
