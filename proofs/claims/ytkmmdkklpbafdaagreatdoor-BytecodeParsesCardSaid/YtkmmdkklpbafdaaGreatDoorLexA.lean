/- The walks of layer 7's IsKeyword, letter, word, plain and of the reference's. No conditions. -/
import Derived.Test.YtkmmdkklpbafdaaGreatDoorLexP
import Derived.Laws.RangeAny
import Derived.Outline
namespace Go.Proofs.YtkmmdkklpbafdaaGreatDoor
open Go.RowKit

theorem kw_no {l : List UInt8} (h : ¬ l = [112, 114, 111, 99] ∧ ¬ l = [108, 101, 116] ∧ ¬ l = [112, 117, 116] ∧ ¬ l = [100, 101, 108, 101, 116, 101] ∧ ¬ l = [105, 102] ∧ ¬ l = [101, 108, 115, 101] ∧ ¬ l = [102, 111, 114] ∧ ¬ l = [116, 111] ∧ ¬ l = [109, 97, 120] ∧ ¬ l = [101, 109, 105, 116] ∧ ¬ l = [97, 98, 111, 114, 116] ∧ ¬ l = [110, 111, 116] ∧ ¬ l = [97, 110, 100] ∧ ¬ l = [111, 114] ∧ ¬ l = [105, 110, 116] ∧ ¬ l = [115, 116, 114] ∧ ¬ l = [98, 111, 111, 108] ∧ ¬ l = [116, 101, 120, 116] ∧ ¬ l = [108, 101, 110] ∧ ¬ l = [103, 101, 116, 105, 110, 116] ∧ ¬ l = [103, 101, 116, 115, 116, 114] ∧ ¬ l = [104, 97, 115] ∧ ¬ l = [110, 111, 119] ∧ ¬ l = [114, 97, 110, 100, 111, 109] ∧ ¬ l = [110, 111, 100, 101]) : isKw l = false := by
  unfold isKw KW; rw [decide_eq_false]; simp only [List.mem_cons, List.not_mem_nil, or_false]; simpa [not_or] using h
def ltrI (c : Int) : Bool := decide (97 ≤ c) && decide (c ≤ 122)
theorem ltrI_byte (c : UInt8) : ltrI (c.toNat : Int) = ltr c := by
  unfold ltrI ltr; congr 1 <;> (congr 1; rw [eq_iff_iff]; omega)
theorem wlen_cons (c : UInt8) (r : List UInt8) : wlen (c :: r) = if prt c = true then wlen r + 1 else 0 := by
  unfold wlen; rw [List.takeWhile_cons]; split <;> simp
theorem wlen_le (l : List UInt8) : wlen l ≤ l.length := by
  induction l with
  | nil => simp [wlen]
  | cons c r ih => rw [wlen_cons]; split <;> simp <;> omega
theorem wl_go {l : List UInt8} {k R : Nat} (h : k + wlen (l.drop k) = R) (hk : k < l.length) (hp : prt l[k] = true) : k + 1 + wlen (l.drop (k + 1)) = R := by
  rw [List.drop_eq_getElem_cons hk, wlen_cons, if_pos hp] at h; omega
theorem wl_stop {l : List UInt8} {k R : Nat} (h : k + wlen (l.drop k) = R) (hk : k < l.length) (hp : ¬ prt l[k] = true) : R = k := by
  rw [List.drop_eq_getElem_cons hk, wlen_cons, if_neg hp] at h; omega
theorem wl_end {l : List UInt8} {k R : Nat} (h : k + wlen (l.drop k) = R) (hk : ¬ k < l.length) : R = k := by
  rw [List.drop_of_length_le (by omega)] at h; simp [wlen] at h; omega

set_option maxRecDepth 100000 in
set_option maxHeartbeats 16000000 in
theorem IsKeyword_any (l : List UInt8) (w : World) :
    Calls Tryz.prog 171 #[.string (bs l)] w fun e w' => e = .returned (.bool (isKw l)) ∧ w = w' := by
  by_cases h0 : l = [112, 114, 111, 99]
  · subst h0
    have hr : isKw [112, 114, 111, 99] = true := by decide
    rw [hr]; clear hr
    go_enter Tryz.func171, Tryz.ntmps171
    go_wp2
    go_ret
    exact ⟨rfl, rfl⟩
  have t0 : (l == [112, 114, 111, 99]) = false := by rw [beq_eq_false_iff_ne]; exact h0
  by_cases h1 : l = [108, 101, 116]
  · subst h1
    have hr : isKw [108, 101, 116] = true := by decide
    rw [hr]; clear hr
    clear h0 t0
    go_enter Tryz.func171, Tryz.ntmps171
    go_wp2
    go_ret
    exact ⟨rfl, rfl⟩
  have t1 : (l == [108, 101, 116]) = false := by rw [beq_eq_false_iff_ne]; exact h1
  by_cases h2 : l = [112, 117, 116]
  · subst h2
    have hr : isKw [112, 117, 116] = true := by decide
    rw [hr]; clear hr
    clear h0 h1 t0 t1
    go_enter Tryz.func171, Tryz.ntmps171
    go_wp2
    go_ret
    exact ⟨rfl, rfl⟩
  have t2 : (l == [112, 117, 116]) = false := by rw [beq_eq_false_iff_ne]; exact h2
  by_cases h3 : l = [100, 101, 108, 101, 116, 101]
  · subst h3
    have hr : isKw [100, 101, 108, 101, 116, 101] = true := by decide
    rw [hr]; clear hr
    clear h0 h1 h2 t0 t1 t2
    go_enter Tryz.func171, Tryz.ntmps171
    go_wp2
    go_ret
    exact ⟨rfl, rfl⟩
  have t3 : (l == [100, 101, 108, 101, 116, 101]) = false := by rw [beq_eq_false_iff_ne]; exact h3
  by_cases h4 : l = [105, 102]
  · subst h4
    have hr : isKw [105, 102] = true := by decide
    rw [hr]; clear hr
    clear h0 h1 h2 h3 t0 t1 t2 t3
    go_enter Tryz.func171, Tryz.ntmps171
    go_wp2
    go_ret
    exact ⟨rfl, rfl⟩
  have t4 : (l == [105, 102]) = false := by rw [beq_eq_false_iff_ne]; exact h4
  by_cases h5 : l = [101, 108, 115, 101]
  · subst h5
    have hr : isKw [101, 108, 115, 101] = true := by decide
    rw [hr]; clear hr
    clear h0 h1 h2 h3 h4 t0 t1 t2 t3 t4
    go_enter Tryz.func171, Tryz.ntmps171
    go_wp2
    go_ret
    exact ⟨rfl, rfl⟩
  have t5 : (l == [101, 108, 115, 101]) = false := by rw [beq_eq_false_iff_ne]; exact h5
  by_cases h6 : l = [102, 111, 114]
  · subst h6
    have hr : isKw [102, 111, 114] = true := by decide
    rw [hr]; clear hr
    clear h0 h1 h2 h3 h4 h5 t0 t1 t2 t3 t4 t5
    go_enter Tryz.func171, Tryz.ntmps171
    go_wp2
    go_ret
    exact ⟨rfl, rfl⟩
  have t6 : (l == [102, 111, 114]) = false := by rw [beq_eq_false_iff_ne]; exact h6
  by_cases h7 : l = [116, 111]
  · subst h7
    have hr : isKw [116, 111] = true := by decide
    rw [hr]; clear hr
    clear h0 h1 h2 h3 h4 h5 h6 t0 t1 t2 t3 t4 t5 t6
    go_enter Tryz.func171, Tryz.ntmps171
    go_wp2
    go_ret
    exact ⟨rfl, rfl⟩
  have t7 : (l == [116, 111]) = false := by rw [beq_eq_false_iff_ne]; exact h7
  by_cases h8 : l = [109, 97, 120]
  · subst h8
    have hr : isKw [109, 97, 120] = true := by decide
    rw [hr]; clear hr
    clear h0 h1 h2 h3 h4 h5 h6 h7 t0 t1 t2 t3 t4 t5 t6 t7
    go_enter Tryz.func171, Tryz.ntmps171
    go_wp2
    go_ret
    exact ⟨rfl, rfl⟩
  have t8 : (l == [109, 97, 120]) = false := by rw [beq_eq_false_iff_ne]; exact h8
  by_cases h9 : l = [101, 109, 105, 116]
  · subst h9
    have hr : isKw [101, 109, 105, 116] = true := by decide
    rw [hr]; clear hr
    clear h0 h1 h2 h3 h4 h5 h6 h7 h8 t0 t1 t2 t3 t4 t5 t6 t7 t8
    go_enter Tryz.func171, Tryz.ntmps171
    go_wp2
    go_ret
    exact ⟨rfl, rfl⟩
  have t9 : (l == [101, 109, 105, 116]) = false := by rw [beq_eq_false_iff_ne]; exact h9
  by_cases h10 : l = [97, 98, 111, 114, 116]
  · subst h10
    have hr : isKw [97, 98, 111, 114, 116] = true := by decide
    rw [hr]; clear hr
    clear h0 h1 h2 h3 h4 h5 h6 h7 h8 h9 t0 t1 t2 t3 t4 t5 t6 t7 t8 t9
    go_enter Tryz.func171, Tryz.ntmps171
    go_wp2
    go_ret
    exact ⟨rfl, rfl⟩
  have t10 : (l == [97, 98, 111, 114, 116]) = false := by rw [beq_eq_false_iff_ne]; exact h10
  by_cases h11 : l = [110, 111, 116]
  · subst h11
    have hr : isKw [110, 111, 116] = true := by decide
    rw [hr]; clear hr
    clear h0 h1 h2 h3 h4 h5 h6 h7 h8 h9 h10 t0 t1 t2 t3 t4 t5 t6 t7 t8 t9 t10
    go_enter Tryz.func171, Tryz.ntmps171
    go_wp2
    go_ret
    exact ⟨rfl, rfl⟩
  have t11 : (l == [110, 111, 116]) = false := by rw [beq_eq_false_iff_ne]; exact h11
  by_cases h12 : l = [97, 110, 100]
  · subst h12
    have hr : isKw [97, 110, 100] = true := by decide
    rw [hr]; clear hr
    clear h0 h1 h2 h3 h4 h5 h6 h7 h8 h9 h10 h11 t0 t1 t2 t3 t4 t5 t6 t7 t8 t9 t10 t11
    go_enter Tryz.func171, Tryz.ntmps171
    go_wp2
    go_ret
    exact ⟨rfl, rfl⟩
  have t12 : (l == [97, 110, 100]) = false := by rw [beq_eq_false_iff_ne]; exact h12
  by_cases h13 : l = [111, 114]
  · subst h13
    have hr : isKw [111, 114] = true := by decide
    rw [hr]; clear hr
    clear h0 h1 h2 h3 h4 h5 h6 h7 h8 h9 h10 h11 h12 t0 t1 t2 t3 t4 t5 t6 t7 t8 t9 t10 t11 t12
    go_enter Tryz.func171, Tryz.ntmps171
    go_wp2
    go_ret
    exact ⟨rfl, rfl⟩
  have t13 : (l == [111, 114]) = false := by rw [beq_eq_false_iff_ne]; exact h13
  by_cases h14 : l = [105, 110, 116]
  · subst h14
    have hr : isKw [105, 110, 116] = true := by decide
    rw [hr]; clear hr
    clear h0 h1 h2 h3 h4 h5 h6 h7 h8 h9 h10 h11 h12 h13 t0 t1 t2 t3 t4 t5 t6 t7 t8 t9 t10 t11 t12 t13
    go_enter Tryz.func171, Tryz.ntmps171
    go_wp2
    go_ret
    exact ⟨rfl, rfl⟩
  have t14 : (l == [105, 110, 116]) = false := by rw [beq_eq_false_iff_ne]; exact h14
  by_cases h15 : l = [115, 116, 114]
  · subst h15
    have hr : isKw [115, 116, 114] = true := by decide
    rw [hr]; clear hr
    clear h0 h1 h2 h3 h4 h5 h6 h7 h8 h9 h10 h11 h12 h13 h14 t0 t1 t2 t3 t4 t5 t6 t7 t8 t9 t10 t11 t12 t13 t14
    go_enter Tryz.func171, Tryz.ntmps171
    go_wp2
    go_ret
    exact ⟨rfl, rfl⟩
  have t15 : (l == [115, 116, 114]) = false := by rw [beq_eq_false_iff_ne]; exact h15
  by_cases h16 : l = [98, 111, 111, 108]
  · subst h16
    have hr : isKw [98, 111, 111, 108] = true := by decide
    rw [hr]; clear hr
    clear h0 h1 h2 h3 h4 h5 h6 h7 h8 h9 h10 h11 h12 h13 h14 h15 t0 t1 t2 t3 t4 t5 t6 t7 t8 t9 t10 t11 t12 t13 t14 t15
    go_enter Tryz.func171, Tryz.ntmps171
    go_wp2
    go_ret
    exact ⟨rfl, rfl⟩
  have t16 : (l == [98, 111, 111, 108]) = false := by rw [beq_eq_false_iff_ne]; exact h16
  by_cases h17 : l = [116, 101, 120, 116]
  · subst h17
    have hr : isKw [116, 101, 120, 116] = true := by decide
    rw [hr]; clear hr
    clear h0 h1 h2 h3 h4 h5 h6 h7 h8 h9 h10 h11 h12 h13 h14 h15 h16 t0 t1 t2 t3 t4 t5 t6 t7 t8 t9 t10 t11 t12 t13 t14 t15 t16
    go_enter Tryz.func171, Tryz.ntmps171
    go_wp2
    go_ret
    exact ⟨rfl, rfl⟩
  have t17 : (l == [116, 101, 120, 116]) = false := by rw [beq_eq_false_iff_ne]; exact h17
  by_cases h18 : l = [108, 101, 110]
  · subst h18
    have hr : isKw [108, 101, 110] = true := by decide
    rw [hr]; clear hr
    clear h0 h1 h2 h3 h4 h5 h6 h7 h8 h9 h10 h11 h12 h13 h14 h15 h16 h17 t0 t1 t2 t3 t4 t5 t6 t7 t8 t9 t10 t11 t12 t13 t14 t15 t16 t17
    go_enter Tryz.func171, Tryz.ntmps171
    go_wp2
    go_ret
    exact ⟨rfl, rfl⟩
  have t18 : (l == [108, 101, 110]) = false := by rw [beq_eq_false_iff_ne]; exact h18
  by_cases h19 : l = [103, 101, 116, 105, 110, 116]
  · subst h19
    have hr : isKw [103, 101, 116, 105, 110, 116] = true := by decide
    rw [hr]; clear hr
    clear h0 h1 h2 h3 h4 h5 h6 h7 h8 h9 h10 h11 h12 h13 h14 h15 h16 h17 h18 t0 t1 t2 t3 t4 t5 t6 t7 t8 t9 t10 t11 t12 t13 t14 t15 t16 t17 t18
    go_enter Tryz.func171, Tryz.ntmps171
    go_wp2
    go_ret
    exact ⟨rfl, rfl⟩
  have t19 : (l == [103, 101, 116, 105, 110, 116]) = false := by rw [beq_eq_false_iff_ne]; exact h19
  by_cases h20 : l = [103, 101, 116, 115, 116, 114]
  · subst h20
    have hr : isKw [103, 101, 116, 115, 116, 114] = true := by decide
    rw [hr]; clear hr
    clear h0 h1 h2 h3 h4 h5 h6 h7 h8 h9 h10 h11 h12 h13 h14 h15 h16 h17 h18 h19 t0 t1 t2 t3 t4 t5 t6 t7 t8 t9 t10 t11 t12 t13 t14 t15 t16 t17 t18 t19
    go_enter Tryz.func171, Tryz.ntmps171
    go_wp2
    go_ret
    exact ⟨rfl, rfl⟩
  have t20 : (l == [103, 101, 116, 115, 116, 114]) = false := by rw [beq_eq_false_iff_ne]; exact h20
  by_cases h21 : l = [104, 97, 115]
  · subst h21
    have hr : isKw [104, 97, 115] = true := by decide
    rw [hr]; clear hr
    clear h0 h1 h2 h3 h4 h5 h6 h7 h8 h9 h10 h11 h12 h13 h14 h15 h16 h17 h18 h19 h20 t0 t1 t2 t3 t4 t5 t6 t7 t8 t9 t10 t11 t12 t13 t14 t15 t16 t17 t18 t19 t20
    go_enter Tryz.func171, Tryz.ntmps171
    go_wp2
    go_ret
    exact ⟨rfl, rfl⟩
  have t21 : (l == [104, 97, 115]) = false := by rw [beq_eq_false_iff_ne]; exact h21
  by_cases h22 : l = [110, 111, 119]
  · subst h22
    have hr : isKw [110, 111, 119] = true := by decide
    rw [hr]; clear hr
    clear h0 h1 h2 h3 h4 h5 h6 h7 h8 h9 h10 h11 h12 h13 h14 h15 h16 h17 h18 h19 h20 h21 t0 t1 t2 t3 t4 t5 t6 t7 t8 t9 t10 t11 t12 t13 t14 t15 t16 t17 t18 t19 t20 t21
    go_enter Tryz.func171, Tryz.ntmps171
    go_wp2
    go_ret
    exact ⟨rfl, rfl⟩
  have t22 : (l == [110, 111, 119]) = false := by rw [beq_eq_false_iff_ne]; exact h22
  by_cases h23 : l = [114, 97, 110, 100, 111, 109]
  · subst h23
    have hr : isKw [114, 97, 110, 100, 111, 109] = true := by decide
    rw [hr]; clear hr
    clear h0 h1 h2 h3 h4 h5 h6 h7 h8 h9 h10 h11 h12 h13 h14 h15 h16 h17 h18 h19 h20 h21 h22 t0 t1 t2 t3 t4 t5 t6 t7 t8 t9 t10 t11 t12 t13 t14 t15 t16 t17 t18 t19 t20 t21 t22
    go_enter Tryz.func171, Tryz.ntmps171
    go_wp2
    go_ret
    exact ⟨rfl, rfl⟩
  have t23 : (l == [114, 97, 110, 100, 111, 109]) = false := by rw [beq_eq_false_iff_ne]; exact h23
  by_cases h24 : l = [110, 111, 100, 101]
  · subst h24
    have hr : isKw [110, 111, 100, 101] = true := by decide
    rw [hr]; clear hr
    clear h0 h1 h2 h3 h4 h5 h6 h7 h8 h9 h10 h11 h12 h13 h14 h15 h16 h17 h18 h19 h20 h21 h22 h23 t0 t1 t2 t3 t4 t5 t6 t7 t8 t9 t10 t11 t12 t13 t14 t15 t16 t17 t18 t19 t20 t21 t22 t23
    go_enter Tryz.func171, Tryz.ntmps171
    go_wp2
    go_ret
    exact ⟨rfl, rfl⟩
  have t24 : (l == [110, 111, 100, 101]) = false := by rw [beq_eq_false_iff_ne]; exact h24
  have hr := kw_no ⟨h0, h1, h2, h3, h4, h5, h6, h7, h8, h9, h10, h11, h12, h13, h14, h15, h16, h17, h18, h19, h20, h21, h22, h23, h24⟩
  rw [hr]; clear hr h0 h1 h2 h3 h4 h5 h6 h7 h8 h9 h10 h11 h12 h13 h14 h15 h16 h17 h18 h19 h20 h21 h22 h23 h24
  go_enter Tryz.func171, Tryz.ntmps171
  go_wp2
  go_ret
  exact ⟨rfl, rfl⟩
set_option maxRecDepth 100000 in
set_option maxHeartbeats 4000000 in
theorem letter_any (c : Int) (w : World) :
    Calls Tryz.prog 170 #[.int .i32 c] w fun e w' => e = .returned (.bool (ltrI c)) ∧ w = w' := by
  by_cases h1 : 97 ≤ c
  · by_cases h2 : c ≤ 122
    · have hr : ltrI c = true := by unfold ltrI; rw [decide_eq_true (by omega), decide_eq_true (by omega)]; rfl
      rw [hr]; clear hr
      go_enter Tryz.func170, Tryz.ntmps170
      go_wp2
      go_ret
      exact ⟨rfl, rfl⟩
    · have hr : ltrI c = false := by unfold ltrI; rw [decide_eq_true (by omega), decide_eq_false (by omega)]; rfl
      rw [hr]; clear hr
      go_enter Tryz.func170, Tryz.ntmps170
      go_wp2
      go_ret
      exact ⟨rfl, rfl⟩
  · have hr : ltrI c = false := by unfold ltrI; rw [decide_eq_false (by omega)]; rfl
    rw [hr]; clear hr
    go_enter Tryz.func170, Tryz.ntmps170
    go_wp2
    go_ret
    exact ⟨rfl, rfl⟩
set_option maxRecDepth 100000 in
set_option maxHeartbeats 4000000 in
theorem Rletter_any (c : UInt8) (w : World) :
    Calls Tryz.prog 174 #[.int .u8 (c.toNat : Int)] w fun e w' => e = .returned (.bool (ltr c)) ∧ w = w' := by
  by_cases h1 : (97 : Int) ≤ (c.toNat : Int)
  · by_cases h2 : (c.toNat : Int) ≤ 122
    · have hr : ltr c = true := by unfold ltr; rw [decide_eq_true (by omega), decide_eq_true (by omega)]; rfl
      rw [hr]; clear hr
      go_enter Tryz.func174, Tryz.ntmps174
      go_wp2
      go_ret
      exact ⟨rfl, rfl⟩
    · have hr : ltr c = false := by unfold ltr; rw [decide_eq_true (by omega), decide_eq_false (by omega)]; rfl
      rw [hr]; clear hr
      go_enter Tryz.func174, Tryz.ntmps174
      go_wp2
      go_ret
      exact ⟨rfl, rfl⟩
  · have hr : ltr c = false := by unfold ltr; rw [decide_eq_false (by omega)]; rfl
    rw [hr]; clear hr
    go_enter Tryz.func174, Tryz.ntmps174
    go_wp2
    go_ret
    exact ⟨rfl, rfl⟩
set_option maxRecDepth 100000 in
set_option maxHeartbeats 4000000 in
theorem Rdigit_any (c : UInt8) (w : World) :
    Calls Tryz.prog 175 #[.int .u8 (c.toNat : Int)] w fun e w' => e = .returned (.bool (isDig c)) ∧ w = w' := by
  by_cases h1 : (48 : Int) ≤ (c.toNat : Int)
  · by_cases h2 : (c.toNat : Int) ≤ 57
    · have hr : isDig c = true := by unfold isDig; rw [decide_eq_true (by omega), decide_eq_true (by omega)]; rfl
      rw [hr]; clear hr
      go_enter Tryz.func175, Tryz.ntmps175
      go_wp2
      go_ret
      exact ⟨rfl, rfl⟩
    · have hr : isDig c = false := by unfold isDig; rw [decide_eq_true (by omega), decide_eq_false (by omega)]; rfl
      rw [hr]; clear hr
      go_enter Tryz.func175, Tryz.ntmps175
      go_wp2
      go_ret
      exact ⟨rfl, rfl⟩
  · have hr : isDig c = false := by unfold isDig; rw [decide_eq_false (by omega)]; rfl
    rw [hr]; clear hr
    go_enter Tryz.func175, Tryz.ntmps175
    go_wp2
    go_ret
    exact ⟨rfl, rfl⟩
set_option maxRecDepth 100000 in
set_option maxHeartbeats 4000000 in
theorem Rpart_any (c : UInt8) (w : World) :
    Calls Tryz.prog 160 #[.int .u8 (c.toNat : Int)] w fun e w' => e = .returned (.bool (prt c)) ∧ w = w' := by
  cases h1 : ltr c with
  | true =>
    have hr : prt c = true := by unfold prt; rw [h1]; rfl
    rw [hr]; have H1 := Lib.hid h1; clear hr h1
    go_enter Tryz.func160, Tryz.ntmps160
    go_wp2_with fail
    refine (Rletter_any c _).mono ?_
    rw [H1.out]
    rintro er w1 ⟨rfl, rfl⟩
    go_wp2
    go_ret
    exact ⟨rfl, rfl⟩
  | false =>
    cases h2 : isDig c with
    | true =>
      have hr : prt c = true := by unfold prt; rw [h1, h2]; rfl
      rw [hr]; have H1 := Lib.hid h1; have H2 := Lib.hid h2; clear hr h1 h2
      go_enter Tryz.func160, Tryz.ntmps160
      go_wp2_with fail
      refine (Rletter_any c _).mono ?_
      rw [H1.out]
      rintro er w1 ⟨rfl, rfl⟩
      go_wp2_with fail
      refine (Rdigit_any c _).mono ?_
      rw [H2.out]
      rintro er w2 ⟨rfl, rfl⟩
      go_wp2
      go_ret
      exact ⟨rfl, rfl⟩
    | false =>
      obtain ⟨t, ht⟩ : ∃ t, (c == 95) = t := ⟨_, rfl⟩
      have h95 : ((c.toNat : Int) == 95) = t := by rw [← ht, Bool.eq_iff_iff, beq_iff_eq, beq_iff_eq, ← UInt8.toNat_inj]; show _ ↔ c.toNat = 95; omega
      have hr : prt c = t := by unfold prt; rw [h1, h2, ht]; rfl
      rw [hr]; have H1 := Lib.hid h1; have H2 := Lib.hid h2; clear hr h1 h2 ht
      go_enter Tryz.func160, Tryz.ntmps160
      go_wp2_with fail
      refine (Rletter_any c _).mono ?_
      rw [H1.out]
      rintro er w1 ⟨rfl, rfl⟩
      go_wp2_with fail
      refine (Rdigit_any c _).mono ?_
      rw [H2.out]
      rintro er w2 ⟨rfl, rfl⟩
      go_wp2
      go_ret
      exact ⟨rfl, rfl⟩
set_option maxRecDepth 100000 in
set_option maxHeartbeats 8000000 in
theorem word_any (l : List UInt8) (w : World) :
    Calls Tryz.prog 155 #[.string (bs l)] w fun e w' => e = .returned (.int .i64 ((wlen l : Nat) : Int)) ∧ Below w.heap.size w w' := by
  obtain ⟨R, hR⟩ : ∃ R, wlen l = R := ⟨_, rfl⟩
  rw [hR]
  have HR := Lib.hid (show 0 + wlen (l.drop 0) = R by rw [List.drop_zero, hR, Nat.zero_add]); clear hR
  go_enter Tryz.func155, Tryz.ntmps155
  go_wp2
  go_loopw [] (fun wr => ∃ k : Nat, k ≤ l.length ∧ wr = w.iter (bs l) k ∧ k + wlen (l.drop k) = R) (fun wr => l.length - wr.iterPos w.heap.size)
  case atStart => exact ⟨0, Nat.zero_le _, rfl, HR.out⟩
  case round =>
    obtain ⟨k, hk, rfl, hR⟩ := hrel
    clear HR
    have HR := Lib.hid hR; clear hR
    by_cases hlt : k < l.length
    · by_cases ha : l[k].toNat < 128
      · have hnx : ∀ ty, (Instr.next (.pointer (some ⟨w.heap.size, 0, none⟩)) true ty).run Tryz.prog (w.iter (bs l) k) = .ok (.tuple #[.bool true, .int .i64 (k : Int), .int .i32 (l[k].toNat : Int)]) (w.iter (bs l) (k + 1)) := fun ty => run_next_ascii w (bs l) k ty (by rw [bs_size]; exact hlt) ha
        by_cases h1 : ltr l[k] = true
        · have H1 := Lib.hid ((ltrI_byte l[k]).trans h1)
          have hp : prt l[k] = true := by unfold prt; rw [h1]; rfl
          have HN := Lib.hid (wl_go HR.out hlt hp); clear hp
          clear h1
          go_wp2_with fail
          refine (letter_any _ _).mono ?_
          rw [H1.out]
          rintro er w1 ⟨rfl, rfl⟩
          go_wp2
          go_roundw
          case rel => exact ⟨k + 1, by omega, rfl, HN.out⟩
          case measure => simp; omega
        have h1f : ltr l[k] = false := by rw [Bool.eq_false_iff]; exact h1
        have H1 := Lib.hid ((ltrI_byte l[k]).trans h1f)
        have hno : ¬ (97 ≤ l[k].toNat ∧ l[k].toNat ≤ 122) := fun h => h1 ((ltr_iff _).2 h)
        clear h1 h1f
        by_cases h2 : (l[k].toNat : Int) < 48
        · have t95 : ((l[k].toNat : Int) != 95) = true := by rw [bne_iff_ne]; omega
          have HS := Lib.hid (wl_stop HR.out hlt (by rw [prt_iff]; omega)); clear hno
          go_wp2_with fail
          refine (letter_any _ _).mono ?_
          rw [H1.out]
          rintro er w1 ⟨rfl, rfl⟩
          go_wp2
          go_ret
          exact ⟨by rw [HS.out] <;> rfl, (Below.refl _ _).alloc (Nat.le_refl _) _⟩
        by_cases h3 : (57 : Int) < (l[k].toNat : Int)
        · by_cases h4 : (l[k].toNat : Int) = 95
          · have t95 : ((l[k].toNat : Int) != 95) = false := by rw [h4]; rfl
            have hp : prt l[k] = true := by rw [prt_iff]; omega
            have HN := Lib.hid (wl_go HR.out hlt hp); clear hp
            have H4 := Lib.hid h4; clear h4 hno
            go_wp2_with fail
            refine (letter_any _ _).mono ?_
            rw [H1.out]
            rintro er w1 ⟨rfl, rfl⟩
            go_wp2
            go_roundw
            case rel => exact ⟨k + 1, by omega, rfl, HN.out⟩
            case measure => simp; omega
          have t95 : ((l[k].toNat : Int) != 95) = true := by rw [bne_iff_ne]; exact h4
          have HS := Lib.hid (wl_stop HR.out hlt (by rw [prt_iff]; omega)); clear hno h4
          go_wp2_with fail
          refine (letter_any _ _).mono ?_
          rw [H1.out]
          rintro er w1 ⟨rfl, rfl⟩
          go_wp2
          go_ret
          exact ⟨by rw [HS.out] <;> rfl, (Below.refl _ _).alloc (Nat.le_refl _) _⟩
        have hp : prt l[k] = true := by rw [prt_iff]; omega
        have HN := Lib.hid (wl_go HR.out hlt hp); clear hp
        clear hno
        go_wp2_with fail
        refine (letter_any _ _).mono ?_
        rw [H1.out]
        rintro er w1 ⟨rfl, rfl⟩
        go_wp2
        go_roundw
        case rel => exact ⟨k + 1, by omega, rfl, HN.out⟩
        case measure => simp; omega
      · obtain ⟨c, hc⟩ : ∃ c, (Utf8.decode (bs l) k).1 = c := ⟨_, rfl⟩
        have hsz : k < (bs l).size := by rw [bs_size]; exact hlt
        have hd := decode_high (bs l) k hsz (by show 128 ≤ l[k].toNat; omega)
        have hd2 := decode_le (bs l) k
        rw [hc] at hd hd2
        obtain ⟨q, hq⟩ : ∃ q, k + (Utf8.decode (bs l) k).2 = q := ⟨_, rfl⟩
        have hnx : ∀ ty, (Instr.next (.pointer (some ⟨w.heap.size, 0, none⟩)) true ty).run Tryz.prog (w.iter (bs l) k) = .ok (.tuple #[.bool true, .int .i64 (k : Int), .int .i32 (c : Int)]) (w.iter (bs l) q) := fun ty => by rw [run_next_any w (bs l) k ty hsz, hc, hq]
        have H1 := Lib.hid (show ltrI (c : Int) = false by unfold ltrI; rw [decide_eq_false (p := (c : Int) ≤ 122) (by omega)]; simp)
        have g1 : ¬ (c : Int) < 48 := by omega
        have g2 : (57 : Int) < (c : Int) := by omega
        have t95 : ((c : Int) != 95) = true := by rw [bne_iff_ne]; omega
        have HS := Lib.hid (wl_stop HR.out hlt (by rw [prt_iff]; omega))
        clear hc hq hd hd2
        go_wp2_with fail
        refine (letter_any _ _).mono ?_
        rw [H1.out]
        rintro er w1 ⟨rfl, rfl⟩
        go_wp2
        go_ret
        exact ⟨by rw [HS.out] <;> rfl, (Below.refl _ _).alloc (Nat.le_refl _) _⟩
    · have hnx : ∀ ty, (Instr.next (.pointer (some ⟨w.heap.size, 0, none⟩)) true ty).run Tryz.prog (w.iter (bs l) k) = .ok (.tuple #[.bool false]) (w.iter (bs l) k) := fun ty => run_next_end w (bs l) k ty (by rw [bs_size]; exact hlt)
      have hR := wl_end HR.out hlt
      have hkl : k = l.length := by omega
      have HS := Lib.hid (hR.trans hkl)
      clear hR hkl
      go_wp2
      go_ret
      exact ⟨by rw [HS.out] <;> rfl, (Below.refl _ _).alloc (Nat.le_refl _) _⟩
set_option maxRecDepth 100000 in
set_option maxHeartbeats 4000000 in
theorem Rword_any (l : List UInt8) (a : Nat) (ha : a ≤ l.length) (hl : l.length ≤ 1000000) (w : World) :
    Calls Tryz.prog 161 #[.string (bs l), .int .i64 (a : Int)] w fun e w' => e = .returned (.int .i64 ((a + wlen (l.drop a) : Nat) : Int)) ∧ w = w' := by
  obtain ⟨R, hR⟩ : ∃ R, a + wlen (l.drop a) = R := ⟨_, rfl⟩
  rw [hR]
  have HR := Lib.hid hR; clear hR
  go_enter Tryz.func161, Tryz.ntmps161
  go_wp2
  go_loop [1] (fun i => ∃ k : Nat, k ≤ l.length ∧ i = .int .i64 k ∧ k + wlen (l.drop k) = R) (fun i => l.length - (intOf i).toNat)
  case atStart => exact ⟨a, ha, rfl, HR.out⟩
  case round =>
    obtain ⟨k, hk, rfl, hR⟩ := hrel
    clear HR
    have HR := Lib.hid hR; clear hR
    by_cases hlt : k < l.length
    · have hlt' : (k : Int) < (l.length : Int) := by omega
      cases hp : prt l[k] with
      | true =>
        have HN := Lib.hid (wl_go HR.out hlt hp); have HP := Lib.hid hp; clear hp
        go_wp2_with fail
        refine (Rpart_any l[k] _).mono ?_
        rw [HP.out]
        rintro er w1 ⟨rfl, rfl⟩
        go_wp2
        go_round
        case rel => exact ⟨k + 1, by omega, by go_num, HN.out⟩
        case measure => simp [intOf]; omega
      | false =>
        have HS := Lib.hid (wl_stop HR.out hlt (by rw [hp]; simp)); have HP := Lib.hid hp; clear hp
        go_wp2_with fail
        refine (Rpart_any l[k] _).mono ?_
        rw [HP.out]
        rintro er w1 ⟨rfl, rfl⟩
        go_wp2
        go_ret
        exact ⟨by rw [HS.out] <;> rfl, rfl⟩
    · have hlt' : ¬ (k : Int) < (l.length : Int) := by omega
      have HS := Lib.hid (wl_end HR.out hlt)
      go_wp2
      go_ret
      exact ⟨by rw [HS.out] <;> rfl, rfl⟩
set_option maxRecDepth 100000 in
set_option maxHeartbeats 2000000 in
theorem plain_any (l : List UInt8) (hl : l.length ≤ 9223372036854775807) (w : World) :
    Calls Tryz.prog 90 #[.string (bs l)] w fun e w' => e = .returned (.bool (l.all okc)) ∧ w = w' := by
  go_enter Tryz.func90, Tryz.ntmps90
  go_wp2
  go_loop [6] (fun i => ∃ k : Nat, k ≤ l.length ∧ i = .int .i64 k ∧ (l.take k).all okc = true) (fun i => l.length - (intOf i).toNat)
  case atStart => exact ⟨0, Nat.zero_le _, rfl, rfl⟩
  case round =>
    obtain ⟨k, hk, rfl, hall⟩ := hrel
    have HA := Lib.hid hall; clear hall
    by_cases hlt : k < l.length
    · have hlt' : (k : Int) < (l.length : Int) := by omega
      by_cases h1 : (l[k].toNat : Int) < 32
      · have HF := Lib.hid (all_bad k hlt (okc_lo h1))
        go_wp2
        go_ret
        exact ⟨by rw [HF.out] <;> rfl, rfl⟩
      by_cases h2 : (126 : Int) < (l[k].toNat : Int)
      · have HF := Lib.hid (all_bad k hlt (okc_hi h2))
        go_wp2
        go_ret
        exact ⟨by rw [HF.out] <;> rfl, rfl⟩
      have hA2 : (l.take (k + 1)).all okc = true := by
        rw [ltake_snoc l k hlt, List.all_append, HA.out]
        have : okc l[k] = true := (okc_iff _).2 (by omega)
        simp [this]
      have HA2 := Lib.hid hA2; clear hA2
      go_wp2
      go_round
      case rel => exact ⟨k + 1, by omega, by go_num, HA2.out⟩
      case measure => simp [intOf]; omega
    · have hall := HA.out
      rw [ltake_all l hlt] at hall
      have HF := Lib.hid hall; clear hall
      go_wp2
      go_ret
      exact ⟨by rw [HF.out] <;> rfl, rfl⟩
set_option maxRecDepth 100000 in
set_option maxHeartbeats 2000000 in
theorem Printable_any (l : List UInt8) (hl : l.length ≤ 9223372036854775807) (w : World) :
    Calls Tryz.prog 86 #[.string (bs l)] w fun e w' => e = .returned (.bool (l.all okc)) ∧ w = w' := by
  go_enter Tryz.func86, Tryz.ntmps86
  go_wp2
  go_loop [3] (fun i => ∃ k : Nat, k ≤ l.length ∧ i = .int .i64 k ∧ (l.take k).all okc = true) (fun i => l.length - (intOf i).toNat)
  case atStart => exact ⟨0, Nat.zero_le _, rfl, rfl⟩
  case round =>
    obtain ⟨k, hk, rfl, hall⟩ := hrel
    have HA := Lib.hid hall; clear hall
    by_cases hlt : k < l.length
    · have hlt' : (k : Int) < (l.length : Int) := by omega
      by_cases h1 : (l[k].toNat : Int) < 32
      · have HF := Lib.hid (all_bad k hlt (okc_lo h1))
        go_wp2
        go_ret
        exact ⟨by rw [HF.out] <;> rfl, rfl⟩
      by_cases h2 : (126 : Int) < (l[k].toNat : Int)
      · have HF := Lib.hid (all_bad k hlt (okc_hi h2))
        go_wp2
        go_ret
        exact ⟨by rw [HF.out] <;> rfl, rfl⟩
      have hA2 : (l.take (k + 1)).all okc = true := by
        rw [ltake_snoc l k hlt, List.all_append, HA.out]
        have : okc l[k] = true := (okc_iff _).2 (by omega)
        simp [this]
      have HA2 := Lib.hid hA2; clear hA2
      go_wp2
      go_round
      case rel => exact ⟨k + 1, by omega, by go_num, HA2.out⟩
      case measure => simp [intOf]; omega
    · have hall := HA.out
      rw [ltake_all l hlt] at hall
      have HF := Lib.hid hall; clear hall
      go_wp2
      go_ret
      exact ⟨by rw [HF.out] <;> rfl, rfl⟩
end Go.Proofs.YtkmmdkklpbafdaaGreatDoor
