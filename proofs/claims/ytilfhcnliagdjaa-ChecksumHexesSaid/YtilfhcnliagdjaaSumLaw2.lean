/- The walks of three more laws of layer 3: concatenation, one byte that differs, hexadecimal digits. No conditions. -/
import Derived.Test.YtilfhcnliagdjaaSumLaw
namespace Go.Proofs.Ytilfhcnliagdjaa
open Go.RowKit

set_option maxHeartbeats 800000 in
theorem concatenatesLaw (a : List UInt8) (ha : a.length ≤ 140737488351232) (b : List UInt8) (hb : b.length ≤ 140737488351232) (h : Int) (wh : (Lit.int .u64 h).wf = true) (w : World) :
    Calls Try.prog 5 #[.string (bs a), .string (bs b), .int .u64 h] w fun e w' => e = .returned (.bool true) ∧ Below w.heap.size w w' := by
  obtain ⟨h0, h1⟩ := u64_range wh
  clear wh
  have A := Lib.hid (show a.length ≤ maxLen by unfold maxLen; omega)
  have B := Lib.hid (show b.length ≤ maxLen by unfold maxLen; omega)
  have AB := Lib.hid (show (a ++ b).length ≤ maxLen by unfold maxLen; rw [List.length_append]; omega)
  have NIL := Lib.hid (show ([] : List UInt8).length ≤ maxLen by decide)
  have s3 : ByteArray.mk #[] = bs [] := rfl
  have S3 := Lib.hid s3; clear s3
  obtain ⟨c, hc⟩ : ∃ c, c = h % 4294967296 := ⟨_, rfl⟩
  have c0 : 0 ≤ c := by omega
  have c1 : c < 4294967296 := by omega
  have x1 := ext_lt (show h.toNat < 18446744073709551616 by omega) a
  have x2 := upd_lt (show c.toNat < 4294967296 by omega) a
  have x3 := fnv_lt a
  have x4 := crc_lt a
  have e1 := ext_append h.toNat a b
  have e2 := upd_append c.toNat a b
  have e3 : fnv (a ++ b) = ext (fnv a) b := by unfold fnv; exact ext_append _ _ _
  have e4 : crc (a ++ b) = upd (crc a) b := by unfold crc; exact upd_append _ _ _
  have e5 := ext_nil h.toNat
  have e6 := upd_nil c.toNat
  have e7 : (h.toNat : Int) = h := Int.toNat_of_nonneg h0
  have e8 : (c.toNat : Int) = c := Int.toNat_of_nonneg c0
  have E := Lib.hid (And.intro e5 (And.intro e6 (And.intro e7 (And.intro e8 hc.symm)))); clear e5 e6 e7 e8 hc
  have E1 := Lib.hid (And.intro e1 (And.intro e2 (And.intro e3 e4))); clear e1 e2 e3 e4
  go_enter Try.func5, Try.ntmps5
  go_wp2_with fail
  refine (Extend_any _ _ _ AB.out h0 h1).mono ?_
  rw [E1.out.1]
  rintro e w2 ⟨rfl, rfl⟩
  go_wp2_with fail
  refine (Extend_any _ _ _ A.out h0 h1).mono ?_
  rintro e w2 ⟨rfl, rfl⟩
  go_wp2_with fail
  refine (Extend_any _ _ _ B.out (by omega) (by omega)).mono ?_
  rintro e w2 ⟨rfl, rfl⟩
  go_wp2_with fail
  rw [E.out.2.2.2.2]
  refine (Update_any _ _ _ AB.out c0 c1).mono ?_
  rw [E1.out.2.1]
  rintro e w2 ⟨rfl, rfl⟩
  go_wp2_with fail
  refine (Update_any _ _ _ A.out c0 c1).mono ?_
  rintro e w2 ⟨rfl, rfl⟩
  go_wp2_with fail
  refine (Update_any _ _ _ B.out (by omega) (by omega)).mono ?_
  rintro e w2 ⟨rfl, rfl⟩
  go_wp2_with fail
  rw [S3.out]
  refine (Extend_any _ _ _ NIL.out h0 h1).mono ?_
  rw [E.out.1, E.out.2.2.1]
  rintro e w2 ⟨rfl, rfl⟩
  go_wp2_with fail
  rw [S3.out]
  refine (Update_any _ _ _ NIL.out c0 c1).mono ?_
  rw [E.out.2.1, E.out.2.2.2.1]
  rintro e w2 ⟨rfl, rfl⟩
  go_wp2_with fail
  refine (FNV_any _ _ AB.out).mono ?_
  rw [E1.out.2.2.1]
  rintro e w2 ⟨rfl, rfl⟩
  go_wp2_with fail
  refine (FNV_any _ _ A.out).mono ?_
  rintro e w2 ⟨rfl, rfl⟩
  go_wp2_with fail
  refine (Extend_any _ _ _ B.out (by omega) (by omega)).mono ?_
  rintro e w2 ⟨rfl, rfl⟩
  go_wp2_with fail
  refine (CRC_any _ _ AB.out).mono ?_
  rw [E1.out.2.2.2]
  rintro e w2 ⟨rfl, rfl⟩
  go_wp2_with fail
  refine (CRC_any _ _ A.out).mono ?_
  rintro e w2 ⟨rfl, rfl⟩
  go_wp2_with fail
  refine (Update_any _ _ _ B.out (by omega) (by omega)).mono ?_
  rintro e w2 ⟨rfl, rfl⟩
  go_wp2_with fail
  refine (examples_any _).mono ?_
  rintro e w2 ⟨rfl, hb2⟩
  go_wp2
  go_ret
  exact ⟨rfl, hb2⟩

/-! ### the hexadecimal digits -/
theorem dval_dig : ∀ d : Fin 16, dval (dig d.val) = d.val := by decide +kernel
theorem dig_dval : ∀ n : Fin 256, 0 ≤ dval (UInt8.ofNat n.val) → dig (dval (UInt8.ofNat n.val)).toNat = UInt8.ofNat n.val := by decide +kernel
theorem dig_dval' (c : UInt8) (h : 0 ≤ dval c) : dig (dval c).toNat = c := by
  have := dig_dval ⟨c.toNat, c.toNat_lt⟩
  simpa using this (by simpa using h)
theorem unh_hexl (u n x : Nat) : unh x (hexl u n) = some (x * 16 ^ n + u % 16 ^ n) := by
  induction n generalizing x with
  | zero => simp [hexl, unh, Nat.mod_one]
  | succ n ih =>
    rw [hexl_cons]
    simp only [unh]
    have hd : u / 16 ^ n % 16 < 16 := Nat.mod_lt _ (by decide)
    have e := dval_dig ⟨u / 16 ^ n % 16, hd⟩
    simp only at e
    rw [e, if_neg (by omega), ih, Int.toNat_natCast, Nat.pow_succ, Nat.mod_mul (a := 16 ^ n) (b := 16) (x := u), Nat.add_mul]
    congr 1
    have e1 : x * 16 * 16 ^ n = x * (16 ^ n * 16) := by rw [Nat.mul_assoc, Nat.mul_comm 16]
    have e2 : u / 16 ^ n % 16 * 16 ^ n = 16 ^ n * (u / 16 ^ n % 16) := Nat.mul_comm _ _
    omega
theorem unhex_hex (u : Nat) (hu : u < 18446744073709551616) : unhex (hex u) = (u, 0) := by
  unfold unhex hex
  rw [if_pos (hexl_length _ _)]
  rw [unh_hexl, Nat.mod_eq_of_lt (by omega)]
  simp
/-- what was read as a number is that number's digits -/
theorem hexl_of_unh (l : List UInt8) (x y : Nat) (h : unh x l = some y) : hexl y l.length = l ∧ y / 16 ^ l.length = x := by
  induction l generalizing x with
  | nil => simp only [unh, Option.some.injEq] at h; subst h; simp [hexl]
  | cons c r ih =>
    simp only [unh] at h
    by_cases hc : dval c < 0
    · rw [if_pos hc] at h; cases h
    · rw [if_neg hc] at h
      obtain ⟨i1, i2⟩ := ih _ h
      have hr := dval_range c
      have e1 : y / 16 ^ r.length % 16 = (dval c).toNat := by rw [i2]; omega
      constructor
      · rw [List.length_cons, hexl_cons, i1, e1, dig_dval' c (by omega)]
      · rw [List.length_cons, Nat.pow_succ, ← Nat.div_div_eq_div_mul, i2]; omega
theorem unhex_lt (l : List UInt8) : (unhex l).1 < 18446744073709551616 := by
  unfold unhex
  split
  · next hl =>
    split
    · next x hx =>
      have := (hexl_of_unh l 0 x hx).2
      rw [hl] at this
      rcases Nat.lt_or_ge x 18446744073709551616 with h | h
      · exact h
      · exact absurd this (by have := Nat.div_pos (a := x) (b := 16 ^ 16) (by omega) (by decide); omega)
    · decide
  · decide
theorem hex_unhex (l : List UInt8) (h : (unhex l).2 = 0) : hex (unhex l).1 = l := by
  unfold unhex at h ⊢
  by_cases hl : l.length = 16
  · rw [if_pos hl] at h ⊢
    cases hu : unh 0 l with
    | none => rw [hu] at h; simp at h
    | some y =>
      have := (hexl_of_unh l 0 y hu).1
      rw [hl] at this
      exact this
  · rw [if_neg hl] at h; simp at h
theorem unhex_err (l : List UInt8) : (unhex l).2 = 0 ∨ (unhex l).2 = 5 := by
  unfold unhex
  split
  · split <;> simp
  · simp

set_option maxHeartbeats 800000 in
theorem hexesLaw (h : Int) (wh : (Lit.int .u64 h).wf = true) (l : List UInt8) (_hl : l.length ≤ 140737488351232) (w : World) :
    Calls Try.prog 8 #[.int .u64 h, .string (bs l)] w fun e w' => e = .returned (.bool true) ∧ Below w.heap.size w w' := by
  obtain ⟨h0, h1⟩ := u64_range wh
  clear wh
  have hu := unhex_hex h.toNat (by omega)
  have e7 : (h.toNat : Int) = h := Int.toNat_of_nonneg h0
  have E := Lib.hid (And.intro hu e7); clear hu e7
  have U := Lib.hid (hex_unhex l)
  have hlt := unhex_lt l
  rcases unhex_err l with he | he
  · have t1 : ((unhex l).2 != 0) = false := by simp [he]
    have e1 : ((unhex l).2 == 0) = true := by simp [he]
    have hx := U.out he
    have HX := Lib.hid hx; clear hx he
    go_enter Try.func8, Try.ntmps8
    go_wp2_with fail
    refine (Hex_any _ _ h0 h1).mono ?_
    rintro e w1 ⟨rfl, hb1⟩
    go_wp2_with fail
    refine (Unhex_any _ _).mono ?_
    rw [E.out.1, E.out.2]
    rintro e w2 ⟨rfl, rfl⟩
    go_wp2_with fail
    refine (Unhex_any _ _).mono ?_
    rintro e w2 ⟨rfl, rfl⟩
    go_wp2_with fail
    refine (RUnhex_any _ _).mono ?_
    rintro e w2 ⟨rfl, rfl⟩
    go_wp2_with fail
    refine (Hex_any _ _ h0 h1).mono ?_
    rintro e w2 ⟨rfl, hb2⟩
    have h2 := btrans hb1 hb1.size hb2; clear hb1 hb2
    go_wp2_with fail
    refine (RHex_any _ _ h0 h1).mono ?_
    rintro e w3 ⟨rfl, hb3⟩
    have h3 := btrans h2 h2.size hb3; clear h2 hb3
    go_wp2_with fail
    refine (Hex_any _ _ (by omega) (by omega)).mono ?_
    rw [Int.toNat_natCast, HX.out]
    rintro e w4 ⟨rfl, hb4⟩
    have h4 := btrans h3 h3.size hb4; clear h3 hb4
    go_wp2_with fail
    refine (examples_any _).mono ?_
    rintro e w5 ⟨rfl, hb5⟩
    go_wp2
    go_ret
    exact ⟨rfl, btrans h4 h4.size hb5⟩
  · have t1 : ((unhex l).2 != 0) = true := by rw [he]; rfl
    have e1 : ((unhex l).2 == 0) = false := by rw [he]; rfl
    clear he
    go_enter Try.func8, Try.ntmps8
    go_wp2_with fail
    refine (Hex_any _ _ h0 h1).mono ?_
    rintro e w1 ⟨rfl, hb1⟩
    go_wp2_with fail
    refine (Unhex_any _ _).mono ?_
    rw [E.out.1, E.out.2]
    rintro e w2 ⟨rfl, rfl⟩
    go_wp2_with fail
    refine (Unhex_any _ _).mono ?_
    rintro e w2 ⟨rfl, rfl⟩
    go_wp2_with fail
    refine (RUnhex_any _ _).mono ?_
    rintro e w2 ⟨rfl, rfl⟩
    go_wp2_with fail
    refine (Hex_any _ _ h0 h1).mono ?_
    rintro e w2 ⟨rfl, hb2⟩
    have h2 := btrans hb1 hb1.size hb2; clear hb1 hb2
    go_wp2_with fail
    refine (RHex_any _ _ h0 h1).mono ?_
    rintro e w3 ⟨rfl, hb3⟩
    have h3 := btrans h2 h2.size hb3; clear h2 hb3
    go_wp2_with fail
    refine (examples_any _).mono ?_
    rintro e w5 ⟨rfl, hb5⟩
    go_wp2
    go_ret
    exact ⟨rfl, btrans h3 h3.size hb5⟩
end Go.Proofs.Ytilfhcnliagdjaa
