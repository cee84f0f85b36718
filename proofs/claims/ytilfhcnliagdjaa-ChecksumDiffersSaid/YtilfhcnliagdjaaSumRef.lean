/- What the reference's functions (layer 3) return: the same plain functions. No conditions but the strings' and numbers' own ranges. -/
import Derived.Test.YtilfhcnliagdjaaSumSeal
namespace Go.Proofs.Ytilfhcnliagdjaa
open Go.RowKit

set_option maxHeartbeats 400000 in
theorem RExtend_any (h : Int) (l : List UInt8) (w : World) (hs : l.length ≤ maxLen) (h0 : 0 ≤ h) (h1 : h < 18446744073709551616) :
    Calls Try.prog 21 #[.int .u64 h, .string (bs l)] w fun e w' => e = .returned (.int .u64 (ext h.toNat l : Nat)) ∧ w = w' := by
  unfold maxLen at hs
  have hh : h.toNat < 18446744073709551616 := by omega
  go_enter Try.func21, Try.ntmps21
  go_wp2
  go_loop [0, 5] (fun hh i => ∃ (k : Nat), k ≤ l.length ∧ i = .int .i64 k ∧ hh = .int .u64 (ext h.toNat (l.take k) : Nat)) (fun _ i => l.length - (intOf i).toNat)
  case atStart => exact ⟨0, Nat.zero_le _, rfl, by rw [List.take_zero, ext_nil, Int.toNat_of_nonneg h0]⟩
  case round =>
    obtain ⟨k, hk, rfl, rfl⟩ := hrel
    by_cases hlt : k < l.length
    · have H := Lib.hid (ext_step (ext h.toNat (l.take k)) l[k] (ext_lt hh _))
      go_wp2
      go_round
      case rel => exact ⟨k + 1, by omega, by go_num, by rw [H.out, ltake_snoc l k hlt, ext_snoc]⟩
      case measure => simp [intOf]; omega
    · go_wp2
      go_ret
      exact ⟨ret_int (by rw [ltake_all l hlt]), rfl⟩

theorem rem2_odd (c : Nat) (h : c % 2 = 1) : (((c : Int) % 2) == 1) = true := by rw [beq_iff_eq]; omega
theorem rem2_even (c : Nat) (h : ¬ c % 2 = 1) : (((c : Int) % 2) == 1) = false := by rw [beq_eq_false_iff_ne]; omega

set_option maxHeartbeats 800000 in
theorem RUpdate_any (c : Int) (l : List UInt8) (w : World) (hs : l.length ≤ maxLen) (h0 : 0 ≤ c) (h1 : c < 4294967296) :
    Calls Try.prog 16 #[.int .u32 c, .string (bs l)] w fun e w' => e = .returned (.int .u32 (upd c.toNat l : Nat)) ∧ w = w' := by
  unfold maxLen at hs
  have hco : bits .xor .u32 c 4294967295 = ((c.toNat ^^^ 4294967295 : Nat) : Int) := by
    have := xor_ones c.toNat (by omega); rwa [Int.toNat_of_nonneg h0] at this
  have HCO := Lib.hid hco; clear hco
  go_enter Try.func16, Try.ntmps16
  go_wp2
  go_loop [5, 6] (fun hh i => ∃ (k c1 : Nat), k ≤ l.length ∧ i = .int .i64 k ∧ hh = .int .u32 c1 ∧ c1 < 4294967296 ∧ c1 = crcF (c.toNat ^^^ 4294967295) (l.take k)) (fun _ i => l.length - (intOf i).toNat)
  case atStart => exact ⟨0, _, Nat.zero_le _, rfl, int_u32 HCO.out, xor32 (by omega) (by decide), by rw [List.take_zero]; rfl⟩
  case round =>
    obtain ⟨k, c1, hk, rfl, rfl, hc1, he⟩ := hrel
    have HE := Lib.hid he; clear he
    by_cases hlt : k < l.length
    · have HB := Lib.hid (xor_byte c1 l[k] hc1)
      go_wp2
      go_loop [5, 7] (fun hh i => ∃ (j c2 : Nat), j ≤ 8 ∧ i = .int .i64 j ∧ hh = .int .u32 c2 ∧ c2 < 4294967296 ∧ c2 = crcN j (c1 ^^^ l[k].toNat)) (fun _ i => 8 - (intOf i).toNat)
      case atStart => exact ⟨0, _, Nat.zero_le _, rfl, int_u32 HB.out, xor32 hc1 (byte32 _), rfl⟩
      case round =>
        obtain ⟨j, c2, hj, rfl, rfl, hc2, he2⟩ := hrel
        have HE2 := Lib.hid he2; clear he2
        by_cases hjt : j < 8
        · by_cases hodd : c2 % 2 = 1
          · have HX := Lib.hid (xor_poly c2 hc2)
            have ht := rem2_odd c2 hodd
            go_wp2
            go_round
            case rel => exact ⟨j + 1, _, by omega, by go_num, int_u32 HX.out, xor32 (by omega) (by decide), by rw [crcN_succ, ← HE2.out]; unfold crc1; rw [if_pos hodd]⟩
            case measure => simp [intOf]; omega
          · have ht := rem2_even c2 hodd
            go_wp2
            go_round
            case rel => exact ⟨j + 1, c2 / 2, by omega, by go_num, by go_num, by omega, by rw [crcN_succ, ← HE2.out]; unfold crc1; rw [if_neg hodd]⟩
            case measure => simp [intOf]; omega
        · go_wp2
          go_round
          case rel =>
            refine ⟨k + 1, c2, by omega, by go_num, rfl, hc2, ?_⟩
            rw [ltake_snoc l k hlt, crcF_snoc, ← HE.out, HE2.out]
            unfold crcS
            rw [show j = 8 by omega]
          case measure => simp [intOf]; omega
    · have HO := Lib.hid (xor_ones c1 hc1)
      go_wp2
      go_ret
      exact ⟨ret_int (by rw [HO.out, HE.out, ltake_all l hlt]; rfl), rfl⟩

theorem rlit_byte (u k : Nat) : byt (((u / 256 ^ k : Nat) : Int) % 256) = UInt8.ofNat (u / 256 ^ k) := by
  unfold byt
  apply UInt8.toNat_inj.1
  rw [UInt8.toNat_ofNat', UInt8.toNat_ofNat']
  omega
theorem div_step (u k : Nat) : u / 256 ^ k / 256 = u / 256 ^ (k + 1) := by rw [Nat.div_div_eq_div_mul, Nat.pow_succ]

set_option maxHeartbeats 400000 in
theorem Rlittle_any (u n : Int) (w : World) (hn0 : 0 ≤ n) (hn : n ≤ 8) (h0 : 0 ≤ u) (h1 : u < 18446744073709551616) :
    Calls Try.prog 29 #[.int .u64 u, .int .i64 n] w fun e w' => e = .returned (.string (bs (lit u.toNat n.toNat))) ∧ Below w.heap.size w w' := by
  obtain ⟨n, rfl⟩ := Int.eq_ofNat_of_zero_le hn0
  rw [Int.toNat_natCast]
  go_enter Try.func29, Try.ntmps29
  go_wp2
  go_loopw [0, 5, 6] (fun a s i wr => ∃ (k x : Nat), k ≤ n ∧ i = .int .i64 k ∧ a = .int .u64 x ∧ x < 18446744073709551616 ∧ x = u.toNat / 256 ^ k ∧ s = .string (bs (lit u.toNat k)) ∧ Below w.heap.size w wr) (fun _ _ i _ => n - (intOf i).toNat)
  case atStart => exact ⟨0, u.toNat, Nat.zero_le _, rfl, by rw [Int.toNat_of_nonneg h0], by omega, by simp, rfl, Below.refl _ _⟩
  case round =>
    obtain ⟨k, x, hk, rfl, rfl, hx, hxe, rfl, hb⟩ := hrel
    have HX := Lib.hid hxe; clear hxe
    have hz : (lit u.toNat k).length ≤ 8 := by rw [lit_length]; omega
    have hcv := fun (W : World) cap => run_str_one (P := Try.prog) W ((x : Int) % 256) 5 28 9 cap Try.underlying28 Try.underlying5 Try.underlying9 (by omega) (by omega)
    by_cases hlt : k < n
    · go_wp2
      go_roundw
      case rel =>
        refine ⟨k + 1, x / 256, by omega, by go_num, by go_num, by omega, by rw [HX.out, div_step], ?_, hb.alloc hb.size _⟩
        rw [lit_snoc, ← rlit_byte, ← HX.out]
      case measure => simp [intOf]; omega
    · go_wp2
      go_ret
      exact ⟨ret_bs (by rw [show k = n by omega]), hb⟩
end Go.Proofs.Ytilfhcnliagdjaa
