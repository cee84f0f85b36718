/- What the reference's Update and CRC return. No conditions but the numbers' own ranges. -/
import Derived.Test.YtkpfkknldeafkaaCrcWalk
namespace Go.Proofs.Ytkpfkknldeafkaa
open Go.RowKit

theorem rem2_odd (c : Nat) (h : c % 2 = 1) : (((c : Int) % 2) == 1) = true := by rw [beq_iff_eq]; omega
theorem rem2_even (c : Nat) (h : ¬ c % 2 = 1) : (((c : Int) % 2) == 1) = false := by rw [beq_eq_false_iff_ne]; omega

set_option maxRecDepth 100000 in
set_option maxHeartbeats 800000 in
theorem RUpdate_any (c : Int) (l : List UInt8) (w : World) (hs : l.length ≤ maxLen) (h0 : 0 ≤ c) (h1 : c < 4294967296) :
    Calls Try.prog 123 #[.int .u32 c, .string (bs l)] w fun e w' => e = .returned (.int .u32 (upd c.toNat l : Nat)) ∧ w = w' := by
  unfold maxLen at hs
  have hco : bits .xor .u32 c 4294967295 = ((c.toNat ^^^ 4294967295 : Nat) : Int) := by
    have := xor_ones c.toNat (by omega); rwa [Int.toNat_of_nonneg h0] at this
  have HCO := Lib.hid hco; clear hco
  go_enter Try.func123, Try.ntmps123
  go_wp2
  go_loop [5, 6] (fun hh i => ∃ (k c1 : Nat), k ≤ l.length ∧ i = .int .i64 k ∧ hh = .int .u32 c1 ∧ c1 < 4294967296 ∧ c1 = crcF (c.toNat ^^^ 4294967295) (l.take k)) (fun _ i => l.length - (intOf i).toNat)
  case atStart => exact ⟨0, _, Nat.zero_le _, rfl, int_u32 HCO.out, xor32 (by omega) (by decide), by rw [List.take_zero]; rfl⟩
  case round =>
    obtain ⟨k, c1, hk, rfl, rfl, hc1, he⟩ := hrel
    have HE := Lib.hid he; clear he
    by_cases hlt : k < l.length
    · have HB := Lib.hid (xor_byte c1 l[k] hc1)
      go_wp2
      go_loop [5, 7] (fun hh i => ∃ (j c2 : Nat), j ≤ 8 ∧ i = .int .i64 j ∧ hh = .int .u32 c2 ∧ c2 < 4294967296 ∧ c2 = crcN j (c1 ^^^ l[k].toNat)) (fun _ i => 8 - (intOf i).toNat)
      case atStart => exact ⟨0, _, Nat.zero_le _, rfl, int_u32 HB.out, xor32 hc1 (byte32 _), rfl⟩
      case round =>
        obtain ⟨j, c2, hj, rfl, rfl, hc2, he2⟩ := hrel
        have HE2 := Lib.hid he2; clear he2
        by_cases hjt : j < 8
        · by_cases hodd : c2 % 2 = 1
          · have HX := Lib.hid (xor_poly c2 hc2)
            have ht := rem2_odd c2 hodd
            go_wp2
            go_round
            case rel => exact ⟨j + 1, _, by omega, by go_num, int_u32 HX.out, xor32 (by omega) (by decide), by rw [crcN_succ, ← HE2.out]; unfold crc1; rw [if_pos hodd]⟩
            case measure => simp [intOf]; omega
          · have ht := rem2_even c2 hodd
            go_wp2
            go_round
            case rel => exact ⟨j + 1, c2 / 2, by omega, by go_num, by go_num, by omega, by rw [crcN_succ, ← HE2.out]; unfold crc1; rw [if_neg hodd]⟩
            case measure => simp [intOf]; omega
        · go_wp2
          go_round
          case rel =>
            refine ⟨k + 1, c2, by omega, by go_num, rfl, hc2, ?_⟩
            rw [ltake_snoc l k hlt, crcF_snoc, ← HE.out, HE2.out]
            unfold crcS
            rw [show j = 8 by omega]
          case measure => simp [intOf]; omega
    · have HO := Lib.hid (xor_ones c1 hc1)
      go_wp2
      go_ret
      exact ⟨ret_int (by rw [HO.out, HE.out, ltake_all l hlt]; rfl), rfl⟩

set_option maxRecDepth 100000 in
set_option maxHeartbeats 400000 in
theorem RCRC_any (l : List UInt8) (w : World) (hs : l.length ≤ maxLen) :
    Calls Try.prog 119 #[.string (bs l)] w fun e w' => e = .returned (.int .u32 (crc l : Nat)) ∧ w = w' := by
  have H := Lib.hid hs; clear hs
  go_enter Try.func119, Try.ntmps119
  go_wp2_with fail
  refine (RUpdate_any _ _ _ H.out (by decide) (by decide)).mono ?_
  rintro e w' ⟨rfl, rfl⟩
  go_wp2
  go_ret
  exact ⟨rfl, rfl⟩

end Go.Proofs.Ytkpfkknldeafkaa
