/- What checksum's Update and CRC return. No conditions but the numbers' own ranges. -/
import Derived.Test.YtkpfkknldeafkaaSumPlain
namespace Go.Proofs.Ytkpfkknldeafkaa
open Go.RowKit

set_option maxRecDepth 100000 in
theorem bits_xor_u32_nat (a b : Nat) (ha : a < 4294967296) (hb : b < 4294967296) :
    bits .xor .u32 (a : Int) (b : Int) = ((a ^^^ b : Nat) : Int) := by
  have hx : a ^^^ b < 4294967296 := xor32 ha hb
  have h1 : (BitVec.ofInt 32 (a : Int)).toNat = a := by
    rw [BitVec.ofInt_natCast, BitVec.toNat_ofNat]; exact Nat.mod_eq_of_lt (by omega)
  have h2 : (BitVec.ofInt 32 (b : Int)).toNat = b := by
    rw [BitVec.ofInt_natCast, BitVec.toNat_ofNat]; exact Nat.mod_eq_of_lt (by omega)
  show IntKind.u32.wrap ((BitVec.ofInt 32 (a : Int) ^^^ BitVec.ofInt 32 (b : Int)).toNat : Int) = _
  rw [BitVec.toNat_xor, h1, h2, IntKind.wrap_u32]
  omega
theorem and_one_u32 (c : Nat) (hc : c < 4294967296) : bits .and .u32 (c : Int) 1 = ((c % 2 : Nat) : Int) := by
  have h1 : (BitVec.ofInt 32 (c : Int)).toNat = c := by
    rw [BitVec.ofInt_natCast, BitVec.toNat_ofNat]; exact Nat.mod_eq_of_lt (by omega)
  show IntKind.u32.wrap ((BitVec.ofInt 32 (c : Int) &&& BitVec.ofInt 32 1).toNat : Int) = _
  rw [BitVec.toNat_and, h1, show (BitVec.ofInt 32 1).toNat = 1 from by decide, Nat.and_one_is_mod, IntKind.wrap_u32]
  omega
theorem odd_u32 (c : Nat) (hc : c < 4294967296) (h : c % 2 = 1) : (bits .and .u32 (c : Int) 1 == 1) = true := by rw [and_one_u32 c hc, h]; rfl
theorem even_u32 (c : Nat) (hc : c < 4294967296) (h : ¬ c % 2 = 1) : (bits .and .u32 (c : Int) 1 == 1) = false := by
  rw [and_one_u32 c hc]; rw [beq_eq_false_iff_ne]; omega
theorem xor_ones (c : Nat) (hc : c < 4294967296) : bits .xor .u32 (c : Int) 4294967295 = ((c ^^^ 4294967295 : Nat) : Int) := bits_xor_u32_nat c 4294967295 hc (by decide)
theorem xor_poly (c : Nat) (hc : c < 4294967296) : bits .xor .u32 ((c : Int) / 2) 2197175160 = ((c / 2 ^^^ 2197175160 : Nat) : Int) :=
  bits_xor_u32_nat (c / 2) 2197175160 (by omega) (by decide)
theorem xor_byte (c : Nat) (b : UInt8) (hc : c < 4294967296) : bits .xor .u32 (c : Int) ((b.toNat : Int) % 4294967296) = ((c ^^^ b.toNat : Nat) : Int) := by
  have := b.toNat_lt
  rw [show ((b.toNat : Int) % 4294967296) = ((b.toNat : Nat) : Int) from by omega]
  exact bits_xor_u32_nat c b.toNat hc (by omega)
theorem int_u32 {a b : Int} (h : a = b) : Value.int .u32 a = .int .u32 b := by rw [h]

set_option maxRecDepth 100000 in
set_option maxHeartbeats 800000 in
theorem Update_any (c : Int) (l : List UInt8) (w : World) (hs : l.length ≤ maxLen) (h0 : 0 ≤ c) (h1 : c < 4294967296) :
    Calls Try.prog 122 #[.int .u32 c, .string (bs l)] w fun e w' => e = .returned (.int .u32 (upd c.toNat l : Nat)) ∧ w = w' := by
  unfold maxLen at hs
  have hco : bits .xor .u32 c 4294967295 = ((c.toNat ^^^ 4294967295 : Nat) : Int) := by
    have := xor_ones c.toNat (by omega); rwa [Int.toNat_of_nonneg h0] at this
  have HCO := Lib.hid hco; clear hco
  go_enter Try.func122, Try.ntmps122
  go_wp2
  go_loop [5, 12] (fun hh i => ∃ (k c1 : Nat), k ≤ l.length ∧ i = .int .i64 k ∧ hh = .int .u32 c1 ∧ c1 < 4294967296 ∧ c1 = crcF (c.toNat ^^^ 4294967295) (l.take k)) (fun _ i => l.length - (intOf i).toNat)
  case atStart => exact ⟨0, _, Nat.zero_le _, rfl, int_u32 HCO.out, xor32 (by omega) (by decide), by rw [List.take_zero]; rfl⟩
  case round =>
    obtain ⟨k, c1, hk, rfl, rfl, hc1, he⟩ := hrel
    have HE := Lib.hid he; clear he
    by_cases hlt : k < l.length
    · have HB := Lib.hid (xor_byte c1 l[k] hc1)
      go_wp2
      go_loop [5, 21] (fun hh i => ∃ (j c2 : Nat), j ≤ 8 ∧ i = .int .i64 j ∧ hh = .int .u32 c2 ∧ c2 < 4294967296 ∧ c2 = crcN j (c1 ^^^ l[k].toNat)) (fun _ i => 8 - (intOf i).toNat)
      case atStart => exact ⟨0, _, Nat.zero_le _, rfl, int_u32 HB.out, xor32 hc1 (byte32 _), rfl⟩
      case round =>
        obtain ⟨j, c2, hj, rfl, rfl, hc2, he2⟩ := hrel
        have HE2 := Lib.hid he2; clear he2
        by_cases hjt : j < 8
        · by_cases hodd : c2 % 2 = 1
          · have HX := Lib.hid (xor_poly c2 hc2)
            have ht := odd_u32 c2 hc2 hodd
            go_wp2
            go_round
            case rel => exact ⟨j + 1, _, by omega, by go_num, int_u32 HX.out, xor32 (by omega) (by decide), by rw [crcN_succ, ← HE2.out]; unfold crc1; rw [if_pos hodd]⟩
            case measure => simp [intOf]; omega
          · have ht := even_u32 c2 hc2 hodd
            go_wp2
            go_round
            case rel => exact ⟨j + 1, c2 / 2, by omega, by go_num, by go_num, by omega, by rw [crcN_succ, ← HE2.out]; unfold crc1; rw [if_neg hodd]⟩
            case measure => simp [intOf]; omega
        · go_wp2
          go_round
          case rel =>
            refine ⟨k + 1, c2, by omega, by go_num, rfl, hc2, ?_⟩
            rw [ltake_snoc l k hlt, crcF_snoc, ← HE.out, HE2.out]
            unfold crcS
            rw [show j = 8 by omega]
          case measure => simp [intOf]; omega
    · have HO := Lib.hid (xor_ones c1 hc1)
      go_wp2
      go_ret
      exact ⟨ret_int (by rw [HO.out, HE.out, ltake_all l hlt]; rfl), rfl⟩

set_option maxRecDepth 100000 in
set_option maxHeartbeats 400000 in
theorem CRC_any (l : List UInt8) (w : World) (hs : l.length ≤ maxLen) :
    Calls Try.prog 115 #[.string (bs l)] w fun e w' => e = .returned (.int .u32 (crc l : Nat)) ∧ w = w' := by
  have H := Lib.hid hs; clear hs
  go_enter Try.func115, Try.ntmps115
  go_wp2_with fail
  refine (Update_any _ _ _ H.out (by decide) (by decide)).mono ?_
  rintro e w' ⟨rfl, rfl⟩
  go_wp2
  go_ret
  exact ⟨rfl, rfl⟩

theorem Try.info5 : (Try.prog.info? 5).map (fun i => (i.zero, i.size, i.bytes)) = some (some (.int .u8 0), 1, 1) := by kernel_rfl

end Go.Proofs.Ytkpfkknldeafkaa
