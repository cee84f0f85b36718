/- The examples of the chapter, and the laws' own walks. No conditions. -/
import Derived.Test.YtilfhcnliagdjaaSumRef2
namespace Go.Proofs.Ytilfhcnliagdjaa
open Go.RowKit
theorem ex_crc : ((crc [49, 50, 51, 52, 53, 54, 55, 56, 57] : Nat) : Int) = 3808858755 := by decide +kernel
theorem ex_fnv0 : ((fnv [] : Nat) : Int) = 14695981039346656037 := by decide +kernel
theorem ex_fnva : ((fnv [97] : Nat) : Int) = 12638187200555641996 := by decide +kernel
theorem ex_open : open' [97, 98, 99] = ([], 6) := by decide +kernel
theorem ex_hex : hex 255 = [48, 48, 48, 48, 48, 48, 48, 48, 48, 48, 48, 48, 48, 48, 102, 102] := by decide +kernel

set_option maxHeartbeats 400000 in
theorem examples_any (w : World) :
    Calls Try.prog 11 #[] w fun e w' => e = .returned (.bool true) ∧ Below w.heap.size w w' := by
  have s1 : ByteArray.mk #[97, 98, 99] = bs [97, 98, 99] := rfl
  have s2 : ByteArray.mk #[49, 50, 51, 52, 53, 54, 55, 56, 57] = bs [49, 50, 51, 52, 53, 54, 55, 56, 57] := rfl
  have s3 : ByteArray.mk #[] = bs [] := rfl
  have s4 : ByteArray.mk #[97] = bs [97] := rfl
  have S1 := Lib.hid s1; clear s1
  have S2 := Lib.hid s2; clear s2
  have S3 := Lib.hid s3; clear s3
  have S4 := Lib.hid s4; clear s4
  have e1 := ex_crc
  have e2 := ex_fnv0
  have e3 := ex_fnva
  have e4 := ex_open
  have e5 := ex_hex
  go_enter Try.func11, Try.ntmps11
  go_wp2_with fail
  rw [S1.out]
  refine (Open_any _ _ (by decide)).mono ?_
  rintro e w1 ⟨rfl, hb1⟩
  go_wp2_with fail
  rw [S2.out]
  refine (CRC_any _ _ (by decide)).mono ?_
  rintro e w2 ⟨rfl, rfl⟩
  go_wp2_with fail
  rw [S3.out]
  refine (FNV_any _ _ (by decide)).mono ?_
  rintro e w2 ⟨rfl, rfl⟩
  go_wp2_with fail
  rw [S4.out]
  refine (FNV_any _ _ (by decide)).mono ?_
  rintro e w2 ⟨rfl, rfl⟩
  go_wp2_with fail
  refine (Hex_any _ _ (by decide) (by decide)).mono ?_
  rintro e w2 ⟨rfl, hb2⟩
  go_wp2
  go_ret
  exact ⟨rfl, btrans hb1 hb1.size hb2⟩
set_option maxHeartbeats 400000 in
theorem lawHashes (l : List UInt8) (a b : Int) (w : World) (hl : l.length ≤ 9223372036854775800) (a0 : 0 ≤ a) (a1 : a < 18446744073709551616) (b0 : 0 ≤ b) (b1 : b < 18446744073709551616) :
    Calls Try.prog 7 #[.string (bs l), .int .u64 a, .int .u64 b] w fun e w' => e = .returned (.bool true) ∧ Below w.heap.size w w' := by
  have hm : l.length ≤ maxLen := by unfold maxLen; omega
  have H := Lib.hid hm; clear hm
  go_enter Try.func7, Try.ntmps7
  go_wp2_with fail
  refine (FNV_any _ _ H.out).mono ?_
  rintro e w2 ⟨rfl, rfl⟩
  go_wp2_with fail
  refine (RFNV_any _ _ H.out).mono ?_
  rintro e w2 ⟨rfl, rfl⟩
  go_wp2_with fail
  refine (Extend_any _ _ _ H.out a0 a1).mono ?_
  rintro e w2 ⟨rfl, rfl⟩
  go_wp2_with fail
  refine (RExtend_any _ _ _ H.out a0 a1).mono ?_
  rintro e w2 ⟨rfl, rfl⟩
  go_wp2_with fail
  refine (Mix_any _ _ _ a0 a1 b0 b1).mono ?_
  rintro e w1 ⟨rfl, hb1⟩
  go_wp2_with fail
  refine (RMix_any _ _ _ a0 a1 b0 b1).mono ?_
  rintro e w2 ⟨rfl, hb2⟩
  go_wp2_with fail
  refine (examples_any _).mono ?_
  rintro e w3 ⟨rfl, hb3⟩
  go_wp2
  go_ret
  have h12 := btrans hb1 hb1.size hb2
  exact ⟨rfl, btrans h12 h12.size hb3⟩

set_option maxHeartbeats 400000 in
theorem lawSums (l : List UInt8) (c : Int) (w : World) (hl : l.length ≤ 9223372036854775800) (c0 : 0 ≤ c) (c1 : c < 4294967296) :
    Calls Try.prog 4 #[.string (bs l), .int .u32 c] w fun e w' => e = .returned (.bool true) ∧ Below w.heap.size w w' := by
  have hm : l.length ≤ maxLen := by unfold maxLen; omega
  have H := Lib.hid hm; clear hm
  go_enter Try.func4, Try.ntmps4
  go_wp2_with fail
  refine (Open_any _ _ hl).mono ?_
  rintro e w1 ⟨rfl, hb1⟩
  go_wp2_with fail
  refine (ROpen_any _ _ hl).mono ?_
  rintro e w2 ⟨rfl, hb2⟩
  have h2 := btrans hb1 hb1.size hb2; clear hb1 hb2
  go_wp2_with fail
  refine (CRC_any _ _ H.out).mono ?_
  rintro e w3 ⟨rfl, rfl⟩
  go_wp2_with fail
  refine (RCRC_any _ _ H.out).mono ?_
  rintro e w3 ⟨rfl, rfl⟩
  go_wp2_with fail
  refine (Update_any _ _ _ H.out c0 c1).mono ?_
  rintro e w3 ⟨rfl, rfl⟩
  go_wp2_with fail
  refine (RUpdate_any _ _ _ H.out c0 c1).mono ?_
  rintro e w3 ⟨rfl, rfl⟩
  go_wp2_with fail
  refine (Seal_any _ _ hl).mono ?_
  rintro e w3 ⟨rfl, hb3⟩
  have h3 := btrans h2 h2.size hb3; clear h2 hb3
  go_wp2_with fail
  refine (RSeal_any _ _ hl).mono ?_
  rintro e w4 ⟨rfl, hb4⟩
  have h4 := btrans h3 h3.size hb4; clear h3 hb4
  go_wp2_with fail
  refine (examples_any _).mono ?_
  rintro e w5 ⟨rfl, hb5⟩
  go_wp2
  go_ret
  exact ⟨rfl, btrans h4 h4.size hb5⟩

theorem u64_range {a : Int} (h : (Lit.int .u64 a).wf = true) : 0 ≤ a ∧ a < 18446744073709551616 := by
  have h1 : IntKind.u64.min = 0 := rfl
  have h2 : IntKind.u64.max = 18446744073709551615 := rfl
  simp only [Lit.wf, Bool.and_eq_true, decide_eq_true_eq, h1, h2] at h; omega
theorem u32_range {a : Int} (h : (Lit.int .u32 a).wf = true) : 0 ≤ a ∧ a < 4294967296 := by
  have h1 : IntKind.u32.min = 0 := rfl
  have h2 : IntKind.u32.max = 4294967295 := rfl
  simp only [Lit.wf, Bool.and_eq_true, decide_eq_true_eq, h1, h2] at h; omega
theorem u16_range {a : Int} (h : (Lit.int .u16 a).wf = true) : 0 ≤ a ∧ a < 65536 := by
  have h1 : IntKind.u16.min = 0 := rfl
  have h2 : IntKind.u16.max = 65535 := rfl
  simp only [Lit.wf, Bool.and_eq_true, decide_eq_true_eq, h1, h2] at h; omega
theorem u8_range {a : Int} (h : (Lit.int .u8 a).wf = true) : 0 ≤ a ∧ a < 256 := by
  have h1 : IntKind.u8.min = 0 := rfl
  have h2 : IntKind.u8.max = 255 := rfl
  simp only [Lit.wf, Bool.and_eq_true, decide_eq_true_eq, h1, h2] at h; omega
theorem hashesLaw (l : List UInt8) (hl : l.length ≤ 140737488351232) (a : Int) (wa : (Lit.int .u64 a).wf = true) (b : Int) (wb : (Lit.int .u64 b).wf = true) (w : World) :
    Calls Try.prog 7 #[.string (bs l), .int .u64 a, .int .u64 b] w fun e w' => e = .returned (.bool true) ∧ Below w.heap.size w w' :=
  lawHashes l a b w (by omega) (u64_range wa).1 (u64_range wa).2 (u64_range wb).1 (u64_range wb).2
theorem sumsLaw (l : List UInt8) (hl : l.length ≤ 140737488351232) (c : Int) (wc : (Lit.int .u32 c).wf = true) (w : World) :
    Calls Try.prog 4 #[.string (bs l), .int .u32 c] w fun e w' => e = .returned (.bool true) ∧ Below w.heap.size w w' :=
  lawSums l c w (by omega) (u32_range wc).1 (u32_range wc).2
end Go.Proofs.Ytilfhcnliagdjaa
