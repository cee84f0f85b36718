/- What checksum's Seal, Open and Mix return. No conditions but the strings' and numbers' own ranges. -/
import Derived.Test.YtilfhcnliagdjaaSumWalk
namespace Go.Proofs.Ytilfhcnliagdjaa
open Go.RowKit

set_option maxHeartbeats 400000 in
theorem Seal_any (l : List UInt8) (w : World) (hs : l.length ≤ 9223372036854775800) :
    Calls Try.prog 9 #[.string (bs l)] w fun e w' => e = .returned (.string (bs (seal' l))) ∧ Below w.heap.size w w' := by
  have hm : l.length ≤ maxLen := by unfold maxLen; omega
  have H := Lib.hid hm; clear hm
  have hl := crc_lt l
  have hz : (lit (crc l) 4).length ≤ 4 := by rw [lit_length]; omega
  go_enter Try.func9, Try.ntmps9
  go_wp2_with fail
  refine (CRC_any _ _ H.out).mono ?_
  rintro e w' ⟨rfl, rfl⟩
  go_wp2_with fail
  refine (little_any _ _ _ (by decide) (by decide) (by omega) (by omega)).mono ?_
  rintro e w' ⟨rfl, hb⟩
  go_wp2
  go_ret
  exact ⟨rfl, hb⟩

/-- what Open answers -/
def open' (l : List UInt8) : List UInt8 × Int :=
  if l.length < 4 then ([], 6) else if seal' (l.take (l.length - 4)) = l then (l.take (l.length - 4), 0) else ([], 14)

set_option maxHeartbeats 400000 in
theorem Open_any (l : List UInt8) (w : World) (hs : l.length ≤ 9223372036854775800) :
    Calls Try.prog 10 #[.string (bs l)] w fun e w' => e = .returned (.tuple #[.string (bs (open' l).1), .int .i64 (open' l).2]) ∧ Below w.heap.size w w' := by
  by_cases h4 : l.length < 4
  · have e1 : open' l = ([], 6) := by unfold open'; rw [if_pos (by simpa using h4)]
    rw [e1]
    go_enter Try.func10, Try.ntmps10
    go_wp2
    go_ret2
    exact ⟨rfl, Below.refl _ _⟩
  · have HZ := Lib.hid (show (l.take (l.length - 4)).length ≤ 9223372036854775800 by rw [List.length_take]; omega)
    by_cases hq : seal' (l.take (l.length - 4)) = l
    · have e1 : open' l = (l.take (l.length - 4), 0) := by unfold open'; rw [if_neg h4, if_pos hq]
      have hc : (seal' (l.take (l.length - 4)) == l) = true := by simp [hq]
      rw [e1]
      clear hq e1
      go_enter Try.func10, Try.ntmps10
      go_wp2_with fail
      refine (Seal_any _ _ HZ.out).mono ?_
      rintro e w' ⟨rfl, hb⟩
      go_wp2
      go_ret2
      exact ⟨rfl, hb⟩
    · have e1 : open' l = ([], 14) := by unfold open'; rw [if_neg h4, if_neg hq]
      have hc : (seal' (l.take (l.length - 4)) == l) = false := by simp [hq]
      rw [e1]
      clear hq e1
      go_enter Try.func10, Try.ntmps10
      go_wp2_with fail
      refine (Seal_any _ _ HZ.out).mono ?_
      rintro e w' ⟨rfl, hb⟩
      go_wp2
      go_ret2
      exact ⟨rfl, hb⟩

def mix (a b : Nat) : Nat := ext (fnv (lit a 8)) (lit b 8)
set_option maxHeartbeats 400000 in
theorem Mix_any (a b : Int) (w : World) (a0 : 0 ≤ a) (a1 : a < 18446744073709551616) (b0 : 0 ≤ b) (b1 : b < 18446744073709551616) :
    Calls Try.prog 22 #[.int .u64 a, .int .u64 b] w fun e w' => e = .returned (.int .u64 (mix a.toNat b.toNat : Nat)) ∧ Below w.heap.size w w' := by
  have hz : ∀ x, (lit x 8).length ≤ maxLen := fun x => by rw [lit_length]; decide
  have HZ := Lib.hid hz; clear hz
  have hf := fnv_lt (lit a.toNat 8)
  go_enter Try.func22, Try.ntmps22
  go_wp2_with fail
  refine (little_any _ _ _ (by decide) (by decide) a0 a1).mono ?_
  rintro e w1 ⟨rfl, hb1⟩
  go_wp2_with fail
  refine (FNV_any _ _ (HZ.out _)).mono ?_
  rintro e w2 ⟨rfl, rfl⟩
  go_wp2_with fail
  refine (little_any _ _ _ (by decide) (by decide) b0 b1).mono ?_
  rintro e w2 ⟨rfl, hb2⟩
  go_wp2_with fail
  refine (Extend_any _ _ _ (HZ.out _) (by omega) (by omega)).mono ?_
  rintro e w3 ⟨rfl, rfl⟩
  go_wp2
  go_ret
  exact ⟨rfl, btrans hb1 hb1.size hb2⟩
end Go.Proofs.Ytilfhcnliagdjaa
