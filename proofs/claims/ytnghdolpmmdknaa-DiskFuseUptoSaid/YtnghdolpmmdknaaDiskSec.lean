/- What sector of the laws of layer 44 returns; the examples' disks. No conditions but the sizes. -/
import Derived.Test.YtnghdolpmmdknaaDiskRef8
namespace Go.Proofs.Ytnghdolpmmdknaa
open Go.RowKit

set_option maxRecDepth 100000 in
set_option maxHeartbeats 1000000 in
theorem sector_any (c : Int) (c0 : 0 ≤ c) (c1 : c < 256) (w : World) :
    Calls Try.prog 46 #[.int .u8 c] w fun e w' => e = .returned (.string (bs (List.replicate 64 (byt c)))) ∧ Below w.heap.size w w' := by
  have hB0 := Below.refl w.heap.size w
  go_enter Try.func46, Try.ntmps46
  go_wp2
  go_loopw [3, 4] (fun s i wr => ∃ k : Nat, k ≤ 64 ∧ i = .int .i64 k ∧ s = .string (bs (List.replicate k (byt c))) ∧ Below w.heap.size w wr) (fun _ i _ => 64 - (intOf i).toNat)
  case atStart => exact ⟨0, Nat.zero_le _, rfl, rfl, hB0⟩
  case round =>
    obtain ⟨k, hk, rfl, rfl, hb⟩ := hrel
    by_cases hlt : k < 64
    · have hcv := fun (W : World) cap => run_str_one (P := Try.prog) W c 5 67 9 cap Try.underlying67 Try.underlying5 Try.underlying9 c0 c1
      have hz : (List.replicate k (byt c)).length ≤ 64 := by simp; omega
      obtain ⟨B, hB⟩ : ∃ B : List UInt8, B = List.replicate k (byt c) := ⟨_, rfl⟩
      rw [← hB] at hz
      rw [← hB]
      have HB := Lib.hid (show List.replicate (k + 1) (byt c) = B ++ [byt c] by rw [hB, List.replicate_succ']); clear hB
      go_wp2
      go_roundw
      case rel => exact ⟨k + 1, by omega, by go_num, by rw [HB.out], hb.alloc hb.size _⟩
      case measure => simp [intOf]; omega
    · obtain rfl : k = 64 := by omega
      obtain ⟨B, hB⟩ : ∃ B : List UInt8, B = List.replicate 64 (byt c) := ⟨_, rfl⟩
      rw [← hB]
      have HB := Lib.hid hB; clear hB
      go_wp2
      go_ret
      exact ⟨by rw [HB.out]; rfl, hb⟩

/-! ### the examples -/
def A64 : List UInt8 := List.replicate 64 97
def d16 : Dk := ⟨List.replicate 16 B64, [], 0, 0, false⟩
def dA : Dk := { d16 with P := [(3, A64)], ops := 1 }
def dC : Dk := { d16 with ops := 1 }
def dF : Dk := { d16 with fuse := 1 }
def dE : Dk := { d16 with ops := 1, dead := true }
theorem ex1 : newS 15 = (⟨[], [], 0, 0, false⟩, 1) := by decide +kernel
theorem ex2 : newS 16 = (d16, 0) := by decide +kernel
theorem ex3 : writeS d16 3 A64 = (dA, 0) := by decide +kernel
theorem ex4 : readS dA 3 = (A64, 0) := by decide +kernel
theorem ex5 : crashD dA [] 0 = dC := by decide +kernel
theorem ex6 : readS dC 3 = (B64, 0) := by decide +kernel
theorem ex7 : fuseS d16 1 = dF := by decide +kernel
theorem ex8 : writeS dF 3 A64 = (dE, 18) := by decide +kernel
theorem ex_a : List.replicate 64 (byt 97) = A64 := by decide +kernel
theorem ex_z : List.replicate 64 (byt 0) = B64 := by decide +kernel
end Go.Proofs.Ytnghdolpmmdknaa
