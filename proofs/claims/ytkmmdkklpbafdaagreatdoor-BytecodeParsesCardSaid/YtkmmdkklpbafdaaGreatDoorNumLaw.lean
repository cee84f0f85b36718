/- The walks of the laws of layer 1 (num). The library's variables are as the program's start lays them (Laid). -/
import Derived.Test.YtkmmdkklpbafdaaGreatDoorNumParse2
namespace Go.Proofs.YtkmmdkklpbafdaaGreatDoor
open Go.RowKit

def I64 (a : Int) : Prop := -9223372036854775808 ≤ a ∧ a ≤ 9223372036854775807
theorem of_wf {a : Int} (h : (Lit.int .i64 a).wf = true) : I64 a := by
  simp only [Lit.wf, IntKind.min, IntKind.max, IntKind.signed, IntKind.bits, Bool.and_eq_true, decide_eq_true_eq, if_true] at h
  unfold I64; omega
theorem i64_fits {a : Int} : I64 a ↔ fits a = true := (fits_iff a).symm
theorem addS_bd (a b : Int) : I64 (addS a b).1 := by unfold addS; split <;> (rename_i h; first | exact i64_fits.2 h | (unfold I64; simp))
theorem subS_bd (a b : Int) : I64 (subS a b).1 := by unfold subS; split <;> (rename_i h; first | exact i64_fits.2 h | (unfold I64; simp))
theorem mulS_bd (a b : Int) : I64 (mulS a b).1 := by unfold mulS; split <;> (rename_i h; first | exact i64_fits.2 h | (unfold I64; simp))
set_option maxRecDepth 100000 in
theorem parseS_bd (l : List UInt8) : I64 (parseS l).1 := by
  unfold parseS
  split
  · split
    · rename_i h; exact i64_fits.2 h
    · unfold I64; simp
  · unfold I64; simp
theorem add_err (a b : Int) : (addS a b).2 = 0 ∨ (addS a b).2 = 3 := by unfold addS; split <;> simp
theorem mul_err (a b : Int) : (mulS a b).2 = 0 ∨ (mulS a b).2 = 3 := by unfold mulS; split <;> simp
theorem add_inv {a b x : Int} (h : addS a b = (x, 0)) : x = a + b ∧ fits (a + b) = true := by
  unfold addS at h
  split at h
  · simp at h; exact ⟨h.symm, by assumption⟩
  · simp at h
theorem mul_inv {a b x : Int} (h : mulS a b = (x, 0)) : x = a * b ∧ fits (a * b) = true := by
  unfold mulS at h
  split at h
  · simp at h; exact ⟨h.symm, by assumption⟩
  · simp at h
theorem itoa12 : Lib.itoa (-12) = [45, 49, 50] := by
  unfold Lib.itoa
  rw [if_pos (by decide), show (-12 : Int).natAbs = 12 from rfl, Lib.decDigits_two (by decide) (by decide)]
  rfl

end Go.Proofs.YtkmmdkklpbafdaaGreatDoor
