/- What sector of the laws of layer 44 returns; the examples' disks. No conditions but the sizes. -/
import Derived.Test.YtkpfkknldeafkaaDiskRef8
namespace Go.Proofs.Ytkpfkknldeafkaa
open Go.RowKit

/-! ### the examples -/
def A64 : List UInt8 := List.replicate 64 97
def d16 : Dk := ⟨List.replicate 16 B64, [], 0, 0, false⟩
def dA : Dk := { d16 with P := [(3, A64)], ops := 1 }
def dC : Dk := { d16 with ops := 1 }
def dF : Dk := { d16 with fuse := 1 }
def dE : Dk := { d16 with ops := 1, dead := true }
theorem ex1 : newS 15 = (⟨[], [], 0, 0, false⟩, 1) := by decide +kernel
theorem ex2 : newS 16 = (d16, 0) := by decide +kernel
theorem ex3 : writeS d16 3 A64 = (dA, 0) := by decide +kernel
theorem ex4 : readS dA 3 = (A64, 0) := by decide +kernel
theorem ex5 : crashD dA [] 0 = dC := by decide +kernel
theorem ex6 : readS dC 3 = (B64, 0) := by decide +kernel
theorem ex7 : fuseS d16 1 = dF := by decide +kernel
theorem ex8 : writeS dF 3 A64 = (dE, 18) := by decide +kernel
theorem ex_a : List.replicate 64 (byt 97) = A64 := by decide +kernel
theorem ex_z : List.replicate 64 (byt 0) = B64 := by decide +kernel
end Go.Proofs.Ytkpfkknldeafkaa
