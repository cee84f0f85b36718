/- The walk of ValueDecodes. No conditions. -/
import Derived.Test.YtmffdoblpkjmjaaDoorValR
import Derived.Test.YtmffdoblpkjmjaaDoorValI
namespace Go.Proofs.YtmffdoblpkjmjaaDoor
open Go.RowKit

set_option maxRecDepth 100000 in
set_option maxHeartbeats 16000000 in
theorem decodesWalk5 (l : List UInt8) (hl : l.length ≤ 140737488351232) (n : Int) (_ : (Lit.int .i64 n).wf = true) (w : World) (hL : Laid w) :
    Calls Tryd.prog 9 #[.string (bs l), .int .i64 n] w fun e w' => e = .returned (.bool true) ∧ Below w.heap.size w w' := by
  by_cases h3 : (300 : Int) < (l.length : Int)
  · skip
    go_enter Tryd.func9, Tryd.ntmps9
    go_wp2_with fail
    refine (works_any _ hL).mono ?_
    rintro er wz ⟨rfl, hbz⟩
    go_wp2
    go_ret
    exact ⟨rfl, hbz⟩
  have hl6 : l.length ≤ 1000000 := by omega
  obtain ⟨⟨⟨rk, rn, rs⟩, nx, e⟩, hr⟩ : ∃ r, decV l n = r := ⟨_, rfl⟩
  have q3 : (nx == nx) = true := by simp
  have q4 : (rk == rk) = true := by simp
  have q5 : (rn == rn) = true := by simp
  have q6 : (rs == rs) = true := by simp
  have q7 : (e == e) = true := by simp
  have HR := Lib.hid hr; clear hr
  have HB := Lib.hid (Below.refl w.heap.size w)
  go_enter Tryd.func9, Tryd.ntmps9
  go_wp2_with fail
  refine (VDecode_any l n hl6 _).mono ?_
  rw [HR.out]
  simp only [vV]
  rintro er w1 ⟨rfl, hb1⟩
  have hal := (Below.refl w1.heap.size w1).alloc (Nat.le_refl _) (.cells #[.int .i64 rk, .int .i64 rn, .string (bs rs)] 23)
  have HY := Lib.hid (Bx.new w1 #[.int .i64 rk, .int .i64 rn, .string (bs rs)] 23)
  have HB := Lib.hid (btrans (btrans HB.out HB.out.size hb1) (btrans HB.out HB.out.size hb1).size hal); clear hb1 hal
  go_upto_region 4 with (fail)
  generalize hW : w1.alloc (.cells #[.int .i64 rk, .int .i64 rn, .string (bs rs)] 23) = v1 at HB HY ⊢
  clear hW
  go_wp2_with fail
  refine (RVDecode_any l n hl6 _).mono ?_
  rw [HR.out]
  simp only [vV]
  rintro er w2 ⟨rfl, hb1⟩
  have hal := (Below.refl w2.heap.size w2).alloc (Nat.le_refl _) (.cells #[.int .i64 rk, .int .i64 rn, .string (bs rs)] 23)
  have HY := Lib.hid ((HY.out.call hb1).call hal)
  have HZ := Lib.hid (Bx.new w2 #[.int .i64 rk, .int .i64 rn, .string (bs rs)] 23)
  have HB := Lib.hid (btrans (btrans HB.out HB.out.size hb1) (btrans HB.out HB.out.size hb1).size hal); clear hb1 hal
  go_upto_region 5 with (fail)
  generalize hW : w2.alloc (.cells #[.int .i64 rk, .int .i64 rn, .string (bs rs)] 23) = v2 at HB HY HZ ⊢
  clear hW
  have y0 : v2.cell? ⟨w1.heap.size, 0, none⟩ = some (.int .i64 rk) := HY.out.cell 0
  have y1 : v2.cell? ⟨w1.heap.size, 1, none⟩ = some (.int .i64 rn) := HY.out.cell 1
  have y2 : v2.cell? ⟨w1.heap.size, 2, none⟩ = some (.string (bs rs)) := HY.out.cell 2
  have z0 : v2.cell? ⟨w2.heap.size, 0, none⟩ = some (.int .i64 rk) := HZ.out.cell 0
  have z1 : v2.cell? ⟨w2.heap.size, 1, none⟩ = some (.int .i64 rn) := HZ.out.cell 1
  have z2 : v2.cell? ⟨w2.heap.size, 2, none⟩ = some (.string (bs rs)) := HZ.out.cell 2
  go_wp2_with fail
  refine (works_any _ (hL.below HB.out)).mono ?_
  rintro er wz ⟨rfl, hbz⟩
  go_wp2
  go_ret
  exact ⟨rfl, btrans HB.out HB.out.size hbz⟩
end Go.Proofs.YtmffdoblpkjmjaaDoor
