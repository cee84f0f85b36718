/- The walk of SuperBest. No conditions. -/
import Derived.Test.YtkpfkknldeafkaaSupFin
namespace Go.Proofs.Ytkpfkknldeafkaa
open Go.RowKit

set_option maxRecDepth 100000 in
set_option maxHeartbeats 4000000 in
theorem bestWalk (s : List UInt8) (_ls : s.length ≤ 140737488351232) (t : List UInt8) (_lt : t.length ≤ 140737488351232) (w : World) :
    Calls Try.prog 5 #[.string (bs s), .string (bs t)] w fun e w' => e = .returned (.bool true) ∧ Below w.heap.size w w' := by
  by_cases h3 : (300 : Int) < (s.length : Int)
  · go_enter Try.func5, Try.ntmps5
    go_wp2_with fail
    refine (works_any _).mono ?_
    rintro e wz ⟨rfl, hbz⟩
    have HZ := Lib.hid hbz; clear hbz
    go_wp2_with fail
    go_ret
    exact ⟨rfl, btrans (Below.refl w.heap.size w) (Below.refl w.heap.size w).size HZ.out⟩
  · by_cases h4 : (300 : Int) < (t.length : Int)
    · go_enter Try.func5, Try.ntmps5
      go_wp2_with fail
      refine (works_any _).mono ?_
      rintro e wz ⟨rfl, hbz⟩
      have HZ := Lib.hid hbz; clear hbz
      go_wp2_with fail
      go_ret
      exact ⟨rfl, btrans (Below.refl w.heap.size w) (Below.refl w.heap.size w).size HZ.out⟩
    · skip
      obtain ⟨⟨x, ok⟩, hs⟩ : ∃ r, bestS s t = r := ⟨_, rfl⟩
      have HS := Lib.hid hs; clear hs
      go_enter Try.func5, Try.ntmps5
      go_wp2_with fail
      refine (SBest_any s t _ (by omega) (by omega)).mono ?_
      rw [HS.out]
      simp only [spV]
      rintro e w1 ⟨rfl, hb1⟩
      have HX := Lib.hid (Bx.new w1 #[.int .i64 x.g, .int .i64 x.e, .int .i64 x.a, .int .i64 x.z, .int .i64 x.p] 23); have HB := Lib.hid (hb1.alloc hb1.size (.cells #[.int .i64 x.g, .int .i64 x.e, .int .i64 x.a, .int .i64 x.z, .int .i64 x.p] 23)); clear hb1
      go_upto_region 4 with (fail)
      generalize hW : w1.alloc (.cells #[.int .i64 x.g, .int .i64 x.e, .int .i64 x.a, .int .i64 x.z, .int .i64 x.p] 23) = v1 at HX HB ⊢
      clear hW
      go_wp2_with fail
      refine (RSBest_any s t _ (by omega) (by omega)).mono ?_
      rw [HS.out]
      simp only [spV]
      rintro e w2 ⟨rfl, hb2⟩
      have HX := Lib.hid ((HX.out.call hb2).alloc (.cells #[.int .i64 x.g, .int .i64 x.e, .int .i64 x.a, .int .i64 x.z, .int .i64 x.p] 23)); have HY := Lib.hid (Bx.new w2 #[.int .i64 x.g, .int .i64 x.e, .int .i64 x.a, .int .i64 x.z, .int .i64 x.p] 23); have HB := Lib.hid ((btrans HB.out HB.out.size hb2).alloc (btrans HB.out HB.out.size hb2).size (.cells #[.int .i64 x.g, .int .i64 x.e, .int .i64 x.a, .int .i64 x.z, .int .i64 x.p] 23)); clear hb2
      go_upto_region 5 with (fail)
      generalize hW : w2.alloc (.cells #[.int .i64 x.g, .int .i64 x.e, .int .i64 x.a, .int .i64 x.z, .int .i64 x.p] 23) = v2 at HX HY HB ⊢
      clear hW
      have x0 : v2.cell? ⟨w1.heap.size, 0, none⟩ = some (.int .i64 x.g) := HX.out.cell 0
      have x1 : v2.cell? ⟨w1.heap.size, 1, none⟩ = some (.int .i64 x.e) := HX.out.cell 1
      have x2 : v2.cell? ⟨w1.heap.size, 2, none⟩ = some (.int .i64 x.a) := HX.out.cell 2
      have x3 : v2.cell? ⟨w1.heap.size, 3, none⟩ = some (.int .i64 x.z) := HX.out.cell 3
      have x4 : v2.cell? ⟨w1.heap.size, 4, none⟩ = some (.int .i64 x.p) := HX.out.cell 4
      have y0 : v2.cell? ⟨w2.heap.size, 0, none⟩ = some (.int .i64 x.g) := HY.out.cell 0
      have y1 : v2.cell? ⟨w2.heap.size, 1, none⟩ = some (.int .i64 x.e) := HY.out.cell 1
      have y2 : v2.cell? ⟨w2.heap.size, 2, none⟩ = some (.int .i64 x.a) := HY.out.cell 2
      have y3 : v2.cell? ⟨w2.heap.size, 3, none⟩ = some (.int .i64 x.z) := HY.out.cell 3
      have y4 : v2.cell? ⟨w2.heap.size, 4, none⟩ = some (.int .i64 x.p) := HY.out.cell 4
      go_wp2_with fail
      refine (works_any _).mono ?_
      rintro e wz ⟨rfl, hbz⟩
      have HZ := Lib.hid hbz; clear hbz
      go_wp2_with fail
      go_ret
      exact ⟨rfl, btrans HB.out HB.out.size HZ.out⟩
end Go.Proofs.Ytkpfkknldeafkaa
