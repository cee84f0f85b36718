/- The walk of a law of layer 45: Open agrees with the reference. No conditions. -/
import Derived.Test.YtnghdolpmmdknaaSecLives
import Derived.Test.YtnghdolpmmdknaaSecROpen
namespace Go.Proofs.Ytnghdolpmmdknaa
open Go.RowKit

set_option maxRecDepth 100000 in
set_option maxHeartbeats 2000000 in
theorem opensLaw (l : List UInt8) (hl : l.length ≤ 140737488351232) (w : World) :
    Calls Try.prog 3 #[.string (bs l)] w fun e w' => e = .returned (.bool true) ∧ Below w.heap.size w w' := by
  have hB0 := Below.refl w.heap.size w
  have hlm : l.length ≤ 9223372036854775807 := by omega
  by_cases h100 : 100 < l.length
  · go_enter Try.func3, Try.ntmps3
    go_wp2_with (go_at_call 15; refine (lives_any _).mono ?_; rintro e w1 ⟨rfl, hb⟩)
    go_ret
    exact ⟨rfl, hb⟩
  · obtain ⟨g, p, q, d, er, ho⟩ : ∃ g p q d er, openS l = ((g, p, q), d, er) := ⟨_, _, _, _, _, rfl⟩
    have HO := Lib.hid ho; clear ho
    have q1 : (d == d) = true := by simp
    go_enter Try.func3, Try.ntmps3
    go_wp2_with fail
    refine (Open_any _ _ hlm).mono ?_
    rw [HO.out]
    rintro e w1 ⟨rfl, hb1⟩
    have hb2 := hb1.alloc hb1.size (.cells #[.int .i64 g, .int .i64 p, .int .i64 q] 24)
    have hbx0 : (w1.alloc (.cells #[.int .i64 g, .int .i64 p, .int .i64 q] 24)).heap[w1.heap.size]? = some (.cells #[.int .i64 g, .int .i64 p, .int .i64 q] 24 (0, 0)) := heap_alloc_new w1 _
    have HBX := Lib.hid hbx0; clear hbx0
    go_wp2_with fail
    refine (ROpen_any _ _ hlm).mono ?_
    rw [HO.out]
    rintro e w2 ⟨rfl, hb3⟩
    have hb4 := btrans hb2 hb2.size hb3
    have hbx := (hb3.block _ (lt_of_heap HBX.out)).trans HBX.out
    have hz2 := lt_of_heap hbx
    have c0 : w2.cell? ⟨w1.heap.size, 0, none⟩ = some (.int .i64 g) := by simp [World.cell?, hbx]
    have c1 : w2.cell? ⟨w1.heap.size, 1, none⟩ = some (.int .i64 p) := by simp [World.cell?, hbx]
    have c2 : w2.cell? ⟨w1.heap.size, 2, none⟩ = some (.int .i64 q) := by simp [World.cell?, hbx]
    clear hbx hb3 hb2 hb1 HBX
    have hb5 := hb4.alloc hb4.size (.cells #[.int .i64 g, .int .i64 p, .int .i64 q] 24)
    go_wp2_with (go_at_call 15; refine (lives_any _).mono ?_; rintro e w5 ⟨rfl, hb⟩)
    go_ret
    exact ⟨rfl, btrans hb5 hb5.size hb⟩
end Go.Proofs.Ytnghdolpmmdknaa
