/- What exists, Same, zeros and operation of the reference of layer 44 return. No conditions but the sizes. -/
import Derived.Test.YtkpfkknldeafkaaDiskCrash
namespace Go.Proofs.Ytkpfkknldeafkaa
open Go.RowKit

set_option maxRecDepth 100000 in
set_option maxHeartbeats 400000 in
theorem Rexists_any (sa pa : Option Addr) (sc pc : Nat) (d : Dk) (n : Int) (w : World) :
    Calls Try.prog 67 #[.agg #[.slice sa d.S.length sc, .slice pa d.P.length pc, .int .i64 d.fuse, .int .i64 d.ops, .bool d.dead], .int .i64 n] w fun e w' => e = .returned (.bool (hasB d n)) ∧ Below w.heap.size w w' := by
  have hb := (Below.refl w.heap.size w).alloc (Nat.le_refl _) (.cells #[.slice sa d.S.length sc, .slice pa d.P.length pc, .int .i64 d.fuse, .int .i64 d.ops, .bool d.dead] 38)
  by_cases h0 : 0 ≤ n
  · by_cases h1 : n < (d.S.length : Int)
    · skip
      have HF := Lib.hid (show hasB d n = true by unfold hasB; simp [h0, h1])
      go_enter Try.func67, Try.ntmps67
      go_wp2
      go_ret
      exact ⟨by rw [HF.out]; rfl, hb⟩
    · skip
      have HF := Lib.hid (show hasB d n = false by unfold hasB; simp [h1])
      go_enter Try.func67, Try.ntmps67
      go_wp2
      go_ret
      exact ⟨by rw [HF.out]; rfl, hb⟩
  · skip
    have HF := Lib.hid (show hasB d n = false by unfold hasB; simp [h0])
    go_enter Try.func67, Try.ntmps67
    go_wp2
    go_ret
    exact ⟨by rw [HF.out]; rfl, hb⟩

set_option maxRecDepth 100000 in
set_option maxHeartbeats 4000000 in
theorem RSame_any (sa pa sb pb : Option Addr) (sc pc sd pd : Nat) (d : Dk) (w : World) (hD : Lists w sa sc pa pc d) (hE : Lists w sb sd pb pd d) :
    Calls Try.prog 30 #[.agg #[.slice sa d.S.length sc, .slice pa d.P.length pc, .int .i64 d.fuse, .int .i64 d.ops, .bool d.dead], .agg #[.slice sb d.S.length sd, .slice pb d.P.length pd, .int .i64 d.fuse, .int .i64 d.ops, .bool d.dead]] w fun e w' => e = .returned (.bool true) ∧ Below w.heap.size w w' := by
  have hb0 := ((Below.refl w.heap.size w).alloc (Nat.le_refl _) (.cells #[.slice sa d.S.length sc, .slice pa d.P.length pc, .int .i64 d.fuse, .int .i64 d.ops, .bool d.dead] 38)).alloc (by simp) (.cells #[.slice sb d.S.length sd, .slice pb d.P.length pd, .int .i64 d.fuse, .int .i64 d.ops, .bool d.dead] 38)
  have hX : Bx w.heap.size #[.slice sa d.S.length sc, .slice pa d.P.length pc, .int .i64 d.fuse, .int .i64 d.ops, .bool d.dead] 38 ((w.alloc (.cells #[.slice sa d.S.length sc, .slice pa d.P.length pc, .int .i64 d.fuse, .int .i64 d.ops, .bool d.dead] 38)).alloc (.cells #[.slice sb d.S.length sd, .slice pb d.P.length pd, .int .i64 d.fuse, .int .i64 d.ops, .bool d.dead] 38)) := by
    have h := (Bx.new w #[.slice sa d.S.length sc, .slice pa d.P.length pc, .int .i64 d.fuse, .int .i64 d.ops, .bool d.dead] 38)
    have h := h.alloc (.cells #[.slice sb d.S.length sd, .slice pb d.P.length pd, .int .i64 d.fuse, .int .i64 d.ops, .bool d.dead] 38)
    simpa using h
  have HX := Lib.hid hX; clear hX
  have hY : Bx (w.heap.size + 1) #[.slice sb d.S.length sd, .slice pb d.P.length pd, .int .i64 d.fuse, .int .i64 d.ops, .bool d.dead] 38 ((w.alloc (.cells #[.slice sa d.S.length sc, .slice pa d.P.length pc, .int .i64 d.fuse, .int .i64 d.ops, .bool d.dead] 38)).alloc (.cells #[.slice sb d.S.length sd, .slice pb d.P.length pd, .int .i64 d.fuse, .int .i64 d.ops, .bool d.dead] 38)) := by
    have h := (Bx.new (w.alloc (.cells #[.slice sa d.S.length sc, .slice pa d.P.length pc, .int .i64 d.fuse, .int .i64 d.ops, .bool d.dead] 38)) #[.slice sb d.S.length sd, .slice pb d.P.length pd, .int .i64 d.fuse, .int .i64 d.ops, .bool d.dead] 38)
    simpa using h
  have HY := Lib.hid hY; clear hY
  have hPl := hD.2.2.1
  have hSl := hD.2.2.2
  have hX := HX.out
  have hY := HY.out
  have x0 : ((w.alloc (.cells #[.slice sa d.S.length sc, .slice pa d.P.length pc, .int .i64 d.fuse, .int .i64 d.ops, .bool d.dead] 38)).alloc (.cells #[.slice sb d.S.length sd, .slice pb d.P.length pd, .int .i64 d.fuse, .int .i64 d.ops, .bool d.dead] 38)).cell? ⟨w.heap.size, 0, none⟩ = some (.slice sa d.S.length sc) := hX.cell 0
  have x1 : ((w.alloc (.cells #[.slice sa d.S.length sc, .slice pa d.P.length pc, .int .i64 d.fuse, .int .i64 d.ops, .bool d.dead] 38)).alloc (.cells #[.slice sb d.S.length sd, .slice pb d.P.length pd, .int .i64 d.fuse, .int .i64 d.ops, .bool d.dead] 38)).cell? ⟨w.heap.size, 1, none⟩ = some (.slice pa d.P.length pc) := hX.cell 1
  have x2 : ((w.alloc (.cells #[.slice sa d.S.length sc, .slice pa d.P.length pc, .int .i64 d.fuse, .int .i64 d.ops, .bool d.dead] 38)).alloc (.cells #[.slice sb d.S.length sd, .slice pb d.P.length pd, .int .i64 d.fuse, .int .i64 d.ops, .bool d.dead] 38)).cell? ⟨w.heap.size, 2, none⟩ = some (.int .i64 d.fuse) := hX.cell 2
  have x3 : ((w.alloc (.cells #[.slice sa d.S.length sc, .slice pa d.P.length pc, .int .i64 d.fuse, .int .i64 d.ops, .bool d.dead] 38)).alloc (.cells #[.slice sb d.S.length sd, .slice pb d.P.length pd, .int .i64 d.fuse, .int .i64 d.ops, .bool d.dead] 38)).cell? ⟨w.heap.size, 3, none⟩ = some (.int .i64 d.ops) := hX.cell 3
  have x4 : ((w.alloc (.cells #[.slice sa d.S.length sc, .slice pa d.P.length pc, .int .i64 d.fuse, .int .i64 d.ops, .bool d.dead] 38)).alloc (.cells #[.slice sb d.S.length sd, .slice pb d.P.length pd, .int .i64 d.fuse, .int .i64 d.ops, .bool d.dead] 38)).cell? ⟨w.heap.size, 4, none⟩ = some (.bool d.dead) := hX.cell 4
  have y0 : ((w.alloc (.cells #[.slice sa d.S.length sc, .slice pa d.P.length pc, .int .i64 d.fuse, .int .i64 d.ops, .bool d.dead] 38)).alloc (.cells #[.slice sb d.S.length sd, .slice pb d.P.length pd, .int .i64 d.fuse, .int .i64 d.ops, .bool d.dead] 38)).cell? ⟨w.heap.size + 1, 0, none⟩ = some (.slice sb d.S.length sd) := hY.cell 0
  have y1 : ((w.alloc (.cells #[.slice sa d.S.length sc, .slice pa d.P.length pc, .int .i64 d.fuse, .int .i64 d.ops, .bool d.dead] 38)).alloc (.cells #[.slice sb d.S.length sd, .slice pb d.P.length pd, .int .i64 d.fuse, .int .i64 d.ops, .bool d.dead] 38)).cell? ⟨w.heap.size + 1, 1, none⟩ = some (.slice pb d.P.length pd) := hY.cell 1
  have y2 : ((w.alloc (.cells #[.slice sa d.S.length sc, .slice pa d.P.length pc, .int .i64 d.fuse, .int .i64 d.ops, .bool d.dead] 38)).alloc (.cells #[.slice sb d.S.length sd, .slice pb d.P.length pd, .int .i64 d.fuse, .int .i64 d.ops, .bool d.dead] 38)).cell? ⟨w.heap.size + 1, 2, none⟩ = some (.int .i64 d.fuse) := hY.cell 2
  have y3 : ((w.alloc (.cells #[.slice sa d.S.length sc, .slice pa d.P.length pc, .int .i64 d.fuse, .int .i64 d.ops, .bool d.dead] 38)).alloc (.cells #[.slice sb d.S.length sd, .slice pb d.P.length pd, .int .i64 d.fuse, .int .i64 d.ops, .bool d.dead] 38)).cell? ⟨w.heap.size + 1, 3, none⟩ = some (.int .i64 d.ops) := hY.cell 3
  have y4 : ((w.alloc (.cells #[.slice sa d.S.length sc, .slice pa d.P.length pc, .int .i64 d.fuse, .int .i64 d.ops, .bool d.dead] 38)).alloc (.cells #[.slice sb d.S.length sd, .slice pb d.P.length pd, .int .i64 d.fuse, .int .i64 d.ops, .bool d.dead] 38)).cell? ⟨w.heap.size + 1, 4, none⟩ = some (.bool d.dead) := hY.cell 4
  have t0 : ((d.S.length : Int) != (d.S.length : Int)) = false := by simp
  have t00 : ((d.P.length : Int) != (d.P.length : Int)) = false := by simp
  go_enter Try.func30, Try.ntmps30
  go_wp2
  have hX := HX.out; have hY := HY.out
  go_loopw [5] (fun i wr => ∃ k : Nat, k ≤ d.S.length ∧ i = .int .i64 k ∧ Bx w.heap.size #[.slice sa d.S.length sc, .slice pa d.P.length pc, .int .i64 d.fuse, .int .i64 d.ops, .bool d.dead] 38 wr ∧ Bx (w.heap.size + 1) #[.slice sb d.S.length sd, .slice pb d.P.length pd, .int .i64 d.fuse, .int .i64 d.ops, .bool d.dead] 38 wr ∧ Below w.heap.size w wr) (fun i _ => d.S.length - (intOf i).toNat)
  case atStart => exact ⟨0, Nat.zero_le _, rfl, hX, hY, hb0⟩
  case round =>
    obtain ⟨k, hk, rfl, hXr, hYr, hbw⟩ := hrel
    clear x0 y0 x1 y1 x2 y2 x3 y3 x4 y4 hX hY
    have x0 : wr.cell? ⟨w.heap.size, 0, none⟩ = some (.slice sa d.S.length sc) := hXr.cell 0
    have x1 : wr.cell? ⟨w.heap.size, 1, none⟩ = some (.slice pa d.P.length pc) := hXr.cell 1
    have x2 : wr.cell? ⟨w.heap.size, 2, none⟩ = some (.int .i64 d.fuse) := hXr.cell 2
    have x3 : wr.cell? ⟨w.heap.size, 3, none⟩ = some (.int .i64 d.ops) := hXr.cell 3
    have x4 : wr.cell? ⟨w.heap.size, 4, none⟩ = some (.bool d.dead) := hXr.cell 4
    have y0 : wr.cell? ⟨w.heap.size + 1, 0, none⟩ = some (.slice sb d.S.length sd) := hYr.cell 0
    have y1 : wr.cell? ⟨w.heap.size + 1, 1, none⟩ = some (.slice pb d.P.length pd) := hYr.cell 1
    have y2 : wr.cell? ⟨w.heap.size + 1, 2, none⟩ = some (.int .i64 d.fuse) := hYr.cell 2
    have y3 : wr.cell? ⟨w.heap.size + 1, 3, none⟩ = some (.int .i64 d.ops) := hYr.cell 3
    have y4 : wr.cell? ⟨w.heap.size + 1, 4, none⟩ = some (.bool d.dead) := hYr.cell 4
    by_cases hlt : k < d.S.length
    · have hlt' : (k : Int) < (d.S.length : Int) := by omega
      obtain ⟨b1, o1, h1, hc1, p1⟩ := (hD.below hbw).sec k hlt
      obtain ⟨b2, o2, h2, hc2, p2⟩ := (hE.below hbw).sec k hlt
      rw [h1] at x0
      rw [h2] at y0
      go_wp2
      go_region
      all_goals go_wp2
      all_goals go_roundw
      case rel => exact ⟨k + 1, by omega, by go_num, hXr, hYr, hbw.drew⟩
      case measure => simp [intOf]; omega
    · obtain rfl : k = d.S.length := by omega
      clear hlt
      go_wp2
      go_loopw [6] (fun i wr => ∃ k : Nat, k ≤ d.P.length ∧ i = .int .i64 k ∧ Bx w.heap.size #[.slice sa d.S.length sc, .slice pa d.P.length pc, .int .i64 d.fuse, .int .i64 d.ops, .bool d.dead] 38 wr ∧ Bx (w.heap.size + 1) #[.slice sb d.S.length sd, .slice pb d.P.length pd, .int .i64 d.fuse, .int .i64 d.ops, .bool d.dead] 38 wr ∧ Below w.heap.size w wr) (fun i _ => d.P.length - (intOf i).toNat)
      case atStart => exact ⟨0, Nat.zero_le _, rfl, hXr, hYr, hbw⟩
      case round =>
        clear x0 y0 x1 y1 x2 y2 x3 y3 x4 y4 hXr hYr hbw
        obtain ⟨k, hk, rfl, hXr, hYr, hbw⟩ := hrel
        have x0 : wr.cell? ⟨w.heap.size, 0, none⟩ = some (.slice sa d.S.length sc) := hXr.cell 0
        have x1 : wr.cell? ⟨w.heap.size, 1, none⟩ = some (.slice pa d.P.length pc) := hXr.cell 1
        have x2 : wr.cell? ⟨w.heap.size, 2, none⟩ = some (.int .i64 d.fuse) := hXr.cell 2
        have x3 : wr.cell? ⟨w.heap.size, 3, none⟩ = some (.int .i64 d.ops) := hXr.cell 3
        have x4 : wr.cell? ⟨w.heap.size, 4, none⟩ = some (.bool d.dead) := hXr.cell 4
        have y0 : wr.cell? ⟨w.heap.size + 1, 0, none⟩ = some (.slice sb d.S.length sd) := hYr.cell 0
        have y1 : wr.cell? ⟨w.heap.size + 1, 1, none⟩ = some (.slice pb d.P.length pd) := hYr.cell 1
        have y2 : wr.cell? ⟨w.heap.size + 1, 2, none⟩ = some (.int .i64 d.fuse) := hYr.cell 2
        have y3 : wr.cell? ⟨w.heap.size + 1, 3, none⟩ = some (.int .i64 d.ops) := hYr.cell 3
        have y4 : wr.cell? ⟨w.heap.size + 1, 4, none⟩ = some (.bool d.dead) := hYr.cell 4
        by_cases hlt : k < d.P.length
        · have hlt' : (k : Int) < (d.P.length : Int) := by omega
          obtain ⟨b1, o1, h1, p1, p3⟩ := (hD.below hbw).pen k hlt
          obtain ⟨b2, o2, h2, p2, p4⟩ := (hE.below hbw).pen k hlt
          rw [h1] at x1
          rw [h2] at y1
          go_wp2
          go_region
          all_goals go_wp2
          all_goals go_roundw
          case rel => exact ⟨k + 1, by omega, by go_num, hXr, hYr, hbw.drew⟩
          case measure => simp [intOf]; omega
        · obtain rfl : k = d.P.length := by omega
          clear hlt
          go_wp2
          go_ret
          exact ⟨rfl, hbw⟩

set_option maxRecDepth 100000 in
set_option maxHeartbeats 1000000 in
theorem Rzeros_any (w : World) : Calls Try.prog 65 #[.int .i64 64] w fun e w' => e = .returned (.string (bs B64)) ∧ w = w' := by
  go_enter Try.func65, Try.ntmps65
  go_wp2
  go_loop [3, 4] (fun s i => ∃ k : Nat, k ≤ 64 ∧ i = .int .i64 k ∧ s = .string (bs (List.replicate k 0))) (fun _ i => 64 - (intOf i).toNat)
  case atStart => exact ⟨0, Nat.zero_le _, rfl, rfl⟩
  case round =>
    obtain ⟨k, hk, rfl, rfl⟩ := hrel
    by_cases hlt : k < 64
    · have hz : (List.replicate k (0 : UInt8)).length ≤ 64 := by simp; omega
      obtain ⟨B, hB⟩ : ∃ B : List UInt8, B = List.replicate k 0 := ⟨_, rfl⟩
      rw [← hB] at hz
      rw [← hB]
      have HB := Lib.hid hB; clear hB
      go_wp2
      go_round
      case rel => exact ⟨k + 1, by omega, by go_num, by rw [show (ByteArray.mk #[0]) = bs [0] from rfl, bs_append, HB.out, ← List.replicate_succ']⟩
      case measure => simp [intOf]; omega
    · have hk64 : List.replicate k (0 : UInt8) = B64 := by rw [show k = 64 by omega]; rfl
      rw [hk64]
      go_wp2
      go_ret
      exact ⟨rfl, rfl⟩

theorem happen_id_blown {d : Dk} (h : d.fuse = 1) : happenS d id = ({ d with ops := min (d.ops + 1) 1099511627776, fuse := 0, dead := true }, 18) := by unfold happenS; rw [if_pos h]
theorem happen_id_go {d : Dk} (h : ¬ d.fuse = 1) : happenS d id = ({ d with ops := min (d.ops + 1) 1099511627776, fuse := max (d.fuse - 1) 0 }, 0) := by unfold happenS; rw [if_neg h]; rfl
set_option maxRecDepth 100000 in
set_option maxHeartbeats 4000000 in
theorem Roper_any (sa pa : Option Addr) (sc pc : Nat) (d : Dk) (w : World) (f0 : 0 ≤ d.fuse) (f1 : d.fuse ≤ 1099511627776) (p0 : 0 ≤ d.ops) (p1 : d.ops ≤ 1099511627776) :
    Calls Try.prog 103 #[.agg #[.slice sa d.S.length sc, .slice pa d.P.length pc, .int .i64 d.fuse, .int .i64 d.ops, .bool d.dead]] w fun e w' => e = .returned (.tuple #[.agg #[.slice sa d.S.length sc, .slice pa d.P.length pc, .int .i64 (happenS d id).1.fuse, .int .i64 (happenS d id).1.ops, .bool (happenS d id).1.dead], .int .i64 (happenS d id).2]) ∧ Below w.heap.size w w' := by
  by_cases h1 : d.fuse = 1
  · have t1 : (d.fuse == 1) = true := by rw [h1]; rfl
    have HF := Lib.hid (happen_id_blown h1); clear h1
    have kk := Bx.new (w.alloc (.cells #[.slice sa d.S.length sc, .slice pa d.P.length pc, .int .i64 0, .int .i64 (min 1099511627776 (d.ops + 1)), .bool true] 38)) #[.slice sa d.S.length sc, .slice pa d.P.length pc, .int .i64 0, .int .i64 (min 1099511627776 (d.ops + 1)), .bool true] 38
    rw [World.size_alloc] at kk
    have k0 := kk.cell 0
    have k1 := kk.cell 1
    have k2 := kk.cell 2
    have k3 := kk.cell 3
    have k4 := kk.cell 4
    simp only [List.getElem?_toArray, List.getElem?_cons_zero, List.getElem?_cons_succ] at k0 k1 k2 k3 k4
    have hb := ((Below.refl w.heap.size w).alloc (Nat.le_refl _) (.cells #[.slice sa d.S.length sc, .slice pa d.P.length pc, .int .i64 0, .int .i64 (min 1099511627776 (d.ops + 1)), .bool true] 38)).alloc (by simp) (.cells #[.slice sa d.S.length sc, .slice pa d.P.length pc, .int .i64 0, .int .i64 (min 1099511627776 (d.ops + 1)), .bool true] 38)
    clear kk
    go_enter Try.func103, Try.ntmps103
    go_wp2
    refine bodyPost_ret (v := .tuple #[.agg #[.slice sa d.S.length sc, .slice pa d.P.length pc, .int .i64 0, .int .i64 (min 1099511627776 (d.ops + 1)), .bool true], .int .i64 18]) (by simp [results, Try.results103, go_sem, k0, k1, k2, k3, k4]) rfl ?_
    rw [HF.out]
    refine ⟨?_, hb⟩
    simp only [Int.min_comm]
  · have t1 : (d.fuse == 1) = false := by rw [beq_eq_false_iff_ne]; exact h1
    have HF := Lib.hid (happen_id_go h1); clear h1
    have kk := Bx.new (w.alloc (.cells #[.slice sa d.S.length sc, .slice pa d.P.length pc, .int .i64 (max 0 (d.fuse - 1)), .int .i64 (min 1099511627776 (d.ops + 1)), .bool d.dead] 38)) #[.slice sa d.S.length sc, .slice pa d.P.length pc, .int .i64 (max 0 (d.fuse - 1)), .int .i64 (min 1099511627776 (d.ops + 1)), .bool d.dead] 38
    rw [World.size_alloc] at kk
    have k0 := kk.cell 0
    have k1 := kk.cell 1
    have k2 := kk.cell 2
    have k3 := kk.cell 3
    have k4 := kk.cell 4
    simp only [List.getElem?_toArray, List.getElem?_cons_zero, List.getElem?_cons_succ] at k0 k1 k2 k3 k4
    have hb := ((Below.refl w.heap.size w).alloc (Nat.le_refl _) (.cells #[.slice sa d.S.length sc, .slice pa d.P.length pc, .int .i64 (max 0 (d.fuse - 1)), .int .i64 (min 1099511627776 (d.ops + 1)), .bool d.dead] 38)).alloc (by simp) (.cells #[.slice sa d.S.length sc, .slice pa d.P.length pc, .int .i64 (max 0 (d.fuse - 1)), .int .i64 (min 1099511627776 (d.ops + 1)), .bool d.dead] 38)
    clear kk
    go_enter Try.func103, Try.ntmps103
    go_wp2
    refine bodyPost_ret (v := .tuple #[.agg #[.slice sa d.S.length sc, .slice pa d.P.length pc, .int .i64 (max 0 (d.fuse - 1)), .int .i64 (min 1099511627776 (d.ops + 1)), .bool d.dead], .int .i64 0]) (by simp [results, Try.results103, go_sem, k0, k1, k2, k3, k4]) rfl ?_
    rw [HF.out]
    refine ⟨?_, hb⟩
    simp only [Int.min_comm, Int.max_comm]
end Go.Proofs.Ytkpfkknldeafkaa
