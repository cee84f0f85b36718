/- What New of the reference of layer 44 returns. No conditions but the sizes. -/
import Derived.Test.YtkpfkknldeafkaaDiskRef4
namespace Go.Proofs.Ytkpfkknldeafkaa
open Go.RowKit

set_option maxRecDepth 100000 in
set_option maxHeartbeats 4000000 in
theorem RNew_any (n : Int) (w : World) : Calls Try.prog 31 #[.int .i64 n] w (OpPost (newS n) w) := by
  have hR := Bx.new w #[.slice none 0 0, .slice none 0 0, .int .i64 0, .int .i64 0, .bool false] 38
  have hb0 := (Below.refl w.heap.size w).alloc (Nat.le_refl _) (.cells #[.slice none 0 0, .slice none 0 0, .int .i64 0, .int .i64 0, .bool false] 38)
  have r0 : (w.alloc (.cells #[.slice none 0 0, .slice none 0 0, .int .i64 0, .int .i64 0, .bool false] 38)).cell? ⟨w.heap.size, 0, none⟩ = some (.slice none 0 0) := hR.cell 0
  have r1 : (w.alloc (.cells #[.slice none 0 0, .slice none 0 0, .int .i64 0, .int .i64 0, .bool false] 38)).cell? ⟨w.heap.size, 1, none⟩ = some (.slice none 0 0) := hR.cell 1
  have r2 : (w.alloc (.cells #[.slice none 0 0, .slice none 0 0, .int .i64 0, .int .i64 0, .bool false] 38)).cell? ⟨w.heap.size, 2, none⟩ = some (.int .i64 0) := hR.cell 2
  have r3 : (w.alloc (.cells #[.slice none 0 0, .slice none 0 0, .int .i64 0, .int .i64 0, .bool false] 38)).cell? ⟨w.heap.size, 3, none⟩ = some (.int .i64 0) := hR.cell 3
  have r4 : (w.alloc (.cells #[.slice none 0 0, .slice none 0 0, .int .i64 0, .int .i64 0, .bool false] 38)).cell? ⟨w.heap.size, 4, none⟩ = some (.bool false) := hR.cell 4
  by_cases h0 : n < 16
  · skip
    have HF := Lib.hid (show newS n = (⟨[], [], 0, 0, false⟩, 1) by unfold newS; rw [if_neg (by omega)])
    go_enter Try.func31, Try.ntmps31
    go_wp2
    refine bodyPost_ret (v := .tuple #[.agg #[.slice none 0 0, .slice none 0 0, .int .i64 0, .int .i64 0, .bool false], .int .i64 1]) (by simp [results, Try.results31, go_sem, r0, r1, r2, r3, r4]) rfl ?_
    rw [HF.out]
    exact ⟨none, 0, none, 0, rfl, owned_nil (by simp), hb0⟩
  · by_cases h1 : 1024 < n
    · skip
      have HF := Lib.hid (show newS n = (⟨[], [], 0, 0, false⟩, 1) by unfold newS; rw [if_neg (by omega)])
      go_enter Try.func31, Try.ntmps31
      go_wp2
      refine bodyPost_ret (v := .tuple #[.agg #[.slice none 0 0, .slice none 0 0, .int .i64 0, .int .i64 0, .bool false], .int .i64 1]) (by simp [results, Try.results31, go_sem, r0, r1, r2, r3, r4]) rfl ?_
      rw [HF.out]
      exact ⟨none, 0, none, 0, rfl, owned_nil (by simp), hb0⟩
    · obtain ⟨m, hm1, hm2, rfl⟩ : ∃ m : Nat, 16 ≤ m ∧ m ≤ 1024 ∧ n = m := ⟨n.toNat, by omega, by omega, by omega⟩
      have HF := Lib.hid (show newS (m : Int) = (⟨List.replicate m B64, [], 0, 0, false⟩, 0) by unfold newS; rw [if_pos (by omega), Int.toNat_natCast])
      obtain ⟨i0, hi, hz0, hz1, hz2⟩ := info_parts Try.info9
      have hD := Bx.new (w.alloc (.cells #[.slice none 0 0, .slice none 0 0, .int .i64 0, .int .i64 0, .bool false] 38)) #[.slice none 0 0, .slice none 0 0, .int .i64 0, .int .i64 0, .bool false] 38
      rw [World.size_alloc] at hD
      have hR1 := hR.alloc (.cells #[.slice none 0 0, .slice none 0 0, .int .i64 0, .int .i64 0, .bool false] 38)
      have hb1 := hb0.alloc (by simp) (.cells #[.slice none 0 0, .slice none 0 0, .int .i64 0, .int .i64 0, .bool false] 38)
      clear r0 r1 r2 r3 r4
      go_enter Try.func31, Try.ntmps31
      go_wp2_with fail
      refine (Rzeros_any _).mono ?_
      rintro e w1 ⟨rfl, hw⟩
      subst hw
      go_wp2
      go_loopw [6] (fun i wr => ∃ (k : Nat) (a : Option Addr) (c : Nat), k ≤ m ∧ i = .int .i64 k ∧ Bx (w.heap.size + 1) #[.slice a k c, .slice none 0 0, .int .i64 0, .int .i64 0, .bool false] 38 wr ∧ Bx w.heap.size #[.slice none 0 0, .slice none 0 0, .int .i64 0, .int .i64 0, .bool false] 38 wr ∧ wr.ownsRow (w.heap.size + 2) 9 1 (.slice a k c) k (List.replicate k (strV B64)) ∧ Below w.heap.size w wr) (fun i _ => m - (intOf i).toNat)
      case atStart => exact ⟨0, none, 0, Nat.zero_le _, rfl, hD, hR1, World.ownsRow_nil _ _ _ _, hb1⟩
      case round =>
        obtain ⟨k, a, c, hk, rfl, hDr, hRr, hown, hbr⟩ := hrel
        clear hD hR1 hR hb1 hb0
        have x0 : wr.cell? ⟨w.heap.size + 1, 0, none⟩ = some (.slice a k c) := hDr.cell 0
        have x1 : wr.cell? ⟨w.heap.size + 1, 1, none⟩ = some (.slice none 0 0) := hDr.cell 1
        have x2 : wr.cell? ⟨w.heap.size + 1, 2, none⟩ = some (.int .i64 0) := hDr.cell 2
        have x3 : wr.cell? ⟨w.heap.size + 1, 3, none⟩ = some (.int .i64 0) := hDr.cell 3
        have x4 : wr.cell? ⟨w.heap.size + 1, 4, none⟩ = some (.bool false) := hDr.cell 4
        have fx := hDr.free 0
        have hdl := hDr.lt
        by_cases hlt : k < m
        · have hlt' : (k : Int) < (m : Int) := by omega
          go_wp2_with (at_builtin; refine wpList_append_own_wide _ rfl _ _ 35 rfl (w.heap.size + 2) 9 i0 (.string ⟨#[]⟩) 1 16 Try.underlying35 hi hz0 hz1 hz2 rfl (by decide) _ _ _ rfl (hown.alloc _) ⟨wr.heap.size, 0, none⟩ 1 1 [strV B64] rfl ?c1 ?c2 ?c3 ?c4 ?c5 ?c6 ?_)
          case c1 => rfl
          case c2 =>
            intro j u hj
            cases j with
            | zero => rw [addr_add]; cases hj; exact (Bx.new wr #[.string (bs B64)] 9).cell 0
            | succ j => simp at hj
          case c3 => intro u hu; rw [List.mem_singleton.1 hu]; rfl
          case c4 => unfold maxLen; omega
          case c5 => omega
          case c6 => simp; omega
          intro v' w3 hown3 hgrow _
          obtain ⟨a3, c3, rfl⟩ := own_slice hown3
          have hown4 : w3.ownsRow (w.heap.size + 2) 9 1 (.slice a3 (k + 1) c3) (k + 1) (List.replicate (k + 1) (strV B64)) := by rw [List.replicate_succ']; exact hown3
          have hne1 : some (w.heap.size + 1) ≠ (Value.slice a k c).ownBlock := by intro e; have := (hown.lt _ e.symm).1; omega
          have hne2 : some w.heap.size ≠ (Value.slice a k c).ownBlock := by intro e; have := (hown.lt _ e.symm).1; omega
          have hD3 := grownBy_bx hgrow (hDr.alloc _) hne1
          have hR3 := grownBy_bx hgrow (hRr.alloc _) hne2
          have hb3 := (hbr.alloc hbr.size _).grown hgrow (by simp; have := hbr.size; omega) (by intro q hq; have := (hown.lt q hq).1; omega)
          clear x0 x1 x2 x3 x4 fx
          have x0 : w3.cell? ⟨w.heap.size + 1, 0, none⟩ = some (.slice a k c) := hD3.cell 0
          have x1 : w3.cell? ⟨w.heap.size + 1, 1, none⟩ = some (.slice none 0 0) := hD3.cell 1
          have x2 : w3.cell? ⟨w.heap.size + 1, 2, none⟩ = some (.int .i64 0) := hD3.cell 2
          have x3 : w3.cell? ⟨w.heap.size + 1, 3, none⟩ = some (.int .i64 0) := hD3.cell 3
          have x4 : w3.cell? ⟨w.heap.size + 1, 4, none⟩ = some (.bool false) := hD3.cell 4
          have fx := hD3.free 0
          have HO := Lib.hid hown4; have HD := Lib.hid hD3; have HR := Lib.hid hR3; have HB := Lib.hid hb3
          clear hown3 hown4 hD3 hR3 hb3 hgrow hown hDr hRr hbr
          go_wp2
          go_roundw
          case rel => exact ⟨k + 1, a3, c3, by omega, by go_num, HD.out.set 0 _, HR.out.other (by omega) _, own_set HO.out (w.heap.size + 1) 0 (by omega) _, below_set HB.out (w.heap.size + 1) 0 (by omega) _⟩
          case measure => simp [intOf]; omega
        · obtain rfl : k = m := by omega
          clear hlt
          have r0 : wr.cell? ⟨w.heap.size, 0, none⟩ = some (.slice none 0 0) := hRr.cell 0
          have r1 : wr.cell? ⟨w.heap.size, 1, none⟩ = some (.slice none 0 0) := hRr.cell 1
          have r2 : wr.cell? ⟨w.heap.size, 2, none⟩ = some (.int .i64 0) := hRr.cell 2
          have r3 : wr.cell? ⟨w.heap.size, 3, none⟩ = some (.int .i64 0) := hRr.cell 3
          have r4 : wr.cell? ⟨w.heap.size, 4, none⟩ = some (.bool false) := hRr.cell 4
          have g0 := hRr.free 0
          have g1 := hRr.free 1
          have g2 := hRr.free 2
          have g3 := hRr.free 3
          have g4 := hRr.free 4
          have kk := (hRr.sets (.slice a k c) (.slice none 0 0) (.int .i64 0) (.int .i64 0) (.bool false))
          have k0 := kk.cell 0
          have k1 := kk.cell 1
          have k2 := kk.cell 2
          have k3 := kk.cell 3
          have k4 := kk.cell 4
          simp only [List.getElem?_toArray, List.getElem?_cons_zero, List.getElem?_cons_succ] at k0 k1 k2 k3 k4
          clear kk
          have hO : Owned (w.heap.size + 2) ⟨List.replicate k B64, [], 0, 0, false⟩ wr (.slice a k c) (.slice none 0 0) := by
            refine ⟨wr.heap.size, by omega, fun g hg => (hown.lt g hg).2, ?_, World.ownsRow_nil _ _ _ _, Nat.le_refl _⟩
            rw [List.length_replicate, List.map_replicate]
            exact hown
          have HO := Lib.hid hO; have HB := Lib.hid hbr
          clear hO hown hbr hDr hRr
          go_wp2
          refine bodyPost_ret (v := .tuple #[.agg #[.slice a k c, .slice none 0 0, .int .i64 0, .int .i64 0, .bool false], .int .i64 0]) (by simp [results, Try.results31, go_sem, k0, k1, k2, k3, k4]) rfl ?_
          rw [HF.out]
          refine ⟨a, c, none, 0, by rw [List.length_replicate]; rfl, ?_, ?_⟩
          · rw [List.length_replicate]
            exact (HO.out.sets w.heap.size (by omega) _ _ _ _ _).mono (by omega)
          · exact below_sets HB.out w.heap.size (Nat.le_refl _) _ _ _ _ _
end Go.Proofs.Ytkpfkknldeafkaa
