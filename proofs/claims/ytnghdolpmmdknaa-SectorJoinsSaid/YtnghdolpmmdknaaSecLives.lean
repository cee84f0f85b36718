/- The examples of layer 45 hold. No conditions. -/
import Derived.Test.YtnghdolpmmdknaaSecJoin
import Derived.Test.YtnghdolpmmdknaaSecLivesP
namespace Go.Proofs.Ytnghdolpmmdknaa
open Go.RowKit

theorem z64_get (j : Nat) (h : j < Z64.length) : Z64[j] = 0 := List.eq_of_mem_replicate (List.getElem_mem h)
theorem made_zero (n j : Nat) (h : j < n) : (madeCells #[.int .u8 0] n)[j]? = some (.int .u8 0) := by
  rw [← Array.getElem?_toList, toList_madeCells_one]; simp [h]
theorem StrS.take {W : World} {b off cap : Nat} {L : List (List UInt8)} (m : Nat) (hm : m ≤ L.length) (hcap : L.length ≤ cap) (hc : ∀ i (h : i < L.length), W.cell? ⟨b, off + i, none⟩ = some (strV L[i])) : StrS W (.slice (some ⟨b, off, none⟩) m cap) (L.take m) := by
  refine ⟨_, cap, by rw [List.length_take, Nat.min_eq_left hm], by rw [List.length_take]; omega, fun _ => ⟨b, off, rfl, fun i hi => ?_⟩⟩
  rw [List.length_take] at hi
  rw [List.getElem_take]
  exact hc i (by omega)
theorem strs_cells {W : World} {b off n cap : Nat} {L : List (List UInt8)} (h : StrS W (.slice (some ⟨b, off, none⟩) n cap) L) : n = L.length ∧ L.length ≤ cap ∧ ∀ i (h : i < L.length), W.cell? ⟨b, off + i, none⟩ = some (strV L[i]) := by
  obtain ⟨a, c, he, hc, hL⟩ := h
  simp only [Value.slice.injEq] at he
  obtain ⟨rfl, hn, rfl⟩ := he
  refine ⟨hn, hc, fun i hi => ?_⟩
  obtain ⟨b', off', hb, hcell⟩ := hL (by intro h0; rw [h0] at hi; simp at hi)
  simp only [Option.some.injEq, Addr.mk.injEq] at hb
  obtain ⟨rfl, rfl, _⟩ := hb
  exact hcell i hi

set_option maxRecDepth 100000 in
set_option maxHeartbeats 2000000 in
theorem lives_any (w : World) :
    Calls Try.prog 15 #[] w fun e w' => e = .returned (.bool true) ∧ Below w.heap.size w w' := by
  have hB0 := Below.refl w.heap.size w
  go_enter Try.func15, Try.ntmps15
  go_wp2
  go_loop [1, 2] (fun s i => ∃ k : Nat, k ≤ 81 ∧ i = .int .i64 k ∧ s = .string (bs (List.replicate k 97))) (fun _ i => 81 - (intOf i).toNat)
  case atStart => exact ⟨0, Nat.zero_le _, rfl, rfl⟩
  case round =>
    obtain ⟨k, hk, rfl, rfl⟩ := hrel
    by_cases hlt : k < 81
    · have hz : (List.replicate k (97 : UInt8)).length ≤ 81 := by simp; omega
      obtain ⟨B, hB⟩ : ∃ B : List UInt8, B = List.replicate k 97 := ⟨_, rfl⟩
      rw [← hB] at hz
      rw [← hB]
      have HB := Lib.hid hB; clear hB
      go_wp2
      go_round
      case rel => exact ⟨k + 1, by omega, by go_num, by rw [show (ByteArray.mk #[97]) = bs [97] from rfl, bs_append, HB.out, ← List.replicate_succ']⟩
      case measure => simp [intOf]; omega
    · have hk81 : List.replicate k (97 : UInt8) = a81 := by rw [show k = 81 by omega]; rfl
      rw [hk81]
      clear hk81
      have HS := Lib.hid ex_split
      have HO := Lib.hid ex_open2
      have HJ3 := Lib.hid ex_join3
      have HJ2 := Lib.hid ex_join2
      have HZ := Lib.hid (show openS Z64 = ((0, 0, 0), [], 20) from ex_zero)
      go_wp2_with fail
      refine (Split_any _ _ _ (by decide)).mono ?_
      rw [HS.out]
      rintro e w1 ⟨v, rfl, hown, hb1⟩
      have hS1 := StrS.of_own hown
      have hsl : (secs 7 a81 3).length = 3 := secs_length _ _ _
      rcases own_form hown with ⟨_, h0⟩ | ⟨g, cap, rfl, hcap, _⟩
      · rw [hsl] at h0; omega
      · obtain ⟨_, hcap, hcell⟩ := strs_cells hS1
        have c2 := hcell 2 (by rw [hsl]; omega)
        unfold strV at c2
        rw [Nat.zero_add] at c2
        obtain ⟨S2, hS2⟩ : ∃ S2, S2 = (secs 7 a81 3)[2]'(by rw [hsl]; omega) := ⟨_, rfl⟩
        rw [← hS2] at c2
        have hS2' : S2 = secAt 7 a81 2 := by rw [hS2]; simp [secs]
        have ho : openS S2 = ((7, 2, 3), [97], 0) := by
          have := sec_opens 7 a81 (by decide) (by decide) 2 (by decide)
          rw [hS2', this]; rfl
        have HO2 := Lib.hid ho; clear ho
        have HL2 := Lib.hid (show S2.length ≤ 9223372036854775807 by rw [hS2']; unfold secAt; rw [sealedL_length _ _ _ _ (by rw [List.length_take]; omega)]; decide)
        clear hS2 hS2'
        have HC := Lib.hid hcell; clear hcell
        have HSL := Lib.hid hsl; clear hsl
        rw [HSL.out]
        rw [HSL.out] at hcap
        have hc2 : (2 : Int) ≤ cap := by omega
        have hS3 : StrS w1 (.slice (some ⟨g, 0, none⟩) 3 cap) (secs 7 a81 3) := by have := hS1; rw [HSL.out] at this; exact this
        have hST : StrS w1 (.slice (some ⟨g, 0, none⟩) 2 cap) ((secs 7 a81 3).take 2) := StrS.take 2 (by rw [HSL.out]; omega) (by rw [HSL.out]; omega) HC.out
        have HALL := Lib.hid (show ∀ s ∈ secs 7 a81 3, s.length ≤ 9223372036854775807 by
          intro s hs
          obtain ⟨i, _, rfl⟩ := List.mem_map.1 hs
          unfold secAt; rw [sealedL_length _ _ _ _ (by rw [List.length_take]; omega)]; decide)
        have HALL2 := Lib.hid (show ∀ s ∈ (secs 7 a81 3).take 2, s.length ≤ 9223372036854775807 from fun s hs => HALL.out s (List.mem_of_mem_take hs))
        clear hS1 hown HC
        go_wp2_with fail
        refine (Open_any _ _ HL2.out).mono ?_
        rw [HO2.out]
        rintro e w2 ⟨rfl, hb⟩
        have hb2 := btrans hb1 hb1.size hb
        have hS3 := hS3.below hb
        have hST := hST.below hb
        clear hb hb1 c2
        have hbx : (w2.alloc (.cells #[.int .i64 7, .int .i64 2, .int .i64 3] 24)).heap[w2.heap.size]? = some (.cells #[.int .i64 7, .int .i64 2, .int .i64 3] 24 (0, 0)) := heap_alloc_new w2 _
        have hal := (Below.refl w2.heap.size w2).alloc (Nat.le_refl _) (.cells #[.int .i64 7, .int .i64 2, .int .i64 3] 24)
        have hb3 := hb2.alloc hb2.size (.cells #[.int .i64 7, .int .i64 2, .int .i64 3] 24)
        have hS3 := hS3.below hal
        have hST := hST.below hal
        clear hal hb2
        have HBX := Lib.hid hbx; clear hbx
        go_wp2_with fail
        refine (Join_any _ _ _ _ _ hST HALL2.out).mono ?_
        rw [HJ2.out]
        rintro e w3 ⟨rfl, hb⟩
        have hb4 := btrans hb3 hb3.size hb
        have hS3 := hS3.below hb
        have hbx := (hb.block _ (lt_of_heap HBX.out)).trans HBX.out
        clear hb hb3 hST HBX
        have HBX := Lib.hid hbx; clear hbx
        go_wp2_with fail
        refine (Join_any _ _ _ _ _ hS3 HALL.out).mono ?_
        rw [HJ3.out]
        rintro e w4 ⟨rfl, hb⟩
        have hb5 := btrans hb4 hb4.size hb
        have hbx := (hb.block _ (lt_of_heap HBX.out)).trans HBX.out
        clear hb hb4 hS3 HBX
        have HBX := Lib.hid hbx; clear hbx
        obtain ⟨i0, hi, hz0, hz1, hz2⟩ := info_parts Try.infoByte
        have hmk : ∀ w, (Instr.makeSlice 67 (.int .i64 64) (.int .i64 64)).run Try.prog w = .ok (.slice (some ⟨w.heap.size, 0, none⟩) 64 64) (w.alloc (.cells (madeCells #[.int .u8 0] 64) 5)) := by
          intro w
          have h := run_make (P := Try.prog) w 67 5 i0 (.int .u8 0) Try.underlying67 hi hz0 .i64 .i64 64 64 (by omega) (by omega) (by rw [hz2]; omega) (by omega)
          simpa [hz1, Value.cells] using h
        have hcv : (convert 67 9 (.slice (some ⟨w4.heap.size, 0, none⟩) 64 64)).run Try.prog (w4.alloc (.cells (madeCells #[.int .u8 0] 64) 5)) = .ok (.string (bs Z64)) (w4.alloc (.cells (madeCells #[.int .u8 0] 64) 5)) := by
          refine run_str_new (P := Try.prog) w4 _ 5 67 9 (bs Z64) 64 64 Try.underlying67 Try.underlying5 Try.underlying9 (by rw [bs_size]; rfl) ?_
          intro j hj
          have hj' : j < 64 := by rw [bs_size] at hj; exact hj
          rw [bs_get, made_zero 64 j hj']
          rw [z64_get]; rfl
        clear hz0 hz1 hz2 hi
        have hlt4 := lt_of_heap HBX.out
        have hal := (Below.refl w4.heap.size w4).alloc (Nat.le_refl _) (.cells (madeCells #[.int .u8 0] 64) 5)
        have hb6 := hb5.alloc hb5.size (.cells (madeCells #[.int .u8 0] 64) 5)
        have hbx := (hal.block _ (lt_of_heap HBX.out)).trans HBX.out
        clear hal hb5 HBX hlt4
        have HBX := Lib.hid hbx; clear hbx
        go_wp2_with fail
        refine (Open_any _ _ (by decide)).mono ?_
        rw [HZ.out]
        rintro e w5 ⟨rfl, hb⟩
        have hb7 := btrans hb6 hb6.size hb
        have hbx := (hb.block _ (lt_of_heap HBX.out)).trans HBX.out
        clear hb hb6 HBX hmk hcv
        have hlt5 := lt_of_heap hbx
        have c0 : w5.cell? ⟨w2.heap.size, 0, none⟩ = some (.int .i64 7) := by simp [World.cell?, hbx]
        have c1 : w5.cell? ⟨w2.heap.size, 1, none⟩ = some (.int .i64 2) := by simp [World.cell?, hbx]
        have c2 : w5.cell? ⟨w2.heap.size, 2, none⟩ = some (.int .i64 3) := by simp [World.cell?, hbx]
        have hq : (a81 == a81) = true := by simp
        clear hbx
        go_wp2_with (go_at_call 25; refine (Room_any _).mono ?_; rintro e w6 ⟨rfl, rfl⟩)
        go_ret
        exact ⟨rfl, hb7.alloc hb7.size _⟩
end Go.Proofs.Ytnghdolpmmdknaa
