/- What New of layer 44 (disk) returns: slices.Repeat of one string. No conditions but the sizes. -/
import Derived.Test.YtkpfkknldeafkaaDiskRead
import Derived.Test.YtkpfkknldeafkaaShelf
import Derived.Test.YtkpfkknldeafkaaBytes
import Derived.Laws.CopyOwn
namespace Go.Proofs.Ytkpfkknldeafkaa
open Go.RowKit

theorem mul_one_any (n : Nat) (hn : n ≤ 1024) (w : World) : Calls Try.prog 112 #[.int .u64 1, .int .u64 n] w fun e w' => e = .returned (.tuple #[.int .u64 0, .int .u64 n]) ∧ w = w' := by
  have h := Try.bits_Mul 1 n (by omega) (by omega) w
  rw [show 1 * n / 18446744073709551616 = 0 by omega, show 1 * n % 18446744073709551616 = n by omega] at h
  exact h.mono fun e w' h => ⟨h.1, h.2.symm⟩
/-- the first k cells hold s, the others nothing -/
def half (s : List UInt8) (n k : Nat) : List Value := List.replicate k (strV s) ++ List.replicate (n - k) (.string ⟨#[]⟩)
theorem half_len (s : List UInt8) (n k : Nat) (h : k ≤ n) : (half s n k).length = n := by unfold half; simp; omega
theorem half_get (s : List UInt8) (n k i : Nat) (h : i < k) : (half s n k)[i]? = some (strV s) := by
  unfold half
  rw [List.getElem?_append_left (by simp; omega)]
  simp [h]
theorem half_splice (s : List UInt8) (n k m : Nat) (h : k + m ≤ n) : splice (half s n k) k (List.replicate m (strV s)) = half s n (k + m) := by
  unfold splice half
  rw [List.take_append_of_le_length (by simp), List.take_of_length_le (by simp), List.length_replicate, List.drop_append, List.drop_of_length_le (by simp), List.length_replicate, List.drop_replicate, List.nil_append, ← List.append_assoc, List.replicate_append_replicate]
  congr 2
  omega
set_option maxRecDepth 100000 in
theorem copy_run {W w0 : World} {B g dl dc sl sc : Nat} {ad : Addr} {s : List UInt8} {n k m : Nat} (hb : Below B w0 W) (hBg : B ≤ g) (hg : W.heap[g]? = some (.cells (half s n k).toArray 9 (0, 0))) (hm : m = Nat.min sl dl) (hkm : k + m ≤ n)
    (hsrc : ∀ j, j < m → W.cell? (ad.add j) = some (strV s)) :
    ∃ w3, (Builtin.copy_ #[35, 35] 3 #[.slice (some ⟨g, k, none⟩) dl dc, .slice (some ad) sl sc]).run Try.prog W = .ok (.int .i64 m) w3 ∧ Hid (w3.heap[g]? = some (.cells (half s n (k + m)).toArray 9 (0, 0))) ∧ Below B w0 w3 := by
  obtain ⟨i0, hi, hz0, hz1, hz2⟩ := info_parts Try.info9
  have h := run_copy_row (P := Try.prog) W 35 35 3 9 g k dl dc ad sl sc (half s n k).toArray 9 (List.replicate m (strV s)) Try.underlying35 (by rw [hi]; simp [hz1]) hg (by rw [List.length_replicate]; exact hm)
    (by
      intro j v hj
      have hj2 : j < (List.replicate m (strV s)).length := by
        rcases Nat.lt_or_ge j (List.replicate m (strV s)).length with h | h
        · exact h
        · rw [List.getElem?_eq_none h] at hj; cases hj
      rw [List.eq_of_mem_replicate (List.mem_of_getElem? hj)]
      exact hsrc j (by simpa using hj2))
    (by rw [List.size_toArray, half_len _ _ _ (by omega), List.length_replicate]; exact hkm) (by intro v hv; rw [List.eq_of_mem_replicate hv]; rfl)
  rw [List.length_replicate] at h
  refine ⟨_, h, ?_, below_setRow hb hBg _⟩
  refine Lib.hid ((setRow_heap W g _ _ _ _ hg).trans ?_)
  have h3 := half_splice s n k m hkm
  unfold splice at h3
  rw [List.length_replicate] at h3
  simp only [List.append_assoc]
  rw [h3]
theorem made_half (s : List UInt8) (n : Nat) : madeCells #[.string ⟨#[]⟩] n = (half s n 0).toArray := by
  rw [← Array.toList_inj, toList_madeCells_one]; simp [half]
theorem half_own {W : World} {B g n : Nat} {s : List UInt8} (hB : B ≤ g) (hn : n ≤ maxLen) (h : W.heap[g]? = some (.cells (half s n n).toArray 9 (0, 0))) :
    W.ownsRow B 9 1 (.slice (some ⟨g, 0, none⟩) n n) n (List.replicate n (strV s)) := by
  refine ⟨by simp, .inr ⟨g, n, _, rfl, hB, h, Nat.le_refl _, hn, by simp [half], ?_⟩⟩
  simp [half]

set_option maxRecDepth 100000 in
set_option maxHeartbeats 4000000 in
theorem Repeat_any (b off cap : Nat) (s : List UInt8) (n : Nat) (hn1 : 1 ≤ n) (hn2 : n ≤ 1024) (w : World) (hc : w.cell? ⟨b, off, none⟩ = some (.string (bs s))) :
    Calls Try.prog 90 #[.slice (some ⟨b, off, none⟩) 1 cap, .int .i64 n] w fun e w' => ∃ v, e = .returned v ∧ w'.ownsRow w.heap.size 9 1 v n (List.replicate n (strV s)) ∧ Below w.heap.size w w' := by
  obtain ⟨i0, hi, hz0, hz1, hz2⟩ := info_parts Try.info9
  have hu1 : IntKind.u64.wrap 1 = 1 := by decide
  have hu2 : IntKind.u64.wrap (n : Int) = n := by unfold IntKind.wrap; simp [IntKind.bits, IntKind.signed]; omega
  have hmk : ∀ w, (Instr.makeSlice 35 (.int .i64 n) (.int .i64 n)).run Try.prog w = .ok (.slice (some ⟨w.heap.size, 0, none⟩) n n) (w.alloc (.cells (madeCells #[.string ⟨#[]⟩] n) 9)) := by
    intro w
    have h := run_make (P := Try.prog) w 35 9 i0 (.string ⟨#[]⟩) Try.underlying35 hi hz0 .i64 .i64 n n (by omega) (by omega) (by rw [hz2]; omega) (by omega)
    simpa [hz1, Value.cells] using h
  go_enter Try.func90, Try.ntmps90
  go_wp2_with fail
  refine (mul_one_any n hn2 _).mono ?_
  rintro e w1 ⟨rfl, rfl⟩
  have hb1 := (Below.refl w.heap.size w).alloc (Nat.le_refl _) (.cells (madeCells #[.string ⟨#[]⟩] n) 9)
  have hrow : (w.alloc (.cells (madeCells #[.string ⟨#[]⟩] n) 9)).heap[w.heap.size]? = some (.cells (half s n 0).toArray 9 (0, 0)) := by
    rw [← made_half]; exact heap_alloc_new w _
  have hc1 : (w.alloc (.cells (madeCells #[.string ⟨#[]⟩] n) 9)).cell? ⟨b, off, none⟩ = some (.string (bs s)) := by
    rw [(bcell ((Below.refl w.heap.size w).alloc (Nat.le_refl _) _)).1 _ _ (World.block_lt_of_cell? w _ hc)]; exact hc
  obtain ⟨w2, hcp, hg3, hb2⟩ := copy_run (dl := n) (dc := n) (sl := 1) (sc := cap) (ad := ⟨b, off, none⟩) (m := 1) hb1 (Nat.le_refl _) hrow (Nat.min_eq_left hn1).symm (by omega) (by
    intro j hj
    obtain rfl : j = 0 := by omega
    rw [addr_add]; exact hc1)
  rw [show ((1 : Nat) : Int) = 1 from rfl] at hcp
  clear hc1
  go_wp2
  go_loopw [8] (fun i wr => ∃ k : Nat, 1 ≤ k ∧ k ≤ n ∧ i = .int .i64 k ∧ Hid (wr.heap[w.heap.size]? = some (.cells (half s n k).toArray 9 (0, 0))) ∧ Below w.heap.size w wr) (fun i _ => n - (intOf i).toNat)
  case atStart => exact ⟨1, Nat.le_refl _, hn1, rfl, hg3, hb2⟩
  case round =>
    obtain ⟨k, hk1, hk2, rfl, HG, hbr⟩ := hrel
    clear hg3 hb2 hb1 hmk hcp
    by_cases hlt : k < n
    · have hlt' : (k : Int) < (n : Int) := by omega
      obtain ⟨m, hm⟩ : ∃ m, m = Nat.min k (n - k) := ⟨_, rfl⟩
      have hm1 : 1 ≤ m := by rw [hm]; exact Nat.le_min.2 ⟨hk1, by omega⟩
      have hm2 : m ≤ k := by rw [hm]; exact Nat.min_le_left _ _
      have hm3 : m ≤ n - k := by rw [hm]; exact Nat.min_le_right _ _
      obtain ⟨w3, hcp, hg3, hb3⟩ := copy_run (dl := n - k) (dc := n - k) (sl := k) (sc := n) (ad := ⟨w.heap.size, 0, none⟩) (m := m) hbr.drew (Nat.le_refl _) HG.out hm (by omega) (by
        intro j hj
        have hG := HG.out
        rw [addr_add]
        simp only [World.cell?, World.drew, hG]
        simpa using half_get s n k j (by omega))
      clear hm
      have hnk : ¬ n = k := by omega
      go_wp2
      go_region
      all_goals
        go_roundw
        case rel => exact ⟨_, _, _, _, _, _, _, _, _, _, _, _, _, _, ⟨k + m, by omega, by omega, by go_num, hg3, hb3⟩, rfl⟩
        case measure => simp [intOf]; omega
    · obtain rfl : k = n := by omega
      clear hlt
      go_wp2
      go_ret
      exact ⟨_, rfl, half_own (Nat.le_refl _) (by unfold maxLen; omega) HG.out, hbr⟩

def B64 : List UInt8 := List.replicate 64 0
theorem b64_len : B64.length = 64 := List.length_replicate ..
theorem b64_get (j : Nat) (h : j < B64.length) : B64[j] = 0 := List.eq_of_mem_replicate (List.getElem_mem h)
theorem made_b64 (n j : Nat) (h : j < n) : (madeCells #[.int .u8 0] n)[j]? = some (.int .u8 0) := by
  rw [← Array.getElem?_toList, toList_madeCells_one]; simp [h]
def newS (n : Int) : Dk × Int := if 16 ≤ n ∧ n ≤ 1024 then (⟨List.replicate n.toNat B64, [], 0, 0, false⟩, 0) else (⟨[], [], 0, 0, false⟩, 1)

theorem owned_nil {B : Nat} {w : World} (h : B ≤ w.heap.size) : Owned B ⟨[], [], 0, 0, false⟩ w (.slice none 0 0) (.slice none 0 0) :=
  ⟨B, Nat.le_refl _, fun g hg => by simp [Value.ownBlock] at hg, World.ownsRow_nil _ _ _ _, World.ownsRow_nil _ _ _ _, h⟩

set_option maxRecDepth 100000 in
set_option maxHeartbeats 4000000 in
theorem New_any (n : Int) (w : World) : Calls Try.prog 47 #[.int .i64 n] w (OpPost (newS n) w) := by
  have hR := Bx.new w #[.slice none 0 0, .slice none 0 0, .int .i64 0, .int .i64 0, .bool false] 38
  have hb0 := (Below.refl w.heap.size w).alloc (Nat.le_refl _) (.cells #[.slice none 0 0, .slice none 0 0, .int .i64 0, .int .i64 0, .bool false] 38)
  have r0 : (w.alloc (.cells #[.slice none 0 0, .slice none 0 0, .int .i64 0, .int .i64 0, .bool false] 38)).cell? ⟨w.heap.size, 0, none⟩ = some (.slice none 0 0) := hR.cell 0
  have r1 : (w.alloc (.cells #[.slice none 0 0, .slice none 0 0, .int .i64 0, .int .i64 0, .bool false] 38)).cell? ⟨w.heap.size, 1, none⟩ = some (.slice none 0 0) := hR.cell 1
  have r2 : (w.alloc (.cells #[.slice none 0 0, .slice none 0 0, .int .i64 0, .int .i64 0, .bool false] 38)).cell? ⟨w.heap.size, 2, none⟩ = some (.int .i64 0) := hR.cell 2
  have r3 : (w.alloc (.cells #[.slice none 0 0, .slice none 0 0, .int .i64 0, .int .i64 0, .bool false] 38)).cell? ⟨w.heap.size, 3, none⟩ = some (.int .i64 0) := hR.cell 3
  have r4 : (w.alloc (.cells #[.slice none 0 0, .slice none 0 0, .int .i64 0, .int .i64 0, .bool false] 38)).cell? ⟨w.heap.size, 4, none⟩ = some (.bool false) := hR.cell 4
  by_cases h0 : n < 16
  · have HF := Lib.hid (show newS n = (⟨[], [], 0, 0, false⟩, 1) by unfold newS; rw [if_neg (by omega)])
    go_enter Try.func47, Try.ntmps47
    go_wp2
    refine bodyPost_ret (v := .tuple #[.agg #[.slice none 0 0, .slice none 0 0, .int .i64 0, .int .i64 0, .bool false], .int .i64 1]) (by simp [results, Try.results47, go_sem, r0, r1, r2, r3, r4]) rfl ?_
    rw [HF.out]
    exact ⟨none, 0, none, 0, rfl, owned_nil (by simp), hb0⟩
  · by_cases h1 : 1024 < n
    · have HF := Lib.hid (show newS n = (⟨[], [], 0, 0, false⟩, 1) by unfold newS; rw [if_neg (by omega)])
      go_enter Try.func47, Try.ntmps47
      go_wp2
      refine bodyPost_ret (v := .tuple #[.agg #[.slice none 0 0, .slice none 0 0, .int .i64 0, .int .i64 0, .bool false], .int .i64 1]) (by simp [results, Try.results47, go_sem, r0, r1, r2, r3, r4]) rfl ?_
      rw [HF.out]
      exact ⟨none, 0, none, 0, rfl, owned_nil (by simp), hb0⟩
    · obtain ⟨m, hm1, hm2, rfl⟩ : ∃ m : Nat, 16 ≤ m ∧ m ≤ 1024 ∧ n = m := ⟨n.toNat, by omega, by omega, by omega⟩
      have HF := Lib.hid (show newS (m : Int) = (⟨List.replicate m B64, [], 0, 0, false⟩, 0) by unfold newS; rw [if_pos (by omega), Int.toNat_natCast])
      obtain ⟨i0, hi, hz0, hz1, hz2⟩ := info_parts Try.infoByte
      have hmk : ∀ w, (Instr.makeSlice 81 (.int .i64 64) (.int .i64 64)).run Try.prog w = .ok (.slice (some ⟨w.heap.size, 0, none⟩) 64 64) (w.alloc (.cells (madeCells #[.int .u8 0] 64) 5)) := by
        intro w
        have h := run_make (P := Try.prog) w 81 5 i0 (.int .u8 0) Try.underlying81 hi hz0 .i64 .i64 64 64 (by omega) (by omega) (by rw [hz2]; omega) (by omega)
        simpa [hz1, Value.cells] using h
      have hcv : ∀ v : World, (convert 81 9 (.slice (some ⟨v.heap.size, 0, none⟩) 64 64)).run Try.prog (v.alloc (.cells (madeCells #[.int .u8 0] 64) 5)) = .ok (.string (bs B64)) (v.alloc (.cells (madeCells #[.int .u8 0] 64) 5)) := by
        intro v
        refine run_str_new (P := Try.prog) v _ 5 81 9 (bs B64) 64 64 Try.underlying81 Try.underlying5 Try.underlying9 (by rw [bs_size]; rfl) ?_
        intro j hj
        have hj' : j < 64 := by rw [bs_size] at hj; exact hj
        rw [bs_get, made_b64 64 j hj']
        rw [b64_get]; rfl
      have hcv0 := hcv (w.alloc (.cells #[.slice none 0 0, .slice none 0 0, .int .i64 0, .int .i64 0, .bool false] 38))
      rw [show (w.alloc (.cells #[.slice none 0 0, .slice none 0 0, .int .i64 0, .int .i64 0, .bool false] 38)).heap.size = w.heap.size + 1 by simp] at hcv0
      clear hi hz0 hz1 hz2 hcv
      go_enter Try.func47, Try.ntmps47
      go_wp2_with fail
      have hb1 := (hb0.alloc (by simp) (.cells (madeCells #[.int .u8 0] 64) 5)).alloc (by simp; omega) (.cells #[.string (bs B64)] 9)
      have hc1 : (((w.alloc (.cells #[.slice none 0 0, .slice none 0 0, .int .i64 0, .int .i64 0, .bool false] 38)).alloc (.cells (madeCells #[.int .u8 0] 64) 5)).alloc (.cells #[.string (bs B64)] 9)).cell? ⟨w.heap.size + 1 + 1, 0, none⟩ = some (.string (bs B64)) := by
        have h := (Bx.new ((w.alloc (.cells #[.slice none 0 0, .slice none 0 0, .int .i64 0, .int .i64 0, .bool false] 38)).alloc (.cells (madeCells #[.int .u8 0] 64) 5)) #[.string (bs B64)] 9).cell 0
        simpa using h
      have hR1 := (hR.alloc (.cells (madeCells #[.int .u8 0] 64) 5)).alloc (.cells #[.string (bs B64)] 9)
      refine (Repeat_any (w.heap.size + 1 + 1) 0 1 B64 m (by omega) hm2 _ hc1).mono ?_
      rintro e w2 ⟨v, rfl, hown, hb⟩
      obtain ⟨a, c, rfl⟩ := own_slice hown
      have hR2 := hR1.call hb
      have hb2 := btrans hb1 hb1.size hb
      have hz2 : w.heap.size + 3 ≤ w2.heap.size := by have := hb.size; simp at this; omega
      clear hc1 hR1 r0 r1 r2 r3 r4 hcv0 hmk
      have r0 : w2.cell? ⟨w.heap.size, 0, none⟩ = some (.slice none 0 0) := hR2.cell 0
      have r1 : w2.cell? ⟨w.heap.size, 1, none⟩ = some (.slice none 0 0) := hR2.cell 1
      have r2 : w2.cell? ⟨w.heap.size, 2, none⟩ = some (.int .i64 0) := hR2.cell 2
      have r3 : w2.cell? ⟨w.heap.size, 3, none⟩ = some (.int .i64 0) := hR2.cell 3
      have r4 : w2.cell? ⟨w.heap.size, 4, none⟩ = some (.bool false) := hR2.cell 4
      have g0 := hR2.free 0
      have g1 := hR2.free 1
      have g2 := hR2.free 2
      have g3 := hR2.free 3
      have g4 := hR2.free 4
      have kk := hR2.sets (.slice a m c) (.slice none 0 0) (.int .i64 0) (.int .i64 0) (.bool false)
      have k0 := kk.cell 0
      have k1 := kk.cell 1
      have k2 := kk.cell 2
      have k3 := kk.cell 3
      have k4 := kk.cell 4
      simp only [List.getElem?_toArray, List.getElem?_cons_zero, List.getElem?_cons_succ] at k0 k1 k2 k3 k4
      have hO : Owned (w.heap.size + 3) ⟨List.replicate m B64, [], 0, 0, false⟩ w2 (.slice a m c) (.slice none 0 0) := by
        refine ⟨w2.heap.size, hz2, fun g hg => (hown.lt g hg).2, ?_, World.ownsRow_nil _ _ _ _, Nat.le_refl _⟩
        rw [List.length_replicate, List.map_replicate]
        exact own_mono hown (by simp)
      have HO := Lib.hid hO; have HB := Lib.hid hb2
      clear hO hb2 hown hb hb1 hb0 hR hR2 kk
      go_wp2
      refine bodyPost_ret (v := .tuple #[.agg #[.slice a m c, .slice none 0 0, .int .i64 0, .int .i64 0, .bool false], .int .i64 0]) (by simp [results, Try.results47, go_sem, k0, k1, k2, k3, k4]) rfl ?_
      rw [HF.out]
      refine ⟨a, c, none, 0, by rw [List.length_replicate]; rfl, ?_, ?_⟩
      · rw [List.length_replicate]
        exact (HO.out.sets w.heap.size (by omega) _ _ _ _ _).mono (by omega)
      · exact below_sets HB.out w.heap.size (Nat.le_refl _) _ _ _ _ _
end Go.Proofs.Ytkpfkknldeafkaa
