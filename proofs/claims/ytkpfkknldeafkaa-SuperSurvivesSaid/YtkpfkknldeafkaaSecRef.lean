/- What the reference's functions (layer 45) return: the same plain functions. No conditions but the numbers' own ranges. -/
import Derived.Test.YtkpfkknldeafkaaSecWalk
import Derived.Test.YtkpfkknldeafkaaCrcRef
import Derived.Test.YtkpfkknldeafkaaBytes
namespace Go.Proofs.Ytkpfkknldeafkaa
open Go.RowKit

set_option maxRecDepth 100000 in
set_option maxHeartbeats 1000000 in
theorem Rbig_any (u n : Int) (w : World) (u0 : 0 ≤ u) (_u1 : u < 18446744073709551616) (n0 : 1 ≤ n) (hn : n ≤ 8) :
    Calls Try.prog 117 #[.int .u64 u, .int .i64 n] w fun e w' => e = .returned (.string (bs (be u.toNat n.toNat))) ∧ Below w.heap.size w w' := by
  obtain ⟨n, rfl⟩ := Int.eq_ofNat_of_zero_le (show 0 ≤ n by omega)
  rw [Int.toNat_natCast]
  have hB0 := Below.refl w.heap.size w
  have hbl : (be u.toNat n).length = n := be_length _ _
  have HBL := Lib.hid hbl; clear hbl
  go_enter Try.func117, Try.ntmps117
  go_wp2
  go_loopw [5, 6] (fun v i wr => ∃ j : Nat, j ≤ n ∧ i = .int .i64 ((n : Int) - 1 - j) ∧ wr.ownsRow w.heap.size 5 1 v ((be u.toNat n).take j).length (bcs ((be u.toNat n).take j)) ∧ Below w.heap.size w wr) (fun _ i _ => (intOf i + 1).toNat)
  case atStart => exact ⟨0, Nat.zero_le _, by go_num, World.ownsRow_nil _ _ _ _, hB0⟩
  case round =>
    obtain ⟨j, hj, rfl, hown, hbel⟩ := hrel
    by_cases hlt : j < n
    · obtain ⟨m, hm⟩ : ∃ m : Nat, (n : Int) - 1 - j = m := ⟨n - 1 - j, by omega⟩
      rw [hm]
      have hm8 : m ≤ 7 := by omega
      have hjl : j < (be u.toNat n).length := by rw [HBL.out]; exact hlt
      have hzz : u / 2 ^ (8 * m) % 256 = (((be u.toNat n)[j]).toNat : Int) := by
        rw [big_byte u m u0, be_get, show n - 1 - j = m by omega]
      have HZ := Lib.hid hzz; clear hzz
      have hts := ltake_snoc (be u.toNat n) j hjl
      have HTS := Lib.hid hts; clear hts
      have HM := Lib.hid hm; clear hm
      go_wp2_with (at_builtin; refine wpList_append_byte rfl _ _ rfl w.heap.size _ ((be u.toNat n).take j) (be u.toNat n)[j] hown rfl rfl (by rw [List.length_take]; omega) w hbel hbel.size _ HZ.out ?_; intro v2 w2 hown2 hbel2 _)
      rw [← HTS.out] at hown2
      go_wp2
      go_roundw
      case rel => exact ⟨j + 1, by omega, (by rw [← HM.out]; go_num), hown2, hbel2⟩
      case measure => first | (simp [intOf]; done) | (simp [intOf]; omega)
    · have hjn : j = n := by omega
      subst hjn
      rw [List.take_of_length_le (by rw [HBL.out]; omega)] at hown
      have hcv := own_conv hown
      have hneg : (j : Int) - 1 - j = -1 := by omega
      rw [hneg]
      go_wp2
      go_ret
      exact ⟨rfl, hbel⟩

set_option maxRecDepth 100000 in
set_option maxHeartbeats 1000000 in
theorem R45little_any (u n : Int) (w : World) (u0 : 0 ≤ u) (_u1 : u < 18446744073709551616) (n0 : 1 ≤ n) (hn : n ≤ 8) :
    Calls Try.prog 118 #[.int .u64 u, .int .i64 n] w fun e w' => e = .returned (.string (bs (lit u.toNat n.toNat))) ∧ Below w.heap.size w w' := by
  obtain ⟨n, rfl⟩ := Int.eq_ofNat_of_zero_le (show 0 ≤ n by omega)
  rw [Int.toNat_natCast]
  have hB0 := Below.refl w.heap.size w
  have hbl : (lit u.toNat n).length = n := lit_length _ _
  have HBL := Lib.hid hbl; clear hbl
  go_enter Try.func118, Try.ntmps118
  go_wp2
  go_loopw [5, 6] (fun v i wr => ∃ j : Nat, j ≤ n ∧ i = .int .i64 j ∧ wr.ownsRow w.heap.size 5 1 v ((lit u.toNat n).take j).length (bcs ((lit u.toNat n).take j)) ∧ Below w.heap.size w wr) (fun _ i _ => n - (intOf i).toNat)
  case atStart => exact ⟨0, Nat.zero_le _, rfl, World.ownsRow_nil _ _ _ _, hB0⟩
  case round =>
    obtain ⟨j, hj, rfl, hown, hbel⟩ := hrel
    by_cases hlt : j < n
    · have hjl : j < (lit u.toNat n).length := by rw [HBL.out]; exact hlt
      have hzz : u / 2 ^ (8 * j) % 256 = (((lit u.toNat n)[j]).toNat : Int) := by rw [big_byte u j u0, lit_get]
      have HZ := Lib.hid hzz; clear hzz
      have hts := ltake_snoc (lit u.toNat n) j hjl
      have HTS := Lib.hid hts; clear hts
      go_wp2_with (at_builtin; refine wpList_append_byte rfl _ _ rfl w.heap.size _ ((lit u.toNat n).take j) (lit u.toNat n)[j] hown rfl rfl (by rw [List.length_take]; omega) w hbel hbel.size _ HZ.out ?_; intro v2 w2 hown2 hbel2 _)
      rw [← HTS.out] at hown2
      go_wp2
      go_roundw
      case rel => exact ⟨j + 1, by omega, by go_num, hown2, hbel2⟩
      case measure => simp [intOf]; omega
    · have hjn : j = n := by omega
      subst hjn
      rw [List.take_of_length_le (by rw [HBL.out]; omega)] at hown
      have hcv := own_conv hown
      go_wp2
      go_ret
      exact ⟨rfl, hbel⟩

set_option maxRecDepth 100000 in
set_option maxHeartbeats 1000000 in
theorem RMark_any (g p q : Int) (w : World) (g0 : 0 ≤ g) (g1 : g < 9223372036854775808) (p0 : 0 ≤ p) (p1 : p < 9223372036854775808) :
    Calls Try.prog 116 #[.agg #[.int .i64 g, .int .i64 p, .int .i64 q]] w fun e w' => e = .returned (.string (bs (markL g.toNat p.toNat))) ∧ Below w.heap.size w w' := by
  have hS : (w.alloc (.cells #[.int .i64 g, .int .i64 p, .int .i64 q] 87)).cell? ⟨w.heap.size, 0, none⟩ = some (.int .i64 g) ∧ (w.alloc (.cells #[.int .i64 g, .int .i64 p, .int .i64 q] 87)).cell? ⟨w.heap.size, 1, none⟩ = some (.int .i64 p) ∧ Below w.heap.size w (w.alloc (.cells #[.int .i64 g, .int .i64 p, .int .i64 q] 87)) :=
    ⟨cell_box _ _ _ _, cell_box _ _ _ _, (Below.refl _ _).alloc (Nat.le_refl _) _⟩
  have e1 : IntKind.u64.wrap g = g := by rw [IntKind.wrap_u64]; omega
  have e2 : IntKind.u64.wrap p = p := by rw [IntKind.wrap_u64]; omega
  go_enter Try.func116, Try.ntmps116
  go_wp2
  go_region_held3 (fun w' => w'.cell? ⟨w.heap.size, 0, none⟩ = some (.int .i64 g) ∧ w'.cell? ⟨w.heap.size, 1, none⟩ = some (.int .i64 p) ∧ Below w.heap.size w w')
    (first | assumption | exact hS | exact keep_draw (by assumption) | exact keep_call (by assumption) (by assumption))
    ((go_at_call 117; refine (Rbig_any _ _ _ (by omega) (by omega) (by decide) (by decide)).mono ?_; rintro e w' ⟨rfl, hb⟩))
  all_goals go_wp2
  all_goals go_ret
  all_goals exact ⟨rfl, mark_end (g := g) (p := p) (by assumption)⟩

set_option maxRecDepth 100000 in
set_option maxHeartbeats 400000 in
theorem Rvalue_any (l : List UInt8) (w : World) (h : l.length ≤ 6) :
    Calls Try.prog 98 #[.string (bs l)] w fun e w' => e = .returned (.int .u64 (num l : Nat)) ∧ w = w' := by
  go_enter Try.func98, Try.ntmps98
  go_wp2
  go_loop [3, 4] (fun x i => ∃ (k n : Nat), k ≤ l.length ∧ i = .int .i64 k ∧ x = .int .u64 n ∧ n < 281474976710656 ∧ n = num (l.take k)) (fun _ i => l.length - (intOf i).toNat)
  case atStart => exact ⟨0, 0, Nat.zero_le _, rfl, rfl, by omega, by simp [num]⟩
  case round =>
    obtain ⟨k, n, hk, rfl, rfl, hn, hne⟩ := hrel
    have HN := Lib.hid hne; clear hne
    by_cases hlt : k < l.length
    · have hc := l[k].toNat_lt
      have hc2 : (l[k].toNat : Int) < 256 := by omega
      clear hc
      go_wp2
      go_round
      case rel =>
        have e : num (l.take (k + 1)) = numS n l[k] := by rw [ltake_snoc l k hlt, num_snoc, ← HN.out]; rfl
        refine ⟨k + 1, num (l.take (k + 1)), by omega, by go_num, by rw [e]; unfold numS; go_num, ?_, rfl⟩
        have := num_lt (l.take (k + 1))
        have h2 : (l.take (k + 1)).length ≤ 6 := by rw [List.length_take]; omega
        exact Nat.lt_of_lt_of_le this (Nat.pow_le_pow_right (n := 256) (by decide) h2)
      case measure => simp [intOf]; omega
    · go_wp2
      go_ret
      exact ⟨ret_int (by rw [HN.out, ltake_all l hlt]), rfl⟩

set_option maxRecDepth 100000 in
set_option maxHeartbeats 400000 in
theorem RValidStamp_any (g p q : Int) (w : World) :
    Calls Try.prog 94 #[.agg #[.int .i64 g, .int .i64 p, .int .i64 q]] w fun e w' => e = .returned (.bool (stampB g p q)) ∧ Below w.heap.size w w' := by
  go_enter Try.func94, Try.ntmps94
  go_wp2
  all_goals go_ret
  all_goals refine ⟨ret_bool ?_, (Below.refl _ _).alloc (Nat.le_refl _) _⟩
  all_goals first
    | exact ((stampB_iff g p q).2 (by omega)).symm
    | exact Eq.symm (stampB_no (g := g) (p := p) (q := q) (by omega))
    | (show decide (p < q) = stampB g p q; rw [Bool.eq_iff_iff, stampB_iff, decide_eq_true_iff]; omega)
end Go.Proofs.Ytkpfkknldeafkaa
