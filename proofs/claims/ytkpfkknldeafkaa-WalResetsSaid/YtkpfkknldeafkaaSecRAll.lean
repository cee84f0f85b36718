/- What the reference's functions (layer 45) return: the same plain functions. No conditions but the numbers' own ranges. What the reference's sealed, Seal, Open, Split, Join and Few (layer 45) return. No conditions but the numbers' own ranges. What the reference's Seal, Pieces, Split and Few (layer 45) return. No conditions but the numbers' own ranges. What the reference's Open of layer 45 returns. No conditions but the numbers' own ranges. The plain facts that the chapter's examples and laws of layer 45 use. No conditions. What sector's Join returns. No conditions but the sizes of its strings. What the reference's Join of layer 45 returns. No conditions but the sizes of its strings. -/
import Derived.Test.YtkpfkknldeafkaaSecWalk
import Derived.Test.YtkpfkknldeafkaaCrcRef
import Derived.Test.YtkpfkknldeafkaaBytes
import Derived.Test.YtkpfkknldeafkaaSecJoinP
import Derived.Test.YtkpfkknldeafkaaRegion
import Derived.Deep.QuietTactic
import Derived.BigQuiet
namespace Go.Proofs.Ytkpfkknldeafkaa
open Go.RowKit

set_option maxRecDepth 100000 in
set_option maxHeartbeats 1000000 in
theorem Rbig_any (u n : Int) (w : World) (u0 : 0 ≤ u) (_u1 : u < 18446744073709551616) (n0 : 1 ≤ n) (hn : n ≤ 8) :
    Calls Try.prog 117 #[.int .u64 u, .int .i64 n] w fun e w' => e = .returned (.string (bs (be u.toNat n.toNat))) ∧ Below w.heap.size w w' := by
  obtain ⟨n, rfl⟩ := Int.eq_ofNat_of_zero_le (show 0 ≤ n by omega)
  rw [Int.toNat_natCast]
  have hB0 := Below.refl w.heap.size w
  have hbl : (be u.toNat n).length = n := be_length _ _
  have HBL := Lib.hid hbl; clear hbl
  go_enter Try.func117, Try.ntmps117
  go_wp2
  go_loopw [5, 6] (fun v i wr => ∃ j : Nat, j ≤ n ∧ i = .int .i64 ((n : Int) - 1 - j) ∧ wr.ownsRow w.heap.size 5 1 v ((be u.toNat n).take j).length (bcs ((be u.toNat n).take j)) ∧ Below w.heap.size w wr) (fun _ i _ => (intOf i + 1).toNat)
  case atStart => exact ⟨0, Nat.zero_le _, by go_num, World.ownsRow_nil _ _ _ _, hB0⟩
  case round =>
    obtain ⟨j, hj, rfl, hown, hbel⟩ := hrel
    by_cases hlt : j < n
    · obtain ⟨m, hm⟩ : ∃ m : Nat, (n : Int) - 1 - j = m := ⟨n - 1 - j, by omega⟩
      rw [hm]
      have hm8 : m ≤ 7 := by omega
      have hjl : j < (be u.toNat n).length := by rw [HBL.out]; exact hlt
      have hzz : u / 2 ^ (8 * m) % 256 = (((be u.toNat n)[j]).toNat : Int) := by
        rw [big_byte u m u0, be_get, show n - 1 - j = m by omega]
      have HZ := Lib.hid hzz; clear hzz
      have hts := ltake_snoc (be u.toNat n) j hjl
      have HTS := Lib.hid hts; clear hts
      have HM := Lib.hid hm; clear hm
      go_wp2_with (at_builtin; refine wpList_append_byte rfl _ _ rfl w.heap.size _ ((be u.toNat n).take j) (be u.toNat n)[j] hown rfl rfl (by rw [List.length_take]; omega) w hbel hbel.size _ HZ.out ?_; intro v2 w2 hown2 hbel2 _)
      rw [← HTS.out] at hown2
      go_wp2
      go_roundw
      case rel => exact ⟨j + 1, by omega, (by rw [← HM.out]; go_num), hown2, hbel2⟩
      case measure => first | (simp [intOf]; done) | (simp [intOf]; omega)
    · have hjn : j = n := by omega
      subst hjn
      rw [List.take_of_length_le (by rw [HBL.out]; omega)] at hown
      have hcv := own_conv hown
      have hneg : (j : Int) - 1 - j = -1 := by omega
      rw [hneg]
      go_wp2
      go_ret
      exact ⟨rfl, hbel⟩

set_option maxRecDepth 100000 in
set_option maxHeartbeats 1000000 in
theorem R45little_any (u n : Int) (w : World) (u0 : 0 ≤ u) (_u1 : u < 18446744073709551616) (n0 : 1 ≤ n) (hn : n ≤ 8) :
    Calls Try.prog 118 #[.int .u64 u, .int .i64 n] w fun e w' => e = .returned (.string (bs (lit u.toNat n.toNat))) ∧ Below w.heap.size w w' := by
  obtain ⟨n, rfl⟩ := Int.eq_ofNat_of_zero_le (show 0 ≤ n by omega)
  rw [Int.toNat_natCast]
  have hB0 := Below.refl w.heap.size w
  have hbl : (lit u.toNat n).length = n := lit_length _ _
  have HBL := Lib.hid hbl; clear hbl
  go_enter Try.func118, Try.ntmps118
  go_wp2
  go_loopw [5, 6] (fun v i wr => ∃ j : Nat, j ≤ n ∧ i = .int .i64 j ∧ wr.ownsRow w.heap.size 5 1 v ((lit u.toNat n).take j).length (bcs ((lit u.toNat n).take j)) ∧ Below w.heap.size w wr) (fun _ i _ => n - (intOf i).toNat)
  case atStart => exact ⟨0, Nat.zero_le _, rfl, World.ownsRow_nil _ _ _ _, hB0⟩
  case round =>
    obtain ⟨j, hj, rfl, hown, hbel⟩ := hrel
    by_cases hlt : j < n
    · have hjl : j < (lit u.toNat n).length := by rw [HBL.out]; exact hlt
      have hzz : u / 2 ^ (8 * j) % 256 = (((lit u.toNat n)[j]).toNat : Int) := by rw [big_byte u j u0, lit_get]
      have HZ := Lib.hid hzz; clear hzz
      have hts := ltake_snoc (lit u.toNat n) j hjl
      have HTS := Lib.hid hts; clear hts
      go_wp2_with (at_builtin; refine wpList_append_byte rfl _ _ rfl w.heap.size _ ((lit u.toNat n).take j) (lit u.toNat n)[j] hown rfl rfl (by rw [List.length_take]; omega) w hbel hbel.size _ HZ.out ?_; intro v2 w2 hown2 hbel2 _)
      rw [← HTS.out] at hown2
      go_wp2
      go_roundw
      case rel => exact ⟨j + 1, by omega, by go_num, hown2, hbel2⟩
      case measure => simp [intOf]; omega
    · have hjn : j = n := by omega
      subst hjn
      rw [List.take_of_length_le (by rw [HBL.out]; omega)] at hown
      have hcv := own_conv hown
      go_wp2
      go_ret
      exact ⟨rfl, hbel⟩

set_option maxRecDepth 100000 in
set_option maxHeartbeats 1000000 in
theorem RMark_any (g p q : Int) (w : World) (g0 : 0 ≤ g) (g1 : g < 9223372036854775808) (p0 : 0 ≤ p) (p1 : p < 9223372036854775808) :
    Calls Try.prog 116 #[.agg #[.int .i64 g, .int .i64 p, .int .i64 q]] w fun e w' => e = .returned (.string (bs (markL g.toNat p.toNat))) ∧ Below w.heap.size w w' := by
  have hS : (w.alloc (.cells #[.int .i64 g, .int .i64 p, .int .i64 q] 87)).cell? ⟨w.heap.size, 0, none⟩ = some (.int .i64 g) ∧ (w.alloc (.cells #[.int .i64 g, .int .i64 p, .int .i64 q] 87)).cell? ⟨w.heap.size, 1, none⟩ = some (.int .i64 p) ∧ Below w.heap.size w (w.alloc (.cells #[.int .i64 g, .int .i64 p, .int .i64 q] 87)) :=
    ⟨cell_box _ _ _ _, cell_box _ _ _ _, (Below.refl _ _).alloc (Nat.le_refl _) _⟩
  have e1 : IntKind.u64.wrap g = g := by rw [IntKind.wrap_u64]; omega
  have e2 : IntKind.u64.wrap p = p := by rw [IntKind.wrap_u64]; omega
  go_enter Try.func116, Try.ntmps116
  go_wp2
  go_region_held3 (fun w' => w'.cell? ⟨w.heap.size, 0, none⟩ = some (.int .i64 g) ∧ w'.cell? ⟨w.heap.size, 1, none⟩ = some (.int .i64 p) ∧ Below w.heap.size w w')
    (first | assumption | exact hS | exact keep_draw (by assumption) | exact keep_call (by assumption) (by assumption))
    ((go_at_call 117; refine (Rbig_any _ _ _ (by omega) (by omega) (by decide) (by decide)).mono ?_; rintro e w' ⟨rfl, hb⟩))
  all_goals go_wp2
  all_goals go_ret
  all_goals exact ⟨rfl, mark_end (g := g) (p := p) (by assumption)⟩

set_option maxRecDepth 100000 in
set_option maxHeartbeats 400000 in
theorem Rvalue_any (l : List UInt8) (w : World) (h : l.length ≤ 6) :
    Calls Try.prog 98 #[.string (bs l)] w fun e w' => e = .returned (.int .u64 (num l : Nat)) ∧ w = w' := by
  go_enter Try.func98, Try.ntmps98
  go_wp2
  go_loop [3, 4] (fun x i => ∃ (k n : Nat), k ≤ l.length ∧ i = .int .i64 k ∧ x = .int .u64 n ∧ n < 281474976710656 ∧ n = num (l.take k)) (fun _ i => l.length - (intOf i).toNat)
  case atStart => exact ⟨0, 0, Nat.zero_le _, rfl, rfl, by omega, by simp [num]⟩
  case round =>
    obtain ⟨k, n, hk, rfl, rfl, hn, hne⟩ := hrel
    have HN := Lib.hid hne; clear hne
    by_cases hlt : k < l.length
    · have hc := l[k].toNat_lt
      have hc2 : (l[k].toNat : Int) < 256 := by omega
      clear hc
      go_wp2
      go_round
      case rel =>
        have e : num (l.take (k + 1)) = numS n l[k] := by rw [ltake_snoc l k hlt, num_snoc, ← HN.out]; rfl
        refine ⟨k + 1, num (l.take (k + 1)), by omega, by go_num, by rw [e]; unfold numS; go_num, ?_, rfl⟩
        have := num_lt (l.take (k + 1))
        have h2 : (l.take (k + 1)).length ≤ 6 := by rw [List.length_take]; omega
        exact Nat.lt_of_lt_of_le this (Nat.pow_le_pow_right (n := 256) (by decide) h2)
      case measure => simp [intOf]; omega
    · go_wp2
      go_ret
      exact ⟨ret_int (by rw [HN.out, ltake_all l hlt]), rfl⟩

set_option maxRecDepth 100000 in
set_option maxHeartbeats 400000 in
theorem RValidStamp_any (g p q : Int) (w : World) :
    Calls Try.prog 94 #[.agg #[.int .i64 g, .int .i64 p, .int .i64 q]] w fun e w' => e = .returned (.bool (stampB g p q)) ∧ Below w.heap.size w w' := by
  go_enter Try.func94, Try.ntmps94
  go_wp2
  all_goals go_ret
  all_goals refine ⟨ret_bool ?_, (Below.refl _ _).alloc (Nat.le_refl _) _⟩
  all_goals first
    | exact ((stampB_iff g p q).2 (by omega)).symm
    | exact Eq.symm (stampB_no (g := g) (p := p) (q := q) (by omega))
    | (show decide (p < q) = stampB g p q; rw [Bool.eq_iff_iff, stampB_iff, decide_eq_true_iff]; omega)
end Go.Proofs.Ytkpfkknldeafkaa

namespace Go.Proofs.Ytkpfkknldeafkaa
open Go.RowKit

theorem head_str (g p q n : Nat) : Value.string (bs (markL g p ++ (be q 2 ++ be n 2))) = .string (bs (headL g p q n)) := by unfold headL markL; simp [List.append_assoc]
theorem sealed_str (g p q : Nat) (l B : List UInt8) (hB : B = bodyL l) : Ending.returned (.string (bs (headL g p q l.length ++ (lit (crc (headL g p q l.length ++ B)) 4 ++ (B ++ markL g p))))) = .returned (.string (bs (sealedL g p q l))) := by
  subst hB; unfold sealedL; simp [List.append_assoc]
/-- the stamp in its box -/
def SBox (w : World) (g p q : Int) (W : World) : Prop := W.heap[w.heap.size]? = some (.cells #[.int .i64 g, .int .i64 p, .int .i64 q] 87 (0, 0)) ∧ Below w.heap.size w W
theorem SBox.start (w : World) (g p q : Int) : SBox w g p q (w.alloc (.cells #[.int .i64 g, .int .i64 p, .int .i64 q] 87)) := ⟨heap_alloc_new w _, (Below.refl _ _).alloc (Nat.le_refl _) _⟩
theorem SBox.call {w W W' : World} {g p q : Int} (h : SBox w g p q W) (hb : Below W.heap.size W W') : SBox w g p q W' := ⟨(hb.block _ (lt_of_heap h.1)).trans h.1, btrans h.2 h.2.size hb⟩
theorem SBox.drew {w W : World} {g p q : Int} (h : SBox w g p q W) : SBox w g p q W.drew := ⟨h.1, h.2.drew⟩
theorem SBox.cells {w W : World} {g p q : Int} (h : SBox w g p q W) : W.cell? ⟨w.heap.size, 0, none⟩ = some (.int .i64 g) ∧ W.cell? ⟨w.heap.size, 1, none⟩ = some (.int .i64 p) ∧ W.cell? ⟨w.heap.size, 2, none⟩ = some (.int .i64 q) := by
  have h1 := h.1
  refine ⟨?_, ?_, ?_⟩ <;> simp [World.cell?, h1]
theorem keep3_draw {w W : World} {g p q : Int} (h : W.cell? ⟨w.heap.size, 0, none⟩ = some (.int .i64 g) ∧ W.cell? ⟨w.heap.size, 1, none⟩ = some (.int .i64 p) ∧ W.cell? ⟨w.heap.size, 2, none⟩ = some (.int .i64 q) ∧ SBox w g p q W) :
    W.drew.cell? ⟨w.heap.size, 0, none⟩ = some (.int .i64 g) ∧ W.drew.cell? ⟨w.heap.size, 1, none⟩ = some (.int .i64 p) ∧ W.drew.cell? ⟨w.heap.size, 2, none⟩ = some (.int .i64 q) ∧ SBox w g p q W.drew := ⟨h.1, h.2.1, h.2.2.1, h.2.2.2.drew⟩
theorem keep3_call {w W W' : World} {g p q : Int} (h : W.cell? ⟨w.heap.size, 0, none⟩ = some (.int .i64 g) ∧ W.cell? ⟨w.heap.size, 1, none⟩ = some (.int .i64 p) ∧ W.cell? ⟨w.heap.size, 2, none⟩ = some (.int .i64 q) ∧ SBox w g p q W) (hb : Below W.heap.size W W') :
    W'.cell? ⟨w.heap.size, 0, none⟩ = some (.int .i64 g) ∧ W'.cell? ⟨w.heap.size, 1, none⟩ = some (.int .i64 p) ∧ W'.cell? ⟨w.heap.size, 2, none⟩ = some (.int .i64 q) ∧ SBox w g p q W' := by
  have h2 := h.2.2.2.call hb
  obtain ⟨a, b, c⟩ := h2.cells
  exact ⟨a, b, c, h2⟩
theorem keep3_mk {w W : World} {g p q : Int} (h : SBox w g p q W) : W.cell? ⟨w.heap.size, 0, none⟩ = some (.int .i64 g) ∧ W.cell? ⟨w.heap.size, 1, none⟩ = some (.int .i64 p) ∧ W.cell? ⟨w.heap.size, 2, none⟩ = some (.int .i64 q) ∧ SBox w g p q W := by
  obtain ⟨a, b, c⟩ := h.cells
  exact ⟨a, b, c, h⟩
theorem keep3_box {w W : World} {g p q : Int} (h : W.cell? ⟨w.heap.size, 0, none⟩ = some (.int .i64 g) ∧ W.cell? ⟨w.heap.size, 1, none⟩ = some (.int .i64 p) ∧ W.cell? ⟨w.heap.size, 2, none⟩ = some (.int .i64 q) ∧ SBox w g p q W) : SBox w g p q W := h.2.2.2

set_option maxRecDepth 100000 in
set_option maxHeartbeats 2000000 in
theorem Rsealed_any (g p q : Int) (l : List UInt8) (w : World) (g0 : 0 ≤ g) (g1 : g < 9223372036854775808) (p0 : 0 ≤ p) (p1 : p < 9223372036854775808) (q0 : 0 ≤ q) (q1 : q < 9223372036854775808) (hl : l.length ≤ 40) :
    Calls Try.prog 95 #[.agg #[.int .i64 g, .int .i64 p, .int .i64 q], .string (bs l)] w fun e w' => e = .returned (.string (bs (sealedL g.toNat p.toNat q.toNat l))) ∧ Below w.heap.size w w' := by
  have hs0 := keep3_mk (SBox.start w g p q)
  have e1 : IntKind.u64.wrap q = q := by rw [IntKind.wrap_u64]; omega
  have hl' : (l.length : Int) ≤ 40 := by omega
  have e2 : IntKind.u64.wrap (l.length : Int) = l.length := by rw [IntKind.wrap_u64]; omega
  go_enter Try.func95, Try.ntmps95
  go_upto_region 1 with (fail)
  go_cut [5] (fun s5 wx => s5 = .string (bs (headL g.toNat p.toNat q.toNat l.length)) ∧ SBox w g p q wx)
  case first =>
    go_region_held3 (fun w' => w'.cell? ⟨w.heap.size, 0, none⟩ = some (.int .i64 g) ∧ w'.cell? ⟨w.heap.size, 1, none⟩ = some (.int .i64 p) ∧ w'.cell? ⟨w.heap.size, 2, none⟩ = some (.int .i64 q) ∧ SBox w g p q w')
      (first | assumption | exact hs0 | exact keep3_draw (by assumption) | exact keep3_call (by assumption) (by assumption))
      (first
        | (go_at_call 117; refine (Rbig_any _ _ _ (by omega) (by omega) (by decide) (by decide)).mono ?_; rintro e w' ⟨rfl, hb⟩)
        | (go_at_call 116; refine (RMark_any _ _ _ _ g0 g1 p0 p1).mono ?_; rintro e w' ⟨rfl, hb⟩))
    all_goals go_wp2_with fail
    all_goals go_meet
    all_goals exact ⟨head_str _ _ _ _, keep3_box (by assumption)⟩
  case rest =>
    obtain ⟨rfl, hS⟩ := hcut
    go_wp2
    clear e1 e2
    go_loop [6] (fun b => ∃ k : Nat, k ≤ 40 - l.length ∧ b = .string (bs (l ++ List.replicate k 0))) (fun b => 40 - (match b with | .string s => s.size | _ => 0))
    case atStart => exact ⟨0, Nat.zero_le _, by simp⟩
    case round =>
      obtain ⟨k, hk, rfl⟩ := hrel
      by_cases hlt : k < 40 - l.length
      · have hz : (l ++ List.replicate k 0).length < 40 := by simp; omega
        obtain ⟨B, hB⟩ : ∃ B : List UInt8, B = l ++ List.replicate k 0 := ⟨_, rfl⟩
        rw [← hB] at hz
        rw [← hB]
        have HB := Lib.hid hB; clear hB
        go_wp2
        go_round
        case rel =>
          refine ⟨k + 1, by omega, ?_⟩
          rw [show (ByteArray.mk #[0]) = bs [0] from rfl, bs_append, HB.out, List.append_assoc, ← List.replicate_succ']
        case measure =>
          show 40 - (bs B ++ ByteArray.mk #[0]).size < 40 - (bs B).size
          rw [show (ByteArray.mk #[0]) = bs [0] from rfl, bs_append, bs_size, bs_size, List.length_append]
          simp; omega
      · obtain ⟨B, hB⟩ : ∃ B : List UInt8, B = bodyL l := ⟨_, rfl⟩
        have hkb : l ++ List.replicate k 0 = B := by rw [hB, show k = 40 - l.length by omega]; rfl
        rw [hkb]
        have hbl : B.length = 40 := by rw [hB]; exact bodyL_length l hl
        have HB := Lib.hid hB; clear hB
        have HM := Lib.hid (show (headL g.toNat p.toNat q.toNat l.length ++ B).length ≤ maxLen by rw [List.length_append, headL_length, hbl]; decide)
        have hcr := crc_lt (headL g.toNat p.toNat q.toNat l.length ++ B)
        have hs1 := keep3_mk hS
        have e3 : IntKind.u64.wrap ((crc (headL g.toNat p.toNat q.toNat l.length ++ B) : Nat) : Int) = ((crc (headL g.toNat p.toNat q.toNat l.length ++ B) : Nat) : Int) := by rw [IntKind.wrap_u64]; omega
        clear hkb hs0
        go_wp2
        go_upto_region 5 with (fail)
        go_region_held3 (fun w' => w'.cell? ⟨w.heap.size, 0, none⟩ = some (.int .i64 g) ∧ w'.cell? ⟨w.heap.size, 1, none⟩ = some (.int .i64 p) ∧ w'.cell? ⟨w.heap.size, 2, none⟩ = some (.int .i64 q) ∧ SBox w g p q w')
          (first | assumption | exact hs1 | exact keep3_draw (by assumption) | exact keep3_call (by assumption) (by assumption))
          (first
            | (go_at_call 118; refine (R45little_any _ _ _ (by omega) (by omega) (by decide) (by decide)).mono ?_; rintro e w' ⟨rfl, hb⟩)
            | (go_at_call 119; refine (RCRC_any _ _ HM.out).mono ?_; rintro e w' ⟨rfl, rfl⟩)
            | (go_at_call 116; refine (RMark_any _ _ _ _ g0 g1 p0 p1).mono ?_; rintro e w' ⟨rfl, hb⟩))
        all_goals go_wp2
        all_goals go_ret
        all_goals exact ⟨sealed_str _ _ _ _ _ HB.out, (keep3_box (g := g) (p := p) (q := q) (by assumption)).2⟩
end Go.Proofs.Ytkpfkknldeafkaa

namespace Go.Proofs.Ytkpfkknldeafkaa
open Go.RowKit

set_option maxRecDepth 100000 in
set_option maxHeartbeats 400000 in
theorem R45Seal_any (g p q : Int) (l : List UInt8) (w : World) (hl : l.length ≤ 9223372036854775807) :
    Calls Try.prog 54 #[.agg #[.int .i64 g, .int .i64 p, .int .i64 q], .string (bs l)] w fun e w' => e = .returned (.tuple #[.string (bs (sealS g p q l).1), .int .i64 (sealS g p q l).2]) ∧ Below w.heap.size w w' := by
  have hB0 : Below w.heap.size w (w.alloc (.cells #[.int .i64 g, .int .i64 p, .int .i64 q] 87)) := (Below.refl _ _).alloc (Nat.le_refl _) _
  cases hs : stampB g p q with
  | false =>
    have hfin : sealS g p q l = ([], 1) := by unfold sealS; rw [hs]; rfl
    rw [hfin]
    have HS := Lib.hid hs; clear hs hfin
    go_enter Try.func54, Try.ntmps54
    go_wp2_with fail
    refine (RValidStamp_any _ _ _ _).mono ?_
    rw [HS.out]
    rintro e w1 ⟨rfl, hb⟩
    go_wp2
    go_ret2
    exact ⟨rfl, btrans hB0 hB0.size hb⟩
  | true =>
    have HS := Lib.hid hs; clear hs
    obtain ⟨g0, g1, p0, p1, q0, q1⟩ := stamp_bounds HS.out
    by_cases h40 : l.length ≤ 40
    · have hfin : sealS g p q l = (sealedL g.toNat p.toNat q.toNat l, 0) := by unfold sealS; rw [HS.out, if_pos h40]; rfl
      rw [hfin]
      clear hfin
      go_enter Try.func54, Try.ntmps54
      go_wp2_with fail
      refine (RValidStamp_any _ _ _ _).mono ?_
      rw [HS.out]
      rintro e w1 ⟨rfl, hb⟩
      have hB1 := btrans hB0 hB0.size hb
      have c0 := (bcell hb).1 w.heap.size 0 (by simp)
      have c1 := (bcell hb).1 w.heap.size 1 (by simp)
      have c2 := (bcell hb).1 w.heap.size 2 (by simp)
      rw [cell_box] at c0 c1 c2
      clear hb hB0
      go_wp2_with fail
      refine (Rsealed_any _ _ _ _ _ g0 g1 p0 p1 q0 q1 h40).mono ?_
      rintro e w2 ⟨rfl, hb2⟩
      go_wp2
      go_ret2
      exact ⟨rfl, btrans hB1 hB1.size hb2⟩
    · have hfin : sealS g p q l = ([], 2) := by unfold sealS; rw [HS.out, if_neg h40]; rfl
      rw [hfin]
      clear hfin
      go_enter Try.func54, Try.ntmps54
      go_wp2_with fail
      refine (RValidStamp_any _ _ _ _).mono ?_
      rw [HS.out]
      rintro e w1 ⟨rfl, hb⟩
      go_wp2
      go_ret2
      exact ⟨rfl, btrans hB0 hB0.size hb⟩

set_option maxRecDepth 100000 in
set_option maxHeartbeats 400000 in
theorem RPieces_any (n : Int) (w : World) (n0 : 0 ≤ n) (n1 : n ≤ 1000000000000000) :
    Calls Try.prog 111 #[.int .i64 n] w fun e w' => e = .returned (.int .i64 (pieces n.toNat : Nat)) ∧ w = w' := by
  have hp : max 1 ((n + 40 - 1) / 40) = ((pieces n.toNat : Nat) : Int) := by unfold pieces; omega
  go_enter Try.func111, Try.ntmps111
  go_wp2
  go_ret
  exact ⟨rfl, rfl⟩
set_option maxRecDepth 100000 in
set_option maxHeartbeats 1000000 in
theorem RSplit_any (g : Int) (l : List UInt8) (w : World) (hl : l.length ≤ 1000000000000000) :
    Calls Try.prog 89 #[.int .i64 g, .string (bs l)] w fun e w' => ∃ v, e = .returned (.tuple #[v, .int .i64 (splitS g l).2]) ∧
      w'.ownsRow w.heap.size 9 1 v (splitS g l).1.length ((splitS g l).1.map strV) ∧ Below w.heap.size w w' := by
  have hB0 := Below.refl w.heap.size w
  by_cases h1 : g < 1 ∨ 1099511627776 < g
  · have hfin : splitS g l = ([], 1) := by unfold splitS; rw [if_pos h1]
    rw [hfin]
    clear hfin
    rcases h1 with h1 | h1
    · go_enter Try.func89, Try.ntmps89
      go_wp2
      go_ret2
      exact ⟨_, rfl, World.ownsRow_nil _ _ _ _, hB0⟩
    · have h1' : ¬ g < 1 := by omega
      go_enter Try.func89, Try.ntmps89
      go_wp2
      go_ret2
      exact ⟨_, rfl, World.ownsRow_nil _ _ _ _, hB0⟩
  · have g0 : 1 ≤ g := by omega
    have g1 : g ≤ 1099511627776 := by omega
    obtain ⟨n, hn⟩ : ∃ n, n = pieces l.length := ⟨_, rfl⟩
    have hmx : ((pieces l.length : Nat) : Int) = (n : Int) := by rw [hn]
    have hn0 : 1 ≤ n := by rw [hn]; unfold pieces; omega
    by_cases h2 : 1024 < n
    · have hfin : splitS g l = ([], 2) := by unfold splitS; rw [if_neg h1, ← hn, if_pos h2]
      rw [hfin]
      clear hfin hn h1
      go_enter Try.func89, Try.ntmps89
      go_wp2_with (go_at_call 111; refine (RPieces_any _ _ (by omega) (by omega)).mono ?_; rintro e w' ⟨rfl, rfl⟩)
      go_ret2
      exact ⟨_, rfl, World.ownsRow_nil _ _ _ _, hB0⟩
    · have hn3 : n ≤ 1024 := by omega
      have hfin : splitS g l = (secs g.toNat l n, 0) := by unfold splitS; rw [if_neg h1, ← hn, if_neg h2]
      rw [hfin]
      have hn4 : ∀ k, k < n → k * 40 ≤ l.length := by intro k hk; rw [hn] at hk; unfold pieces at hk; omega
      have HN4 := Lib.hid hn4; clear hn4
      have HN := Lib.hid hn; clear hn
      clear h1 h2 hfin
      go_enter Try.func89, Try.ntmps89
      go_wp2_with (go_at_call 111; refine (RPieces_any _ _ (by omega) (by omega)).mono ?_; rintro e w' ⟨rfl, rfl⟩)
      clear hmx
      go_loopw [7, 8] (fun v i wr => ∃ k : Nat, k ≤ n ∧ i = .int .i64 k ∧ wr.ownsRow w.heap.size 9 1 v (secs g.toNat l k).length ((secs g.toNat l k).map strV) ∧ Below w.heap.size w wr) (fun _ i _ => n - (intOf i).toNat)
      case atStart => exact ⟨0, Nat.zero_le _, rfl, World.ownsRow_nil _ _ _ _, hB0⟩
      case round =>
        obtain ⟨k, hk, rfl, hown, hbel⟩ := hrel
        by_cases hlt : k < n
        · have hk40 : k * 40 ≤ l.length := HN4.out k hlt
          obtain ⟨m, hm⟩ : ∃ m : Nat, min (l.length : Int) ((k : Int) * 40 + 40) = m := ⟨min ((k + 1) * 40) l.length, by omega⟩
          have hm1 : k * 40 ≤ m := by omega
          have hm2 : m ≤ l.length := by omega
          have hpl : ((l.take m).drop (k * 40)).length ≤ 40 := by rw [List.length_drop, List.length_take]; omega
          have hpe : (l.take m).drop (k * 40) = (l.drop (k * 40)).take 40 := by
            rw [List.drop_take]
            rcases Nat.lt_or_ge l.length ((k + 1) * 40) with h | h
            · rw [List.take_of_length_le (by rw [List.length_drop]; omega), List.take_of_length_le (by rw [List.length_drop]; omega)]
            · rw [show m - k * 40 = 40 by omega]
          have HPE := Lib.hid hpe; clear hpe
          have HPL := Lib.hid hpl; clear hpl
          go_wp2_with (first
            | (go_at_call 95; refine (Rsealed_any _ _ _ _ _ (by omega) (by omega) (by omega) (by omega) (by omega) (by omega) HPL.out).mono ?_; rintro e w1 ⟨rfl, hb⟩; have hown1 := own_below hown hb; have hbel1 := btrans hbel hbel.size hb)
            | (at_builtin; refine wpList_append_str rfl _ _ rfl w.heap.size _ (secs g.toNat l k) (sealedL g.toNat k n ((l.take m).drop (k * 40))) hown1 rfl rfl (by rw [secs_length]; omega) w hbel1 hbel1.size ?_; intro v2 w2 hown2 hbel2 _))
          rw [HPE.out, HN.out, show sealedL g.toNat k (pieces l.length) ((l.drop (k * 40)).take 40) = secAt g.toNat l k from rfl, ← secs_succ] at hown2
          go_wp2
          go_roundw
          case rel => exact ⟨k + 1, by omega, by go_num, hown2, hbel2⟩
          case measure => simp [intOf]; omega
        · go_wp2
          go_ret2
          obtain rfl : k = n := by omega
          exact ⟨_, rfl, hown, hbel⟩

def FewPost (L : List (List UInt8)) (w : World) (e : Ending) (w' : World) : Prop := ∃ b, e = .returned (.bool b) ∧ (b = true → L.length ≤ 12 ∧ ∀ s ∈ L, s.length ≤ 100) ∧ w = w'
end Go.Proofs.Ytkpfkknldeafkaa

namespace Go.Proofs.Ytkpfkknldeafkaa
open Go.RowKit

set_option maxRecDepth 100000 in
theorem fields_of2 (l : List UInt8) (h : 64 ≤ l.length) (g p q n : Nat) (hg : g = num (l.take 6)) (hp : p = num ((l.take 8).drop 6)) (hq : q = num ((l.take 10).drop 8)) (hn : n = num ((l.take 12).drop 10)) :
    openS l = (if stampB g p q = true ∧ n ≤ 40 then (if sealedL g p q ((l.drop 16).take n) = l then (((g : Int), (p : Int), (q : Int)), (l.drop 16).take n, (0 : Int)) else ((0, 0, 0), [], 20)) else ((0, 0, 0), [], 20)) := by
  rcases Nat.lt_or_ge 64 l.length with h1 | h1
  · have e : openS l = ((0, 0, 0), [], 20) := by unfold openS; rw [if_neg (by omega), if_pos h1]
    rw [e]
    split
    · next h2 =>
      rw [if_neg]
      intro h3
      have := sealedL_length g p q ((l.drop 16).take n) (by rw [List.length_take]; omega)
      rw [h3] at this; omega
    · rfl
  · exact fields_of l (by omega) g p q n hg hp hq hn

/-- the three cells of the stamp that Open read, and Open's own memory -/
def Three (w : World) (g p q : Int) (W : World) : Prop :=
  W.cell? ⟨w.heap.size + 1, 0, none⟩ = some (.int .i64 g) ∧ W.cell? ⟨w.heap.size + 1, 1, none⟩ = some (.int .i64 p) ∧ W.cell? ⟨w.heap.size + 1, 2, none⟩ = some (.int .i64 q)
theorem Two.drew {w W : World} {g p q : Int} (h : Two w g p q W) : Two w g p q W.drew := ⟨h.1, h.2.1, h.2.2.drew⟩
theorem keepT_mk {w W : World} {g p q : Int} (h : Two w g p q W) : W.cell? ⟨w.heap.size + 1, 0, none⟩ = some (.int .i64 g) ∧ W.cell? ⟨w.heap.size + 1, 1, none⟩ = some (.int .i64 p) ∧ W.cell? ⟨w.heap.size + 1, 2, none⟩ = some (.int .i64 q) ∧ Two w g p q W := by
  obtain ⟨_, ⟨a, b, c⟩, _⟩ := h.cells
  exact ⟨a, b, c, h⟩
theorem keepT_draw {w W : World} {g p q : Int} (h : W.cell? ⟨w.heap.size + 1, 0, none⟩ = some (.int .i64 g) ∧ W.cell? ⟨w.heap.size + 1, 1, none⟩ = some (.int .i64 p) ∧ W.cell? ⟨w.heap.size + 1, 2, none⟩ = some (.int .i64 q) ∧ Two w g p q W) :
    W.drew.cell? ⟨w.heap.size + 1, 0, none⟩ = some (.int .i64 g) ∧ W.drew.cell? ⟨w.heap.size + 1, 1, none⟩ = some (.int .i64 p) ∧ W.drew.cell? ⟨w.heap.size + 1, 2, none⟩ = some (.int .i64 q) ∧ Two w g p q W.drew := keepT_mk h.2.2.2.drew
theorem keepT_call {w W W' : World} {g p q : Int} (h : W.cell? ⟨w.heap.size + 1, 0, none⟩ = some (.int .i64 g) ∧ W.cell? ⟨w.heap.size + 1, 1, none⟩ = some (.int .i64 p) ∧ W.cell? ⟨w.heap.size + 1, 2, none⟩ = some (.int .i64 q) ∧ Two w g p q W) (hb : Below W.heap.size W W') :
    W'.cell? ⟨w.heap.size + 1, 0, none⟩ = some (.int .i64 g) ∧ W'.cell? ⟨w.heap.size + 1, 1, none⟩ = some (.int .i64 p) ∧ W'.cell? ⟨w.heap.size + 1, 2, none⟩ = some (.int .i64 q) ∧ Two w g p q W' := keepT_mk (h.2.2.2.call hb)
theorem keepT_two {w W : World} {g p q : Int} (h : W.cell? ⟨w.heap.size + 1, 0, none⟩ = some (.int .i64 g) ∧ W.cell? ⟨w.heap.size + 1, 1, none⟩ = some (.int .i64 p) ∧ W.cell? ⟨w.heap.size + 1, 2, none⟩ = some (.int .i64 q) ∧ Two w g p q W) : Two w g p q W := h.2.2.2
theorem num6 (l : List UInt8) (h : l.length ≤ 6) : num l < 281474976710656 := Nat.lt_of_lt_of_le (num_lt l) (Nat.pow_le_pow_right (n := 256) (by decide) h)

set_option maxRecDepth 100000 in
set_option maxHeartbeats 400000 in
theorem ROpen_short (l : List UInt8) (w : World) (h1 : l.length < 64) :
    Calls Try.prog 57 #[.string (bs l)] w fun e w' =>
      e = .returned (.tuple #[.agg #[.int .i64 (openS l).1.1, .int .i64 (openS l).1.2.1, .int .i64 (openS l).1.2.2], .string (bs (openS l).2.1), .int .i64 (openS l).2.2]) ∧ Below w.heap.size w w' := by
  have hfin : openS l = ((0, 0, 0), [], 6) := by unfold openS; rw [if_pos h1]
  rw [hfin]
  clear hfin
  go_enter Try.func57, Try.ntmps57
  go_wp2
  exact bodyPost_ret (v := .tuple #[.agg #[.int .i64 0, .int .i64 0, .int .i64 0], .string (bs []), .int .i64 6]) (by simp [results, Try.results57, go_sem]; rfl) rfl ⟨rfl, (Below.refl _ _).alloc (Nat.le_refl _) _⟩
set_option maxRecDepth 100000 in
set_option maxHeartbeats 8000000 in
theorem ROpen_eq (l : List UInt8) (w : World) (hl : l.length ≤ 9223372036854775807) (h1 : ¬ l.length < 64) (hv : stampB (num (l.take 6)) (num ((l.take 8).drop 6)) (num ((l.take 10).drop 8)) = true) (hn : num ((l.take 12).drop 10) ≤ 40) (hq : sealedL (num (l.take 6)) (num ((l.take 8).drop 6)) (num ((l.take 10).drop 8)) ((l.drop 16).take (num ((l.take 12).drop 10))) = l) :
    Calls Try.prog 57 #[.string (bs l)] w fun e w' =>
      e = .returned (.tuple #[.agg #[.int .i64 (openS l).1.1, .int .i64 (openS l).1.2.1, .int .i64 (openS l).1.2.2], .string (bs (openS l).2.1), .int .i64 (openS l).2.2]) ∧ Below w.heap.size w w' := by
  have H0v := Lib.hid hv; clear hv
  have H0n := Lib.hid hn; clear hn
  have H0q := Lib.hid hq; clear hq
  go_enter Try.func57, Try.ntmps57
  go_upto_region 3 with (fail)
  have L6 : (l.take 6).length ≤ 6 := by rw [List.length_take]; omega
  have L8 : ((l.take 8).drop 6).length ≤ 6 := by rw [List.length_drop, List.length_take]; omega
  have L10 : ((l.take 10).drop 8).length ≤ 6 := by rw [List.length_drop, List.length_take]; omega
  have L12 : ((l.take 12).drop 10).length ≤ 6 := by rw [List.length_drop, List.length_take]; omega
  have i6 : (6 : Int) ≤ l.length := by omega
  have i8 : (8 : Int) ≤ l.length := by omega
  have i10 : (10 : Int) ≤ l.length := by omega
  have i12 : (12 : Int) ≤ l.length := by omega
  obtain ⟨g, hg⟩ : ∃ g, g = num (l.take 6) := ⟨_, rfl⟩
  obtain ⟨p, hp⟩ : ∃ p, p = num ((l.take 8).drop 6) := ⟨_, rfl⟩
  obtain ⟨q, hq0⟩ : ∃ q, q = num ((l.take 10).drop 8) := ⟨_, rfl⟩
  obtain ⟨n, hn0⟩ : ∃ n, n = num ((l.take 12).drop 10) := ⟨_, rfl⟩
  have hv := H0v.out; clear H0v
  have hn := H0n.out; clear H0n
  have hq := H0q.out; clear H0q
  rw [← hg, ← hp, ← hq0] at hv
  rw [← hn0] at hn
  rw [← hg, ← hp, ← hq0, ← hn0] at hq
  have bg : g < 281474976710656 := by rw [hg]; exact num6 _ L6
  have bp : p < 281474976710656 := by rw [hp]; exact num6 _ L8
  have bq : q < 281474976710656 := by rw [hq0]; exact num6 _ L10
  have bn : n < 281474976710656 := by rw [hn0]; exact num6 _ L12
  have wg : IntKind.i64.wrap (g : Int) = (g : Int) := by rw [IntKind.wrap_i64]; omega
  have wp : IntKind.i64.wrap (p : Int) = (p : Int) := by rw [IntKind.wrap_i64]; omega
  have wq : IntKind.i64.wrap (q : Int) = (q : Int) := by rw [IntKind.wrap_i64]; omega
  have H6 := Lib.hid L6; clear L6
  have H8 := Lib.hid L8; clear L8
  have H10 := Lib.hid L10; clear L10
  have H12 := Lib.hid L12; clear L12
  have HG := Lib.hid hg; clear hg
  have HP := Lib.hid hp; clear hp
  have HQ := Lib.hid hq0; clear hq0
  have HNN := Lib.hid hn0; clear hn0
  go_cut [5] (fun s5 wx => s5 = .pointer (some ⟨w.heap.size + 1, 0, none⟩) ∧ wx = ((w.alloc (.cells #[.int .i64 0, .int .i64 0, .int .i64 0] 87)).alloc (.cells #[.int .i64 g, .int .i64 p, .int .i64 q] 87)).drew)
  case first =>
    go_region_law (first
      | (go_simp; go_at_call 98; refine (Rvalue_any _ _ (by first | exact H6.out | exact H8.out | exact H10.out)).mono ?_; (first | rw [← HG.out] | rw [← HP.out] | rw [← HQ.out]); rintro e w1 ⟨rfl, rfl⟩))
    all_goals go_wp2_with fail
    all_goals go_meet
    all_goals exact ⟨rfl, rfl⟩
  case rest =>
    obtain ⟨rfl, rfl⟩ := hcut
    have hfld := fields_of2 l (by omega) g p q n HG.out HP.out HQ.out HNN.out
    have HF := Lib.hid hfld; clear hfld
    have hT := Two.start w g p q
    have hdr : (l.take (16 + n)).drop 16 = (l.drop 16).take n := by rw [List.drop_take, show 16 + n - 16 = n by omega]
    have HDR := Lib.hid hdr; clear hdr
    clear wg wp wq bg bp bq i6 i8 i10
    have HS := Lib.hid hv; clear hv
    have HB := Lib.hid (stamp_bounds HS.out)
    have hdl : ((l.take (16 + n)).drop 16).length ≤ 40 := by rw [HDR.out, List.length_take]; omega
    have HDL := Lib.hid hdl; clear hdl
    have i16 : (16 : Int) + n ≤ l.length := by omega
    have hfin : openS l = (((g : Int), (p : Int), (q : Int)), (l.drop 16).take n, (0 : Int)) := by rw [HF.out, if_pos ⟨HS.out, hn⟩, if_pos hq]
    have hc : (sealedL g p q ((l.take (16 + n)).drop 16) == l) = true := by rw [HDR.out]; simpa using hq
    have HFIN := Lib.hid hfin; clear hfin hq HF
    go_upto_region 5 with (go_at_call 98; refine (Rvalue_any _ _ H12.out).mono ?_; rw [← HNN.out]; rintro e w1 ⟨rfl, rfl⟩)
    have hs3 := keepT_mk hT
    have hgd : decide ((40 : Int) < (n : Int)) = false := by rw [decide_eq_false_iff_not]; omega
    have hw16 : IntKind.i64.wrap (16 + (n : Int)) = 16 + (n : Int) := by rw [IntKind.wrap_i64]; omega
    have h016 : (16 : Int) ≤ 16 + (n : Int) := by omega
    have h017 : (0 : Int) ≤ 16 + (n : Int) := by omega
    go_cut [44] (fun s44 wx => s44 = .bool false ∧ Two w g p q wx)
    case first =>
      go_region_held3 (fun w' => w'.cell? ⟨w.heap.size + 1, 0, none⟩ = some (.int .i64 g) ∧ w'.cell? ⟨w.heap.size + 1, 1, none⟩ = some (.int .i64 p) ∧ w'.cell? ⟨w.heap.size + 1, 2, none⟩ = some (.int .i64 q) ∧ Two w g p q w')
        (first | assumption | exact hs3 | exact keepT_draw (by assumption) | exact keepT_call (by assumption) (by assumption))
        (first
          | (go_at_call 94; refine (RValidStamp_any _ _ _ _).mono ?_; rw [HS.out]; rintro e w' ⟨rfl, hb⟩)
          | (go_at_call 95; refine (Rsealed_any _ _ _ _ _ HB.out.1 HB.out.2.1 HB.out.2.2.1 HB.out.2.2.2.1 HB.out.2.2.2.2.1 HB.out.2.2.2.2.2 HDL.out).mono ?_; rintro e w' ⟨rfl, hb⟩))
      all_goals go_wp2_with fail
      all_goals go_meet
      all_goals exact ⟨rfl, keepT_two (by assumption)⟩
    case rest =>
      obtain ⟨rfl, hT2⟩ := hcut
      clear hs3 hT
      obtain ⟨⟨a0, a1, a2⟩, ⟨b0, b1, b2⟩, ⟨f0, f1, f2⟩⟩ := hT2.cells
      go_upto_region 7 with (fail)
      go_region
      all_goals go_wp2_with fail
      all_goals exact bodyPost_ret (v := .tuple #[.agg #[.int .i64 (g : Int), .int .i64 (p : Int), .int .i64 (q : Int)], .string (bs ((l.take (16 + n)).drop 16)), .int .i64 0]) (by simp [results, Try.results57, go_sem, a0, a1, a2]) rfl ⟨by rw [HFIN.out]; rw [HDR.out], (((hT2.2.2.setCell (Nat.le_refl _) _).setCell (Nat.le_refl _) _).setCell (Nat.le_refl _) _).drew⟩
set_option maxRecDepth 100000 in
set_option maxHeartbeats 8000000 in
theorem ROpen_ne (l : List UInt8) (w : World) (hl : l.length ≤ 9223372036854775807) (h1 : ¬ l.length < 64) (hv : stampB (num (l.take 6)) (num ((l.take 8).drop 6)) (num ((l.take 10).drop 8)) = true) (hn : num ((l.take 12).drop 10) ≤ 40) (hq : ¬ sealedL (num (l.take 6)) (num ((l.take 8).drop 6)) (num ((l.take 10).drop 8)) ((l.drop 16).take (num ((l.take 12).drop 10))) = l) :
    Calls Try.prog 57 #[.string (bs l)] w fun e w' =>
      e = .returned (.tuple #[.agg #[.int .i64 (openS l).1.1, .int .i64 (openS l).1.2.1, .int .i64 (openS l).1.2.2], .string (bs (openS l).2.1), .int .i64 (openS l).2.2]) ∧ Below w.heap.size w w' := by
  have H0v := Lib.hid hv; clear hv
  have H0n := Lib.hid hn; clear hn
  have H0q := Lib.hid hq; clear hq
  go_enter Try.func57, Try.ntmps57
  go_upto_region 3 with (fail)
  have L6 : (l.take 6).length ≤ 6 := by rw [List.length_take]; omega
  have L8 : ((l.take 8).drop 6).length ≤ 6 := by rw [List.length_drop, List.length_take]; omega
  have L10 : ((l.take 10).drop 8).length ≤ 6 := by rw [List.length_drop, List.length_take]; omega
  have L12 : ((l.take 12).drop 10).length ≤ 6 := by rw [List.length_drop, List.length_take]; omega
  have i6 : (6 : Int) ≤ l.length := by omega
  have i8 : (8 : Int) ≤ l.length := by omega
  have i10 : (10 : Int) ≤ l.length := by omega
  have i12 : (12 : Int) ≤ l.length := by omega
  obtain ⟨g, hg⟩ : ∃ g, g = num (l.take 6) := ⟨_, rfl⟩
  obtain ⟨p, hp⟩ : ∃ p, p = num ((l.take 8).drop 6) := ⟨_, rfl⟩
  obtain ⟨q, hq0⟩ : ∃ q, q = num ((l.take 10).drop 8) := ⟨_, rfl⟩
  obtain ⟨n, hn0⟩ : ∃ n, n = num ((l.take 12).drop 10) := ⟨_, rfl⟩
  have hv := H0v.out; clear H0v
  have hn := H0n.out; clear H0n
  have hq := H0q.out; clear H0q
  rw [← hg, ← hp, ← hq0] at hv
  rw [← hn0] at hn
  rw [← hg, ← hp, ← hq0, ← hn0] at hq
  have bg : g < 281474976710656 := by rw [hg]; exact num6 _ L6
  have bp : p < 281474976710656 := by rw [hp]; exact num6 _ L8
  have bq : q < 281474976710656 := by rw [hq0]; exact num6 _ L10
  have bn : n < 281474976710656 := by rw [hn0]; exact num6 _ L12
  have wg : IntKind.i64.wrap (g : Int) = (g : Int) := by rw [IntKind.wrap_i64]; omega
  have wp : IntKind.i64.wrap (p : Int) = (p : Int) := by rw [IntKind.wrap_i64]; omega
  have wq : IntKind.i64.wrap (q : Int) = (q : Int) := by rw [IntKind.wrap_i64]; omega
  have H6 := Lib.hid L6; clear L6
  have H8 := Lib.hid L8; clear L8
  have H10 := Lib.hid L10; clear L10
  have H12 := Lib.hid L12; clear L12
  have HG := Lib.hid hg; clear hg
  have HP := Lib.hid hp; clear hp
  have HQ := Lib.hid hq0; clear hq0
  have HNN := Lib.hid hn0; clear hn0
  go_cut [5] (fun s5 wx => s5 = .pointer (some ⟨w.heap.size + 1, 0, none⟩) ∧ wx = ((w.alloc (.cells #[.int .i64 0, .int .i64 0, .int .i64 0] 87)).alloc (.cells #[.int .i64 g, .int .i64 p, .int .i64 q] 87)).drew)
  case first =>
    go_region_law (first
      | (go_simp; go_at_call 98; refine (Rvalue_any _ _ (by first | exact H6.out | exact H8.out | exact H10.out)).mono ?_; (first | rw [← HG.out] | rw [← HP.out] | rw [← HQ.out]); rintro e w1 ⟨rfl, rfl⟩))
    all_goals go_wp2_with fail
    all_goals go_meet
    all_goals exact ⟨rfl, rfl⟩
  case rest =>
    obtain ⟨rfl, rfl⟩ := hcut
    have hfld := fields_of2 l (by omega) g p q n HG.out HP.out HQ.out HNN.out
    have HF := Lib.hid hfld; clear hfld
    have hT := Two.start w g p q
    have hdr : (l.take (16 + n)).drop 16 = (l.drop 16).take n := by rw [List.drop_take, show 16 + n - 16 = n by omega]
    have HDR := Lib.hid hdr; clear hdr
    clear wg wp wq bg bp bq i6 i8 i10
    have HS := Lib.hid hv; clear hv
    have HB := Lib.hid (stamp_bounds HS.out)
    have hdl : ((l.take (16 + n)).drop 16).length ≤ 40 := by rw [HDR.out, List.length_take]; omega
    have HDL := Lib.hid hdl; clear hdl
    have i16 : (16 : Int) + n ≤ l.length := by omega
    have hfin : openS l = ((0, 0, 0), [], 20) := by rw [HF.out, if_pos ⟨HS.out, hn⟩, if_neg hq]
    have hc : (sealedL g p q ((l.take (16 + n)).drop 16) == l) = false := by rw [HDR.out]; simpa using hq
    have HFIN := Lib.hid hfin; clear hfin hq HF
    go_upto_region 5 with (go_at_call 98; refine (Rvalue_any _ _ H12.out).mono ?_; rw [← HNN.out]; rintro e w1 ⟨rfl, rfl⟩)
    have hs3 := keepT_mk hT
    have hgd : decide ((40 : Int) < (n : Int)) = false := by rw [decide_eq_false_iff_not]; omega
    have hw16 : IntKind.i64.wrap (16 + (n : Int)) = 16 + (n : Int) := by rw [IntKind.wrap_i64]; omega
    have h016 : (16 : Int) ≤ 16 + (n : Int) := by omega
    have h017 : (0 : Int) ≤ 16 + (n : Int) := by omega
    go_cut [44] (fun s44 wx => s44 = .bool true ∧ Two w g p q wx)
    case first =>
      go_region_held3 (fun w' => w'.cell? ⟨w.heap.size + 1, 0, none⟩ = some (.int .i64 g) ∧ w'.cell? ⟨w.heap.size + 1, 1, none⟩ = some (.int .i64 p) ∧ w'.cell? ⟨w.heap.size + 1, 2, none⟩ = some (.int .i64 q) ∧ Two w g p q w')
        (first | assumption | exact hs3 | exact keepT_draw (by assumption) | exact keepT_call (by assumption) (by assumption))
        (first
          | (go_at_call 94; refine (RValidStamp_any _ _ _ _).mono ?_; rw [HS.out]; rintro e w' ⟨rfl, hb⟩)
          | (go_at_call 95; refine (Rsealed_any _ _ _ _ _ HB.out.1 HB.out.2.1 HB.out.2.2.1 HB.out.2.2.2.1 HB.out.2.2.2.2.1 HB.out.2.2.2.2.2 HDL.out).mono ?_; rintro e w' ⟨rfl, hb⟩))
      all_goals go_wp2_with fail
      all_goals go_meet
      all_goals exact ⟨rfl, keepT_two (by assumption)⟩
    case rest =>
      obtain ⟨rfl, hT2⟩ := hcut
      clear hs3 hT
      obtain ⟨⟨a0, a1, a2⟩, ⟨b0, b1, b2⟩, ⟨f0, f1, f2⟩⟩ := hT2.cells
      go_wp2_with fail
      exact bodyPost_ret (v := .tuple #[.agg #[.int .i64 0, .int .i64 0, .int .i64 0], .string (bs []), .int .i64 20]) (by simp [results, Try.results57, go_sem, a0, a1, a2]; rfl) rfl ⟨by rw [HFIN.out], ((hT2.2.2.setCell (Nat.le_refl _) _).setCell (Nat.le_refl _) _).setCell (Nat.le_refl _) _⟩
set_option maxRecDepth 100000 in
set_option maxHeartbeats 8000000 in
theorem ROpen_big (l : List UInt8) (w : World) (hl : l.length ≤ 9223372036854775807) (h1 : ¬ l.length < 64) (hv : stampB (num (l.take 6)) (num ((l.take 8).drop 6)) (num ((l.take 10).drop 8)) = true) (hn : ¬ num ((l.take 12).drop 10) ≤ 40) :
    Calls Try.prog 57 #[.string (bs l)] w fun e w' =>
      e = .returned (.tuple #[.agg #[.int .i64 (openS l).1.1, .int .i64 (openS l).1.2.1, .int .i64 (openS l).1.2.2], .string (bs (openS l).2.1), .int .i64 (openS l).2.2]) ∧ Below w.heap.size w w' := by
  have H0v := Lib.hid hv; clear hv
  have H0n := Lib.hid hn; clear hn
  go_enter Try.func57, Try.ntmps57
  go_upto_region 3 with (fail)
  have L6 : (l.take 6).length ≤ 6 := by rw [List.length_take]; omega
  have L8 : ((l.take 8).drop 6).length ≤ 6 := by rw [List.length_drop, List.length_take]; omega
  have L10 : ((l.take 10).drop 8).length ≤ 6 := by rw [List.length_drop, List.length_take]; omega
  have L12 : ((l.take 12).drop 10).length ≤ 6 := by rw [List.length_drop, List.length_take]; omega
  have i6 : (6 : Int) ≤ l.length := by omega
  have i8 : (8 : Int) ≤ l.length := by omega
  have i10 : (10 : Int) ≤ l.length := by omega
  have i12 : (12 : Int) ≤ l.length := by omega
  obtain ⟨g, hg⟩ : ∃ g, g = num (l.take 6) := ⟨_, rfl⟩
  obtain ⟨p, hp⟩ : ∃ p, p = num ((l.take 8).drop 6) := ⟨_, rfl⟩
  obtain ⟨q, hq0⟩ : ∃ q, q = num ((l.take 10).drop 8) := ⟨_, rfl⟩
  obtain ⟨n, hn0⟩ : ∃ n, n = num ((l.take 12).drop 10) := ⟨_, rfl⟩
  have hv := H0v.out; clear H0v
  have hn := H0n.out; clear H0n
  rw [← hg, ← hp, ← hq0] at hv
  rw [← hn0] at hn
  have bg : g < 281474976710656 := by rw [hg]; exact num6 _ L6
  have bp : p < 281474976710656 := by rw [hp]; exact num6 _ L8
  have bq : q < 281474976710656 := by rw [hq0]; exact num6 _ L10
  have bn : n < 281474976710656 := by rw [hn0]; exact num6 _ L12
  have wg : IntKind.i64.wrap (g : Int) = (g : Int) := by rw [IntKind.wrap_i64]; omega
  have wp : IntKind.i64.wrap (p : Int) = (p : Int) := by rw [IntKind.wrap_i64]; omega
  have wq : IntKind.i64.wrap (q : Int) = (q : Int) := by rw [IntKind.wrap_i64]; omega
  have H6 := Lib.hid L6; clear L6
  have H8 := Lib.hid L8; clear L8
  have H10 := Lib.hid L10; clear L10
  have H12 := Lib.hid L12; clear L12
  have HG := Lib.hid hg; clear hg
  have HP := Lib.hid hp; clear hp
  have HQ := Lib.hid hq0; clear hq0
  have HNN := Lib.hid hn0; clear hn0
  go_cut [5] (fun s5 wx => s5 = .pointer (some ⟨w.heap.size + 1, 0, none⟩) ∧ wx = ((w.alloc (.cells #[.int .i64 0, .int .i64 0, .int .i64 0] 87)).alloc (.cells #[.int .i64 g, .int .i64 p, .int .i64 q] 87)).drew)
  case first =>
    go_region_law (first
      | (go_simp; go_at_call 98; refine (Rvalue_any _ _ (by first | exact H6.out | exact H8.out | exact H10.out)).mono ?_; (first | rw [← HG.out] | rw [← HP.out] | rw [← HQ.out]); rintro e w1 ⟨rfl, rfl⟩))
    all_goals go_wp2_with fail
    all_goals go_meet
    all_goals exact ⟨rfl, rfl⟩
  case rest =>
    obtain ⟨rfl, rfl⟩ := hcut
    have hfld := fields_of2 l (by omega) g p q n HG.out HP.out HQ.out HNN.out
    have HF := Lib.hid hfld; clear hfld
    have hT := Two.start w g p q
    have hdr : (l.take (16 + n)).drop 16 = (l.drop 16).take n := by rw [List.drop_take, show 16 + n - 16 = n by omega]
    have HDR := Lib.hid hdr; clear hdr
    clear wg wp wq bg bp bq i6 i8 i10
    have HS := Lib.hid hv; clear hv
    have hfin : openS l = ((0, 0, 0), [], 20) := by rw [HF.out, if_neg (by intro h; exact hn h.2)]
    have HFIN := Lib.hid hfin; clear hfin HF
    have hn2 : 40 < n := by omega
    clear hn
    go_upto_region 5 with (go_at_call 98; refine (Rvalue_any _ _ H12.out).mono ?_; rw [← HNN.out]; rintro e w1 ⟨rfl, rfl⟩)
    have hs3 := keepT_mk hT
    have hgd : decide ((40 : Int) < (n : Int)) = true := by rw [decide_eq_true_iff]; omega
    go_cut [44] (fun s44 wx => s44 = .bool true ∧ Two w g p q wx)
    case first =>
      refine wp_region_held_drew (S := (fun w' => w'.cell? ⟨w.heap.size + 1, 0, none⟩ = some (.int .i64 g) ∧ w'.cell? ⟨w.heap.size + 1, 1, none⟩ = some (.int .i64 p) ∧ w'.cell? ⟨w.heap.size + 1, 2, none⟩ = some (.int .i64 q) ∧ Two w g p q w')) (by kernel_rfl) ?_ (fun hHeld => ?_)
      · exact keepT_draw hs3
      refine takeH (i := 0) (v := ?vv7) 28 rfl rfl (by kernel_rfl) (by kernel_rfl) (by kernel_rfl) (fun _ _ _ h => h) (Or.inl ⟨by kernel_rfl, ?yy7⟩) (by assumption) ?_
      case yy7 => intro w hSw; (try dsimp only at hSw); go_simp; (try with_reducible rfl)
      simp only [List.setIfInBounds_toArray, List.set_cons_zero, List.set_cons_succ]
      refine wpAnyH_ready (rs := [1]) (by kernel_rfl) (by simp) ?_
      refine AllReadyH.cons rfl (fun K hK => ?_) AllReadyH.nil
      go_simp
      (go_at_call 94; refine (RValidStamp_any _ _ _ _).mono ?_; rw [HS.out]; rintro e w' ⟨rfl, hb⟩)
      (try go_wp2_with fail)
      refine hK.out _ _ ?_ (fun hHeld => ?_)
      · exact keepT_call (by assumption) hb
      clear hK K
      (try simp only [Act.put, List.setIfInBounds_toArray, List.set_cons_zero, List.set_cons_succ])
      refine takeH (i := 2) (v := ?vv8) 30 rfl rfl (by kernel_rfl) (by kernel_rfl) (by kernel_rfl) (fun _ _ _ h => h) (Or.inl ⟨by kernel_rfl, ?yy8⟩) (by assumption) ?_
      case yy8 => intro w hSw; (try dsimp only at hSw); go_simp; (try with_reducible rfl)
      simp only [List.setIfInBounds_toArray, List.set_cons_zero, List.set_cons_succ]
      refine takeH (i := 3) (v := ?vv9) 31 rfl rfl (by kernel_rfl) (by kernel_rfl) (by kernel_rfl) (fun _ _ _ h => h) (Or.inl ⟨by kernel_rfl, ?yy9⟩) (by assumption) ?_
      case yy9 => intro w hSw; (try dsimp only at hSw); go_simp; (try with_reducible rfl)
      simp only [List.setIfInBounds_toArray, List.set_cons_zero, List.set_cons_succ]
      refine takeH (i := 4) (v := ?vv10) 32 rfl rfl (by kernel_rfl) (by kernel_rfl) (by kernel_rfl) (fun _ _ _ h => h) (Or.inl ⟨by kernel_rfl, ?yy10⟩) (by assumption) ?_
      case yy10 => intro w hSw; (try dsimp only at hSw); go_simp; (try with_reducible rfl)
      simp only [List.setIfInBounds_toArray, List.set_cons_zero, List.set_cons_succ]
      refine takeH (i := 5) (v := ?vv11) 33 rfl rfl (by kernel_rfl) (by kernel_rfl) (by kernel_rfl) (fun _ _ _ h => h) (Or.inl ⟨by kernel_rfl, ?yy11⟩) (by assumption) ?_
      case yy11 => intro w hSw; (try dsimp only at hSw); go_simp; (try with_reducible rfl)
      simp only [List.setIfInBounds_toArray, List.set_cons_zero, List.set_cons_succ]
      refine takeH (i := 6) (v := ?vv12) 34 rfl rfl (by kernel_rfl) (by kernel_rfl) (by kernel_rfl) (fun _ _ _ h => h) (Or.inl ⟨by kernel_rfl, ?yy12⟩) (by assumption) ?_
      case yy12 => intro w hSw; (try dsimp only at hSw); go_simp; (try with_reducible rfl)
      simp only [List.setIfInBounds_toArray, List.set_cons_zero, List.set_cons_succ]
      refine takeH (i := 7) (v := ?vv13) 35 rfl rfl (by kernel_rfl) (by kernel_rfl) (by kernel_rfl) (fun _ _ _ h => h) (Or.inl ⟨by kernel_rfl, ?yy13⟩) (by assumption) ?_
      case yy13 => intro w hSw; (try dsimp only at hSw); go_simp; (try with_reducible rfl)
      simp only [List.setIfInBounds_toArray, List.set_cons_zero, List.set_cons_succ]
      refine takeH (i := 8) (v := undef) 36 rfl rfl (by kernel_rfl) (by kernel_rfl) (by kernel_rfl) (fun _ _ _ h => h) (Or.inr ⟨by kernel_rfl, rfl⟩) (by assumption) ?_
      simp only [List.setIfInBounds_toArray, List.set_cons_zero, List.set_cons_succ]
      refine takeH (i := 9) (v := undef) 37 rfl rfl (by kernel_rfl) (by kernel_rfl) (by kernel_rfl) (fun _ _ _ h => h) (Or.inr ⟨by kernel_rfl, rfl⟩) (by assumption) ?_
      simp only [List.setIfInBounds_toArray, List.set_cons_zero, List.set_cons_succ]
      refine takeH (i := 10) (v := undef) 38 rfl rfl (by kernel_rfl) (by kernel_rfl) (by kernel_rfl) (fun _ _ _ h => h) (Or.inr ⟨by kernel_rfl, rfl⟩) (by assumption) ?_
      simp only [List.setIfInBounds_toArray, List.set_cons_zero, List.set_cons_succ]
      refine takeH (i := 11) (v := undef) 39 rfl rfl (by kernel_rfl) (by kernel_rfl) (by kernel_rfl) (fun _ _ _ h => h) (Or.inr ⟨by kernel_rfl, rfl⟩) (by assumption) ?_
      simp only [List.setIfInBounds_toArray, List.set_cons_zero, List.set_cons_succ]
      refine takeH (i := 12) (v := undef) 40 rfl rfl (by kernel_rfl) (by kernel_rfl) (by kernel_rfl) (fun _ _ _ h => h) (Or.inr ⟨by kernel_rfl, rfl⟩) (by assumption) ?_
      simp only [List.setIfInBounds_toArray, List.set_cons_zero, List.set_cons_succ]
      refine takeH (i := 13) (v := undef) 41 rfl rfl (by kernel_rfl) (by kernel_rfl) (by kernel_rfl) (fun _ _ _ h => h) (Or.inr ⟨by kernel_rfl, rfl⟩) (by assumption) ?_
      simp only [List.setIfInBounds_toArray, List.set_cons_zero, List.set_cons_succ]
      refine takeH (i := 14) (v := undef) 42 rfl rfl (by kernel_rfl) (by kernel_rfl) (by kernel_rfl) (fun _ _ _ h => h) (Or.inr ⟨by kernel_rfl, rfl⟩) (by assumption) ?_
      simp only [List.setIfInBounds_toArray, List.set_cons_zero, List.set_cons_succ]
      refine takeH (i := 15) (v := undef) 43 rfl rfl (by kernel_rfl) (by kernel_rfl) (by kernel_rfl) (fun _ _ _ h => h) (Or.inr ⟨by kernel_rfl, rfl⟩) (by assumption) ?_
      simp only [List.setIfInBounds_toArray, List.set_cons_zero, List.set_cons_succ]
      refine takeH (i := 16) (v := ?vv14) 44 rfl rfl (by kernel_rfl) (by kernel_rfl) (by kernel_rfl) (fun _ _ _ h => h) (Or.inl ⟨by kernel_rfl, ?yy14⟩) (by assumption) ?_
      case yy14 => intro w hSw; (try dsimp only at hSw); go_simp; (try with_reducible rfl)
      simp only [List.setIfInBounds_toArray, List.set_cons_zero, List.set_cons_succ]
      refine wpAnyH_done (by kernel_rfl) ?_ _
      all_goals go_wp2_with fail
      all_goals go_meet
      all_goals exact ⟨rfl, keepT_two (by assumption)⟩
    case rest =>
      obtain ⟨rfl, hT2⟩ := hcut
      clear hs3 hT
      obtain ⟨⟨a0, a1, a2⟩, ⟨b0, b1, b2⟩, ⟨f0, f1, f2⟩⟩ := hT2.cells
      go_wp2_with fail
      exact bodyPost_ret (v := .tuple #[.agg #[.int .i64 0, .int .i64 0, .int .i64 0], .string (bs []), .int .i64 20]) (by simp [results, Try.results57, go_sem, a0, a1, a2]; rfl) rfl ⟨by rw [HFIN.out], ((hT2.2.2.setCell (Nat.le_refl _) _).setCell (Nat.le_refl _) _).setCell (Nat.le_refl _) _⟩
set_option maxRecDepth 100000 in
set_option maxHeartbeats 8000000 in
theorem ROpen_inv (l : List UInt8) (w : World) (hl : l.length ≤ 9223372036854775807) (h1 : ¬ l.length < 64) (hv : ¬ stampB (num (l.take 6)) (num ((l.take 8).drop 6)) (num ((l.take 10).drop 8)) = true) :
    Calls Try.prog 57 #[.string (bs l)] w fun e w' =>
      e = .returned (.tuple #[.agg #[.int .i64 (openS l).1.1, .int .i64 (openS l).1.2.1, .int .i64 (openS l).1.2.2], .string (bs (openS l).2.1), .int .i64 (openS l).2.2]) ∧ Below w.heap.size w w' := by
  have H0v := Lib.hid hv; clear hv
  go_enter Try.func57, Try.ntmps57
  go_upto_region 3 with (fail)
  have L6 : (l.take 6).length ≤ 6 := by rw [List.length_take]; omega
  have L8 : ((l.take 8).drop 6).length ≤ 6 := by rw [List.length_drop, List.length_take]; omega
  have L10 : ((l.take 10).drop 8).length ≤ 6 := by rw [List.length_drop, List.length_take]; omega
  have L12 : ((l.take 12).drop 10).length ≤ 6 := by rw [List.length_drop, List.length_take]; omega
  have i6 : (6 : Int) ≤ l.length := by omega
  have i8 : (8 : Int) ≤ l.length := by omega
  have i10 : (10 : Int) ≤ l.length := by omega
  have i12 : (12 : Int) ≤ l.length := by omega
  obtain ⟨g, hg⟩ : ∃ g, g = num (l.take 6) := ⟨_, rfl⟩
  obtain ⟨p, hp⟩ : ∃ p, p = num ((l.take 8).drop 6) := ⟨_, rfl⟩
  obtain ⟨q, hq0⟩ : ∃ q, q = num ((l.take 10).drop 8) := ⟨_, rfl⟩
  obtain ⟨n, hn0⟩ : ∃ n, n = num ((l.take 12).drop 10) := ⟨_, rfl⟩
  have hv := H0v.out; clear H0v
  rw [← hg, ← hp, ← hq0] at hv
  have bg : g < 281474976710656 := by rw [hg]; exact num6 _ L6
  have bp : p < 281474976710656 := by rw [hp]; exact num6 _ L8
  have bq : q < 281474976710656 := by rw [hq0]; exact num6 _ L10
  have bn : n < 281474976710656 := by rw [hn0]; exact num6 _ L12
  have wg : IntKind.i64.wrap (g : Int) = (g : Int) := by rw [IntKind.wrap_i64]; omega
  have wp : IntKind.i64.wrap (p : Int) = (p : Int) := by rw [IntKind.wrap_i64]; omega
  have wq : IntKind.i64.wrap (q : Int) = (q : Int) := by rw [IntKind.wrap_i64]; omega
  have H6 := Lib.hid L6; clear L6
  have H8 := Lib.hid L8; clear L8
  have H10 := Lib.hid L10; clear L10
  have H12 := Lib.hid L12; clear L12
  have HG := Lib.hid hg; clear hg
  have HP := Lib.hid hp; clear hp
  have HQ := Lib.hid hq0; clear hq0
  have HNN := Lib.hid hn0; clear hn0
  go_cut [5] (fun s5 wx => s5 = .pointer (some ⟨w.heap.size + 1, 0, none⟩) ∧ wx = ((w.alloc (.cells #[.int .i64 0, .int .i64 0, .int .i64 0] 87)).alloc (.cells #[.int .i64 g, .int .i64 p, .int .i64 q] 87)).drew)
  case first =>
    go_region_law (first
      | (go_simp; go_at_call 98; refine (Rvalue_any _ _ (by first | exact H6.out | exact H8.out | exact H10.out)).mono ?_; (first | rw [← HG.out] | rw [← HP.out] | rw [← HQ.out]); rintro e w1 ⟨rfl, rfl⟩))
    all_goals go_wp2_with fail
    all_goals go_meet
    all_goals exact ⟨rfl, rfl⟩
  case rest =>
    obtain ⟨rfl, rfl⟩ := hcut
    have hfld := fields_of2 l (by omega) g p q n HG.out HP.out HQ.out HNN.out
    have HF := Lib.hid hfld; clear hfld
    have hT := Two.start w g p q
    have hdr : (l.take (16 + n)).drop 16 = (l.drop 16).take n := by rw [List.drop_take, show 16 + n - 16 = n by omega]
    have HDR := Lib.hid hdr; clear hdr
    clear wg wp wq bg bp bq i6 i8 i10
    have hv' : stampB g p q = false := by simpa using hv
    have HS := Lib.hid hv'; clear hv'
    have hfin : openS l = ((0, 0, 0), [], 20) := by rw [HF.out, if_neg (by intro h; exact hv h.1)]
    have HFIN := Lib.hid hfin; clear hfin HF hv
    go_upto_region 5 with (go_at_call 98; refine (Rvalue_any _ _ H12.out).mono ?_; rw [← HNN.out]; rintro e w1 ⟨rfl, rfl⟩)
    have hs3 := keepT_mk hT
    go_cut [44] (fun s44 wx => s44 = .bool true ∧ Two w g p q wx)
    case first =>
      refine wp_region_held_drew (S := (fun w' => w'.cell? ⟨w.heap.size + 1, 0, none⟩ = some (.int .i64 g) ∧ w'.cell? ⟨w.heap.size + 1, 1, none⟩ = some (.int .i64 p) ∧ w'.cell? ⟨w.heap.size + 1, 2, none⟩ = some (.int .i64 q) ∧ Two w g p q w')) (by kernel_rfl) ?_ (fun hHeld => ?_)
      · exact keepT_draw hs3
      refine takeH (i := 0) (v := ?vv1) 28 rfl rfl (by kernel_rfl) (by kernel_rfl) (by kernel_rfl) (fun _ _ _ h => h) (Or.inl ⟨by kernel_rfl, ?yy1⟩) (by assumption) ?_
      case yy1 => intro w hSw; (try dsimp only at hSw); go_simp; (try with_reducible rfl)
      simp only [List.setIfInBounds_toArray, List.set_cons_zero, List.set_cons_succ]
      refine wpAnyH_ready (rs := [1]) (by kernel_rfl) (by simp) ?_
      refine AllReadyH.cons rfl (fun K hK => ?_) AllReadyH.nil
      go_simp
      (go_at_call 94; refine (RValidStamp_any _ _ _ _).mono ?_; rw [HS.out]; rintro e w' ⟨rfl, hb⟩)
      (try go_wp2_with fail)
      refine hK.out _ _ ?_ (fun hHeld => ?_)
      · exact keepT_call (by assumption) hb
      clear hK K
      (try simp only [Act.put, List.setIfInBounds_toArray, List.set_cons_zero, List.set_cons_succ])
      refine takeH (i := 2) (v := ?vv2) 30 rfl rfl (by kernel_rfl) (by kernel_rfl) (by kernel_rfl) (fun _ _ _ h => h) (Or.inl ⟨by kernel_rfl, ?yy2⟩) (by assumption) ?_
      case yy2 => intro w hSw; (try dsimp only at hSw); go_simp; (try with_reducible rfl)
      simp only [List.setIfInBounds_toArray, List.set_cons_zero, List.set_cons_succ]
      refine takeH (i := 3) (v := ?vv3) 31 rfl rfl (by kernel_rfl) (by kernel_rfl) (by kernel_rfl) (fun _ _ _ h => h) (Or.inl ⟨by kernel_rfl, ?yy3⟩) (by assumption) ?_
      case yy3 => intro w hSw; (try dsimp only at hSw); go_simp; (try with_reducible rfl)
      simp only [List.setIfInBounds_toArray, List.set_cons_zero, List.set_cons_succ]
      refine takeH (i := 4) (v := undef) 32 rfl rfl (by kernel_rfl) (by kernel_rfl) (by kernel_rfl) (fun _ _ _ h => h) (Or.inr ⟨by kernel_rfl, rfl⟩) (by assumption) ?_
      simp only [List.setIfInBounds_toArray, List.set_cons_zero, List.set_cons_succ]
      refine takeH (i := 5) (v := undef) 33 rfl rfl (by kernel_rfl) (by kernel_rfl) (by kernel_rfl) (fun _ _ _ h => h) (Or.inr ⟨by kernel_rfl, rfl⟩) (by assumption) ?_
      simp only [List.setIfInBounds_toArray, List.set_cons_zero, List.set_cons_succ]
      refine takeH (i := 6) (v := ?vv4) 34 rfl rfl (by kernel_rfl) (by kernel_rfl) (by kernel_rfl) (fun _ _ _ h => h) (Or.inl ⟨by kernel_rfl, ?yy4⟩) (by assumption) ?_
      case yy4 => intro w hSw; (try dsimp only at hSw); go_simp; (try with_reducible rfl)
      simp only [List.setIfInBounds_toArray, List.set_cons_zero, List.set_cons_succ]
      refine takeH (i := 7) (v := ?vv5) 35 rfl rfl (by kernel_rfl) (by kernel_rfl) (by kernel_rfl) (fun _ _ _ h => h) (Or.inl ⟨by kernel_rfl, ?yy5⟩) (by assumption) ?_
      case yy5 => intro w hSw; (try dsimp only at hSw); go_simp; (try with_reducible rfl)
      simp only [List.setIfInBounds_toArray, List.set_cons_zero, List.set_cons_succ]
      refine takeH (i := 8) (v := undef) 36 rfl rfl (by kernel_rfl) (by kernel_rfl) (by kernel_rfl) (fun _ _ _ h => h) (Or.inr ⟨by kernel_rfl, rfl⟩) (by assumption) ?_
      simp only [List.setIfInBounds_toArray, List.set_cons_zero, List.set_cons_succ]
      refine takeH (i := 9) (v := undef) 37 rfl rfl (by kernel_rfl) (by kernel_rfl) (by kernel_rfl) (fun _ _ _ h => h) (Or.inr ⟨by kernel_rfl, rfl⟩) (by assumption) ?_
      simp only [List.setIfInBounds_toArray, List.set_cons_zero, List.set_cons_succ]
      refine takeH (i := 10) (v := undef) 38 rfl rfl (by kernel_rfl) (by kernel_rfl) (by kernel_rfl) (fun _ _ _ h => h) (Or.inr ⟨by kernel_rfl, rfl⟩) (by assumption) ?_
      simp only [List.setIfInBounds_toArray, List.set_cons_zero, List.set_cons_succ]
      refine takeH (i := 11) (v := undef) 39 rfl rfl (by kernel_rfl) (by kernel_rfl) (by kernel_rfl) (fun _ _ _ h => h) (Or.inr ⟨by kernel_rfl, rfl⟩) (by assumption) ?_
      simp only [List.setIfInBounds_toArray, List.set_cons_zero, List.set_cons_succ]
      refine takeH (i := 12) (v := undef) 40 rfl rfl (by kernel_rfl) (by kernel_rfl) (by kernel_rfl) (fun _ _ _ h => h) (Or.inr ⟨by kernel_rfl, rfl⟩) (by assumption) ?_
      simp only [List.setIfInBounds_toArray, List.set_cons_zero, List.set_cons_succ]
      refine takeH (i := 13) (v := undef) 41 rfl rfl (by kernel_rfl) (by kernel_rfl) (by kernel_rfl) (fun _ _ _ h => h) (Or.inr ⟨by kernel_rfl, rfl⟩) (by assumption) ?_
      simp only [List.setIfInBounds_toArray, List.set_cons_zero, List.set_cons_succ]
      refine takeH (i := 14) (v := undef) 42 rfl rfl (by kernel_rfl) (by kernel_rfl) (by kernel_rfl) (fun _ _ _ h => h) (Or.inr ⟨by kernel_rfl, rfl⟩) (by assumption) ?_
      simp only [List.setIfInBounds_toArray, List.set_cons_zero, List.set_cons_succ]
      refine takeH (i := 15) (v := undef) 43 rfl rfl (by kernel_rfl) (by kernel_rfl) (by kernel_rfl) (fun _ _ _ h => h) (Or.inr ⟨by kernel_rfl, rfl⟩) (by assumption) ?_
      simp only [List.setIfInBounds_toArray, List.set_cons_zero, List.set_cons_succ]
      refine takeH (i := 16) (v := ?vv6) 44 rfl rfl (by kernel_rfl) (by kernel_rfl) (by kernel_rfl) (fun _ _ _ h => h) (Or.inl ⟨by kernel_rfl, ?yy6⟩) (by assumption) ?_
      case yy6 => intro w hSw; (try dsimp only at hSw); go_simp; (try with_reducible rfl)
      simp only [List.setIfInBounds_toArray, List.set_cons_zero, List.set_cons_succ]
      refine wpAnyH_done (by kernel_rfl) ?_ _
      all_goals go_wp2_with fail
      all_goals go_meet
      all_goals exact ⟨rfl, keepT_two (by assumption)⟩
    case rest =>
      obtain ⟨rfl, hT2⟩ := hcut
      clear hs3 hT
      obtain ⟨⟨a0, a1, a2⟩, ⟨b0, b1, b2⟩, ⟨f0, f1, f2⟩⟩ := hT2.cells
      go_wp2_with fail
      exact bodyPost_ret (v := .tuple #[.agg #[.int .i64 0, .int .i64 0, .int .i64 0], .string (bs []), .int .i64 20]) (by simp [results, Try.results57, go_sem, a0, a1, a2]; rfl) rfl ⟨by rw [HFIN.out], ((hT2.2.2.setCell (Nat.le_refl _) _).setCell (Nat.le_refl _) _).setCell (Nat.le_refl _) _⟩
set_option maxRecDepth 100000 in
set_option maxHeartbeats 400000 in
theorem ROpen_any (l : List UInt8) (w : World) (hl : l.length ≤ 9223372036854775807) :
    Calls Try.prog 57 #[.string (bs l)] w fun e w' =>
      e = .returned (.tuple #[.agg #[.int .i64 (openS l).1.1, .int .i64 (openS l).1.2.1, .int .i64 (openS l).1.2.2], .string (bs (openS l).2.1), .int .i64 (openS l).2.2]) ∧ Below w.heap.size w w' := by
  by_cases h1 : l.length < 64
  · exact ROpen_short l w h1
  · by_cases hv : stampB (num (l.take 6)) (num ((l.take 8).drop 6)) (num ((l.take 10).drop 8)) = true
    · by_cases hn : num ((l.take 12).drop 10) ≤ 40
      · by_cases hq : sealedL (num (l.take 6)) (num ((l.take 8).drop 6)) (num ((l.take 10).drop 8)) ((l.drop 16).take (num ((l.take 12).drop 10))) = l
        · exact ROpen_eq l w hl h1 hv hn hq
        · exact ROpen_ne l w hl h1 hv hn hq
      · exact ROpen_big l w hl h1 hv hn
    · exact ROpen_inv l w hl h1 hv
end Go.Proofs.Ytkpfkknldeafkaa

namespace Go.Proofs.Ytkpfkknldeafkaa
open Go.RowKit

theorem split_len (g : Int) (l : List UInt8) : (splitS g l).1.length ≤ 1024 := by
  unfold splitS; split
  · simp
  · split
    · simp
    · rw [secs_length]; omega
theorem secs_get (g : Nat) (l : List UInt8) (n k : Nat) (hk : k < n) : (secs g l n)[k]? = some (secAt g l k) := by simp [secs, hk]
set_option maxRecDepth 100000 in
theorem cat_secs (g : Nat) (l : List UInt8) (hg : 1 ≤ g ∧ g ≤ 1099511627776) (hp : pieces l.length ≤ 1024) (L : List (List UInt8)) (hL : ∀ k, k < pieces l.length → L[k]? = some (secAt g l k)) (k : Nat) (hk : k ≤ pieces l.length) : cat L k = l.take (k * 40) := by
  induction k with
  | zero => simp [cat]
  | succ k ih =>
    have hLk := hL k (by omega)
    have hkl : k < L.length := by
      rcases Nat.lt_or_ge k L.length with h' | h'
      · exact h'
      · rw [List.getElem?_eq_none h'] at hLk; cases hLk
    rw [List.getElem?_eq_getElem hkl] at hLk
    simp only [Option.some.injEq] at hLk
    rw [cat_succ L k hkl, ih (by omega), hLk, sec_opens g l hg hp k (by omega)]
    simp only
    rw [show (k + 1) * 40 = k * 40 + 40 by omega, List.take_add]
theorem pieces_covers (n : Nat) : n ≤ pieces n * 40 := by unfold pieces; omega
theorem pieces_pos (n : Nat) : 1 ≤ pieces n := by unfold pieces; omega
set_option maxRecDepth 100000 in
/-- a list that begins with the sectors of a record joins to it, if the generation is in range -/
theorem join_secs (g : Nat) (l : List UInt8) (hg : 1 ≤ g ∧ g ≤ 1099511627776) (hp : pieces l.length ≤ 1024) (L : List (List UInt8)) (hL : ∀ k, k < pieces l.length → L[k]? = some (secAt g l k)) (hlen : pieces l.length ≤ L.length) (least most : Int) :
    joinS L least most = if least ≤ (g : Int) ∧ (g : Int) ≤ most then (l, (g : Int), (pieces l.length : Int), true) else joinFail := by
  have hn := pieces_pos l.length
  have h0 : 0 < L.length := by omega
  have hL0 := hL 0 (by omega)
  rw [List.getElem?_eq_getElem h0] at hL0
  simp only [Option.some.injEq] at hL0
  have ho := sec_opens g l hg hp 0 (by omega)
  rw [← hL0] at ho
  rw [join_first L h0 least most _ _ _ _ _ ho]
  have hgood : ∀ i, i < pieces l.length → goodAt g (pieces l.length) L i := fun i hi => sec_good g l hg hp L hL i hi
  have hj := join_good L g (pieces l.length) hn hlen hgood
  by_cases hr : least ≤ (g : Int) ∧ (g : Int) ≤ most
  · rw [if_pos ⟨rfl, hr.1, hr.2, by omega⟩, if_pos hj, if_pos hr, Int.toNat_natCast, cat_secs g l hg hp L hL _ (Nat.le_refl _), List.take_of_length_le (pieces_covers _)]
  · rw [if_neg (by intro h; exact hr ⟨h.2.1, h.2.2.1⟩), if_neg hr]
set_option maxRecDepth 100000 in
/-- .. and not if its last sector is missing -/
theorem join_cut (g : Nat) (l : List UInt8) (hg : 1 ≤ g ∧ g ≤ 1099511627776) (hp : pieces l.length ≤ 1024) (least most : Int) (L : List (List UInt8)) (hL : L = (secs g l (pieces l.length)).take (pieces l.length - 1)) :
    joinS L least most = joinFail := by
  subst hL
  have hn := pieces_pos l.length
  by_cases h1 : pieces l.length = 1
  · rw [h1]; rfl
  · have hlen : ((secs g l (pieces l.length)).take (pieces l.length - 1)).length = pieces l.length - 1 := by rw [List.length_take, secs_length]; omega
    have h0 : 0 < ((secs g l (pieces l.length)).take (pieces l.length - 1)).length := by omega
    have hL0 : ((secs g l (pieces l.length)).take (pieces l.length - 1))[0]'h0 = secAt g l 0 := by
      rw [List.getElem_take]
      have := secs_get g l (pieces l.length) 0 (by omega)
      rw [List.getElem?_eq_getElem (by rw [secs_length]; omega)] at this
      simpa using this
    have ho := sec_opens g l hg hp 0 (by omega)
    rw [← hL0] at ho
    rw [join_first _ h0 least most _ _ _ _ _ ho, if_neg (by rw [hlen]; omega)]

/-! ### the examples -/
def a81 : List UInt8 := List.replicate 81 97
theorem a81_pieces : pieces a81.length = 3 := by decide
theorem ex_open2 : openS (secAt 7 a81 2) = ((7, 2, 3), [97], 0) := by
  have := sec_opens 7 a81 (by decide) (by decide) 2 (by decide)
  rw [this]; rfl
theorem ex_join3 : joinS (secs 7 a81 3) 7 7 = (a81, 7, 3, true) := by
  have h := join_secs 7 a81 (by decide) (by decide) (secs 7 a81 3) (fun k hk => secs_get 7 a81 3 k (by rw [a81_pieces] at hk; exact hk)) (by decide) 7 7
  rw [a81_pieces] at h
  exact h
theorem ex_join2 : joinS ((secs 7 a81 3).take 2) 1 9 = joinFail := by
  have h := join_cut 7 a81 (by decide) (by decide) 1 9 ((secs 7 a81 3).take 2) (by rw [a81_pieces])
  exact h
theorem ex_zero : openS (List.replicate 64 0) = ((0, 0, 0), [], 20) := by decide +kernel
theorem ex_split : splitS 7 a81 = (secs 7 a81 3, 0) := by
  unfold splitS
  rw [a81_pieces]; rfl
end Go.Proofs.Ytkpfkknldeafkaa

namespace Go.Proofs.Ytkpfkknldeafkaa
open Go.RowKit

theorem bdrawN {B : Nat} {w W : World} (h : Below B w W) (n : Nat) : Below B w (W.drewN n) := h.trans ⟨rfl, rfl, rfl, Nat.le_refl _, fun _ _ => rfl⟩
/-- Join's own memory: the first sector's stamp -/
def JInv (w : World) (b1 : Nat) (g p q : Int) (W : World) : Prop := W.heap[b1]? = some (.cells #[.int .i64 g, .int .i64 p, .int .i64 q] 87 (0, 0)) ∧ w.heap.size ≤ b1 ∧ Below w.heap.size w W
theorem JInv.start {w w1 : World} (hb : Below w.heap.size w w1) (g p q : Int) : JInv w w1.heap.size g p q (w1.alloc (.cells #[.int .i64 g, .int .i64 p, .int .i64 q] 87)) :=
  ⟨heap_alloc_new w1 _, hb.size, hb.alloc hb.size _⟩
theorem JInv.call {w W W' : World} {b1 : Nat} {g p q : Int} (h : JInv w b1 g p q W) (hb : Below W.heap.size W W') : JInv w b1 g p q W' :=
  ⟨(hb.block _ (lt_of_heap h.1)).trans h.1, h.2.1, btrans h.2.2 h.2.2.size hb⟩
theorem JInv.alloc {w W : World} {b1 : Nat} {g p q : Int} (h : JInv w b1 g p q W) (o : Obj) : JInv w b1 g p q (W.alloc o) := h.call ((Below.refl _ _).alloc (Nat.le_refl _) _)
theorem JInv.cells {w W : World} {b1 : Nat} {g p q : Int} (h : JInv w b1 g p q W) : W.cell? ⟨b1, 0, none⟩ = some (.int .i64 g) ∧ W.cell? ⟨b1, 1, none⟩ = some (.int .i64 p) ∧ W.cell? ⟨b1, 2, none⟩ = some (.int .i64 q) := by
  have h1 := h.1
  refine ⟨?_, ?_, ?_⟩ <;> simp [World.cell?, h1]
set_option maxRecDepth 100000 in
set_option maxHeartbeats 6000000 in
theorem Join_any (v : Value) (L : List (List UInt8)) (least most : Int) (w : World) (hS : StrS w v L) (hL : ∀ s ∈ L, s.length ≤ 9223372036854775807) :
    Calls Try.prog 108 #[v, .int .i64 least, .int .i64 most] w fun e w' =>
      e = .returned (.tuple #[.string (bs (joinS L least most).1), .int .i64 (joinS L least most).2.1, .int .i64 (joinS L least most).2.2.1, .bool (joinS L least most).2.2.2]) ∧ Below w.heap.size w w' := by
  obtain ⟨a, cap, rfl, hcap, hcells⟩ := hS
  have hB0 := Below.refl w.heap.size w
  cases hLc : L with
  | nil =>
    have hfin : joinS [] least most = joinFail := rfl
    rw [hfin]
    go_enter Try.func108, Try.ntmps108
    go_wp2
    exact bodyPost_ret (v := .tuple #[.string (bs []), .int .i64 0, .int .i64 0, .bool false]) (by simp [results, Try.results108, go_sem]; rfl) rfl ⟨rfl, hB0⟩
  | cons s0 Lr =>
    rw [← hLc]
    have hlen : 0 < L.length := by rw [hLc]; simp
    obtain ⟨b, off, rfl, hcell⟩ := hcells (by rw [hLc]; simp)
    have hl0 : ((L.length : Int) == 0) = false := by rw [beq_eq_false_iff_ne]; omega
    have c0 := hcell 0 hlen
    rw [Nat.add_zero] at c0
    have hlen' : (0 : Int) < L.length := by omega
    unfold strV at c0
    obtain ⟨g, p, q, d, er, ho⟩ : ∃ g p q d er, openS L[0] = ((g, p, q), d, er) := ⟨_, _, _, _, _, rfl⟩
    have hj := join_first L hlen least most g p q d er ho
    have HJ := Lib.hid hj; clear hj
    have HO := Lib.hid ho; clear ho
    have HC := Lib.hid hcell; clear hcell hcells
    clear hLc
    have HL0 := Lib.hid (hL L[0] (List.getElem_mem hlen))
    have HLL := Lib.hid hL; clear hL
    by_cases hall : er = 0 ∧ least ≤ g ∧ g ≤ most ∧ q ≤ L.length
    · obtain ⟨rfl, hge, hle, hql⟩ := hall
      have hok := openS_ok (s := L[0]) (by rw [HO.out])
      have hst : stampB g p q = true ∧ d.length ≤ 40 := by
        obtain ⟨g', p', q', d', h1, h2, h3, _⟩ := hok
        rw [HO.out] at h1
        simp only [Prod.mk.injEq] at h1
        obtain ⟨⟨rfl, rfl, rfl⟩, rfl, _⟩ := h1
        exact ⟨h2, h3⟩
      have hb := (stampB_iff g p q).1 hst.1
      obtain ⟨n, rfl⟩ := Int.eq_ofNat_of_zero_le (show 0 ≤ q by omega)
      have hn1 : n ≤ 1024 := by omega
      have hn0 : 1 ≤ n := by omega
      have hnl : n ≤ L.length := by omega
      have HJ2 := Lib.hid (HJ.out.trans (if_pos ⟨rfl, hge, hle, hql⟩))
      have hd1 : decide (g < least) = false := by simp; omega
      have hd2 : decide (most < g) = false := by simp; omega
      have hd3 : decide (L.length < n) = false := by simp; omega
      clear hok hst hb HJ
      go_enter Try.func108, Try.ntmps108
      go_wp2_with (go_at_call 55; refine (Open_any _ _ HL0.out).mono ?_; rw [HO.out]; rintro e w1 ⟨rfl, hb⟩)
      have hI : JInv w w1.heap.size g p n (w1.alloc (.cells #[.int .i64 g, .int .i64 p, .int .i64 n] 87)) := JInv.start hb g p n
      clear hb
      go_loopw [13, 52] (fun r c wr => ∃ k : Nat, k ≤ n ∧ c = .int .i64 k ∧ r = .string (bs (cat L k)) ∧ JInv w w1.heap.size g p n wr ∧ (∀ i, i < k → goodAt g n L i)) (fun _ c _ => n - (intOf c).toNat)
      case atStart => exact ⟨0, Nat.zero_le _, rfl, rfl, hI, fun i hi => absurd hi (Nat.not_lt_zero _)⟩
      case round =>
        obtain ⟨k, hk, rfl, rfl, hI, hgood⟩ := hrel
        have HG := Lib.hid hgood; clear hgood
        obtain ⟨a0, a1, a2⟩ := hI.cells
        have hcl : (cat L k).length ≤ 40960 := by have := cat_len L k; omega
        by_cases hlt : k < n
        · have hkl : k < L.length := by omega
          have ck : wr.cell? ⟨b, off + k, none⟩ = some (.string (bs L[k])) := by
            have h1 := HC.out k hkl
            rw [(bcell hI.2.2).1 _ _ (World.block_lt_of_cell? w _ h1)]; exact h1
          have hkl' : (k : Int) < L.length := by omega
          have HLk := Lib.hid (HLL.out L[k] (List.getElem_mem hkl))
          obtain ⟨g', p', q', d', er', ho'⟩ : ∃ g' p' q' d' er', openS L[k] = ((g', p', q'), d', er') := ⟨_, _, _, _, _, rfl⟩
          have hdl : d'.length ≤ 40 := by have := openS_len L[k]; rw [ho'] at this; exact this
          have HOk := Lib.hid ho'; clear ho'
          by_cases hgd : goodAt g n L k
          · have hgs : er' = 0 ∧ g = g' ∧ (k : Int) = p' ∧ (n : Int) = q' ∧ ((k : Int) < n - 1 → d'.length = 40) ∧ (0 < k → d' ≠ []) := by
              obtain ⟨s, hs, h1, h2, h3, h4⟩ := hgd
              rw [List.getElem?_eq_getElem hkl] at hs
              simp only [Option.some.injEq] at hs
              subst hs
              rw [HOk.out] at h1 h2 h3 h4
              simp only [Prod.mk.injEq] at h2
              exact ⟨h1, h2.1.symm, h2.2.1.symm, h2.2.2.symm, h3, h4⟩
            have hG : ∀ i, i < k + 1 → goodAt g n L i := by
              intro i hi
              by_cases e : i = k
              · subst e; exact hgd
              · exact HG.out i (by omega)
            have HG2 := Lib.hid hG; clear hG hgd
            obtain ⟨rfl, rfl, rfl, rfl, h3, h4⟩ := hgs
            have H3 := Lib.hid h3; clear h3
            have H4 := Lib.hid h4; clear h4
            have hcs : cat L (k + 1) = cat L k ++ d' := by rw [cat_succ L k hkl, HOk.out]
            have HCS := Lib.hid hcs; clear hcs
            by_cases e4 : (k : Int) < (n : Int) - 1
            · have h40 : ((d'.length : Int) != 40) = false := by have := H3.out e4; rw [this]; rfl
              by_cases e6 : (0 : Int) < (k : Int)
              · have he : d'.isEmpty = false := by have := H4.out (by omega); simpa using this
                go_wp2_with (go_at_call 55; refine (Open_any _ _ HLk.out).mono ?_; rw [HOk.out]; rintro e w2 ⟨rfl, hb⟩; have hI2 := hI.call hb; clear hb hI a0 a1 a2; obtain ⟨a0, a1, a2⟩ := hI2.cells; have hz2 := lt_of_heap hI2.1)
                go_roundw
                case rel => exact ⟨k + 1, by omega, by go_num, by rw [HCS.out], hI2.alloc _, HG2.out⟩
                case measure => simp [intOf]; omega
              · go_wp2_with (go_at_call 55; refine (Open_any _ _ HLk.out).mono ?_; rw [HOk.out]; rintro e w2 ⟨rfl, hb⟩; have hI2 := hI.call hb; clear hb hI a0 a1 a2; obtain ⟨a0, a1, a2⟩ := hI2.cells; have hz2 := lt_of_heap hI2.1)
                go_roundw
                case rel => exact ⟨k + 1, by omega, by go_num, by rw [HCS.out], hI2.alloc _, HG2.out⟩
                case measure => simp [intOf]; omega
            · by_cases e6 : (0 : Int) < (k : Int)
              · have he : d'.isEmpty = false := by have := H4.out (by omega); simpa using this
                go_wp2_with (go_at_call 55; refine (Open_any _ _ HLk.out).mono ?_; rw [HOk.out]; rintro e w2 ⟨rfl, hb⟩; have hI2 := hI.call hb; clear hb hI a0 a1 a2; obtain ⟨a0, a1, a2⟩ := hI2.cells; have hz2 := lt_of_heap hI2.1)
                go_roundw
                case rel => exact ⟨k + 1, by omega, by go_num, by rw [HCS.out], hI2.alloc _, HG2.out⟩
                case measure => simp [intOf]; omega
              · go_wp2_with (go_at_call 55; refine (Open_any _ _ HLk.out).mono ?_; rw [HOk.out]; rintro e w2 ⟨rfl, hb⟩; have hI2 := hI.call hb; clear hb hI a0 a1 a2; obtain ⟨a0, a1, a2⟩ := hI2.cells; have hz2 := lt_of_heap hI2.1)
                go_roundw
                case rel => exact ⟨k + 1, by omega, by go_num, by rw [HCS.out], hI2.alloc _, HG2.out⟩
                case measure => simp [intOf]; omega
          · have hfin : joinS L least most = joinFail := by rw [HJ2.out, if_neg (join_bad L g n hnl k hlt hgd)]
            have HF := Lib.hid hfin; clear hfin
            have hbad : ¬ (er' = 0 ∧ g' = g ∧ p' = (k : Int) ∧ q' = (n : Int) ∧ ((k : Int) < n - 1 → d'.length = 40) ∧ (0 < k → d' ≠ [])) := by
              rintro ⟨h1, h2, h3, h4, h5, h6⟩
              exact hgd ⟨L[k], List.getElem?_eq_getElem hkl, by rw [HOk.out]; exact h1, by rw [HOk.out, h2, h3, h4], by rw [HOk.out]; exact h5, by rw [HOk.out]; exact h6⟩
            have HBAD := Lib.hid hbad; clear hbad hgd
            by_cases e0 : er' = 0
            · subst e0
              by_cases e1 : g' = g
              · subst e1
                by_cases e2 : p' = (k : Int)
                · subst e2
                  by_cases e3 : q' = (n : Int)
                  · subst e3
                    by_cases e4 : (k : Int) < (n : Int) - 1
                    · by_cases e5 : d'.length = 40
                      · have h40 : ((d'.length : Int) != 40) = false := by rw [e5]; rfl
                        have H5 := Lib.hid e5; clear e5
                        have e6 : (0 : Int) < (k : Int) ∧ d'.isEmpty = true := by
                          by_cases h0 : 0 < k ∧ d' = []
                          · rw [h0.2]; exact ⟨by omega, rfl⟩
                          · exact absurd ⟨rfl, rfl, rfl, rfl, fun _ => H5.out, fun h hd => h0 ⟨h, hd⟩⟩ HBAD.out
                        obtain ⟨e6, e7⟩ := e6
                        go_wp2_with (go_at_call 55; refine (Open_any _ _ HLk.out).mono ?_; rw [HOk.out]; rintro e w2 ⟨rfl, hb⟩; have hI2 := hI.call hb; clear hb hI a0 a1 a2; obtain ⟨a0, a1, a2⟩ := hI2.cells; have hz2 := lt_of_heap hI2.1)
                        exact bodyPost_ret (v := .tuple #[.string (bs []), .int .i64 0, .int .i64 0, .bool false]) (by simp [results, Try.results108, go_sem]; rfl) rfl ⟨by rw [HF.out]; rfl, (hI2.alloc _).2.2⟩
                      · have h40 : ((d'.length : Int) != 40) = true := by rw [bne_iff_ne]; omega
                        clear e5
                        go_wp2_with (go_at_call 55; refine (Open_any _ _ HLk.out).mono ?_; rw [HOk.out]; rintro e w2 ⟨rfl, hb⟩; have hI2 := hI.call hb; clear hb hI a0 a1 a2; obtain ⟨a0, a1, a2⟩ := hI2.cells; have hz2 := lt_of_heap hI2.1)
                        exact bodyPost_ret (v := .tuple #[.string (bs []), .int .i64 0, .int .i64 0, .bool false]) (by simp [results, Try.results108, go_sem]; rfl) rfl ⟨by rw [HF.out]; rfl, (hI2.alloc _).2.2⟩
                    · have e6 : (0 : Int) < (k : Int) ∧ d'.isEmpty = true := by
                        by_cases h0 : 0 < k ∧ d' = []
                        · rw [h0.2]; exact ⟨by omega, rfl⟩
                        · exact absurd ⟨rfl, rfl, rfl, rfl, fun h => absurd h e4, fun h hd => h0 ⟨h, hd⟩⟩ HBAD.out
                      obtain ⟨e6, e7⟩ := e6
                      go_wp2_with (go_at_call 55; refine (Open_any _ _ HLk.out).mono ?_; rw [HOk.out]; rintro e w2 ⟨rfl, hb⟩; have hI2 := hI.call hb; clear hb hI a0 a1 a2; obtain ⟨a0, a1, a2⟩ := hI2.cells; have hz2 := lt_of_heap hI2.1)
                      exact bodyPost_ret (v := .tuple #[.string (bs []), .int .i64 0, .int .i64 0, .bool false]) (by simp [results, Try.results108, go_sem]; rfl) rfl ⟨by rw [HF.out]; rfl, (hI2.alloc _).2.2⟩
                  · go_wp2_with (go_at_call 55; refine (Open_any _ _ HLk.out).mono ?_; rw [HOk.out]; rintro e w2 ⟨rfl, hb⟩; have hI2 := hI.call hb; clear hb hI a0 a1 a2; obtain ⟨a0, a1, a2⟩ := hI2.cells; have hz2 := lt_of_heap hI2.1)
                    exact bodyPost_ret (v := .tuple #[.string (bs []), .int .i64 0, .int .i64 0, .bool false]) (by simp [results, Try.results108, go_sem]; rfl) rfl ⟨by rw [HF.out]; rfl, (hI2.alloc _).2.2⟩
                · go_wp2_with (go_at_call 55; refine (Open_any _ _ HLk.out).mono ?_; rw [HOk.out]; rintro e w2 ⟨rfl, hb⟩; have hI2 := hI.call hb; clear hb hI a0 a1 a2; obtain ⟨a0, a1, a2⟩ := hI2.cells; have hz2 := lt_of_heap hI2.1)
                  exact bodyPost_ret (v := .tuple #[.string (bs []), .int .i64 0, .int .i64 0, .bool false]) (by simp [results, Try.results108, go_sem]; rfl) rfl ⟨by rw [HF.out]; rfl, (hI2.alloc _).2.2⟩
              · go_wp2_with (go_at_call 55; refine (Open_any _ _ HLk.out).mono ?_; rw [HOk.out]; rintro e w2 ⟨rfl, hb⟩; have hI2 := hI.call hb; clear hb hI a0 a1 a2; obtain ⟨a0, a1, a2⟩ := hI2.cells; have hz2 := lt_of_heap hI2.1)
                exact bodyPost_ret (v := .tuple #[.string (bs []), .int .i64 0, .int .i64 0, .bool false]) (by simp [results, Try.results108, go_sem]; rfl) rfl ⟨by rw [HF.out]; rfl, (hI2.alloc _).2.2⟩
            · have her : (er' != 0) = true := by rw [bne_iff_ne]; exact e0
              clear e0
              go_wp2_with (go_at_call 55; refine (Open_any _ _ HLk.out).mono ?_; rw [HOk.out]; rintro e w2 ⟨rfl, hb⟩; have hI2 := hI.call hb; clear hb hI a0 a1 a2; obtain ⟨a0, a1, a2⟩ := hI2.cells; have hz2 := lt_of_heap hI2.1)
              exact bodyPost_ret (v := .tuple #[.string (bs []), .int .i64 0, .int .i64 0, .bool false]) (by simp [results, Try.results108, go_sem]; rfl) rfl ⟨by rw [HF.out]; rfl, (hI2.alloc _).2.2⟩
        · have hkn : k = n := by omega
          have hfin : joinS L least most = (cat L n, g, (n : Int), true) := by rw [HJ2.out, if_pos (join_good L g n hn0 hnl (by subst hkn; exact HG.out))]; rfl
          have HF := Lib.hid hfin; clear hfin
          have HK := Lib.hid hkn; clear hkn
          go_wp2
          go_quiet (fail)
          go_wp2
          exact bodyPost_ret (v := .tuple #[.string (bs (cat L k)), .int .i64 g, .int .i64 n, .bool true]) (by simp [results, Try.results108, go_sem]) rfl ⟨by rw [HF.out, HK.out], bdrawN hI.2.2 _⟩
    · have hfin : joinS L least most = joinFail := by rw [HJ.out, if_neg hall]
      rw [hfin]
      have HALL := Lib.hid hall; clear hall hfin HJ
      go_enter Try.func108, Try.ntmps108
      by_cases e0 : er = 0
      · subst e0
        have h3 : g < least ∨ most < g ∨ (L.length : Int) < q := by have := HALL.out; omega
        clear HALL
        by_cases e1 : g < least
        · go_wp2_with (go_at_call 55; refine (Open_any _ _ HL0.out).mono ?_; rw [HO.out]; rintro e w1 ⟨rfl, hb⟩)
          exact bodyPost_ret (v := .tuple #[.string (bs []), .int .i64 0, .int .i64 0, .bool false]) (by simp [results, Try.results108, go_sem]; rfl) rfl ⟨rfl, hb.alloc hb.size _⟩
        · by_cases e2 : most < g
          · go_wp2_with (go_at_call 55; refine (Open_any _ _ HL0.out).mono ?_; rw [HO.out]; rintro e w1 ⟨rfl, hb⟩)
            exact bodyPost_ret (v := .tuple #[.string (bs []), .int .i64 0, .int .i64 0, .bool false]) (by simp [results, Try.results108, go_sem]; rfl) rfl ⟨rfl, hb.alloc hb.size _⟩
          · have e3 : (L.length : Int) < q := by omega
            clear h3
            go_wp2_with (go_at_call 55; refine (Open_any _ _ HL0.out).mono ?_; rw [HO.out]; rintro e w1 ⟨rfl, hb⟩)
            exact bodyPost_ret (v := .tuple #[.string (bs []), .int .i64 0, .int .i64 0, .bool false]) (by simp [results, Try.results108, go_sem]; rfl) rfl ⟨rfl, hb.alloc hb.size _⟩
      · have her : (er != 0) = true := by rw [bne_iff_ne]; exact e0
        clear e0
        go_wp2_with (go_at_call 55; refine (Open_any _ _ HL0.out).mono ?_; rw [HO.out]; rintro e w1 ⟨rfl, hb⟩)
        exact bodyPost_ret (v := .tuple #[.string (bs []), .int .i64 0, .int .i64 0, .bool false]) (by simp [results, Try.results108, go_sem]; rfl) rfl ⟨rfl, hb.alloc hb.size _⟩
end Go.Proofs.Ytkpfkknldeafkaa

namespace Go.Proofs.Ytkpfkknldeafkaa
open Go.RowKit

set_option maxRecDepth 100000 in
set_option maxHeartbeats 6000000 in
theorem RJoin_any (v : Value) (L : List (List UInt8)) (least most : Int) (w : World) (hS : StrS w v L) (hL : ∀ s ∈ L, s.length ≤ 9223372036854775807) :
    Calls Try.prog 74 #[v, .int .i64 least, .int .i64 most] w fun e w' =>
      e = .returned (.tuple #[.string (bs (joinS L least most).1), .int .i64 (joinS L least most).2.1, .int .i64 (joinS L least most).2.2.1, .bool (joinS L least most).2.2.2]) ∧ Below w.heap.size w w' := by
  obtain ⟨a, cap, rfl, hcap, hcells⟩ := hS
  have hB0 := Below.refl w.heap.size w
  cases hLc : L with
  | nil =>
    have hfin : joinS [] least most = joinFail := rfl
    have HF := Lib.hid hfin; clear hfin
    go_enter Try.func74, Try.ntmps74
    go_wp2
    exact bodyPost_ret (v := .tuple #[.string (bs []), .int .i64 0, .int .i64 0, .bool false]) (by simp [results, Try.results74, go_sem]; rfl) rfl ⟨by rw [HF.out]; rfl, hB0⟩
  | cons s0 Lr =>
    rw [← hLc]
    have hlen : 0 < L.length := by rw [hLc]; simp
    obtain ⟨b, off, rfl, hcell⟩ := hcells (by rw [hLc]; simp)
    have hl0 : ((L.length : Int) == 0) = false := by rw [beq_eq_false_iff_ne]; omega
    have c0 := hcell 0 hlen
    rw [Nat.add_zero] at c0
    have hlen' : (0 : Int) < L.length := by omega
    unfold strV at c0
    obtain ⟨g, p, q, d, er, ho⟩ : ∃ g p q d er, openS L[0] = ((g, p, q), d, er) := ⟨_, _, _, _, _, rfl⟩
    have hj := join_first L hlen least most g p q d er ho
    have HJ := Lib.hid hj; clear hj
    have HO := Lib.hid ho; clear ho
    have HC := Lib.hid hcell; clear hcell hcells
    clear hLc
    have HL0 := Lib.hid (hL L[0] (List.getElem_mem hlen))
    have HLL := Lib.hid hL; clear hL
    by_cases hall : er = 0 ∧ least ≤ g ∧ g ≤ most ∧ q ≤ L.length
    · obtain ⟨rfl, hge, hle, hql⟩ := hall
      have hok := openS_ok (s := L[0]) (by rw [HO.out])
      have hst : stampB g p q = true := by
        obtain ⟨g', p', q', d', h1, h2, h3, _⟩ := hok
        rw [HO.out] at h1
        simp only [Prod.mk.injEq] at h1
        obtain ⟨⟨rfl, rfl, rfl⟩, rfl, _⟩ := h1
        exact h2
      have hb := (stampB_iff g p q).1 hst
      obtain ⟨n, rfl⟩ := Int.eq_ofNat_of_zero_le (show 0 ≤ q by omega)
      have hn1 : n ≤ 1024 := by omega
      have hn0 : 1 ≤ n := by omega
      have hnl : n ≤ L.length := by omega
      have hj2 := HJ.out.trans (if_pos ⟨rfl, hge, hle, hql⟩)
      rw [Int.toNat_natCast] at hj2
      have HJ2 := Lib.hid hj2; clear hj2
      have hd1 : decide (g < least) = false := by simp; omega
      have hd2 : decide (most < g) = false := by simp; omega
      have hd3 : decide (L.length < n) = false := by simp; omega
      clear hok hst hb HJ
      go_enter Try.func74, Try.ntmps74
      go_wp2_with (go_at_call 57; refine (ROpen_any _ _ HL0.out).mono ?_; rw [HO.out]; rintro e w1 ⟨rfl, hb⟩)
      have hI : JInv w w1.heap.size g p n (w1.alloc (.cells #[.int .i64 g, .int .i64 p, .int .i64 n] 87)) := JInv.start hb g p n
      clear hb
      go_loopw [13, 14] (fun r c wr => ∃ k : Nat, k ≤ n ∧ c = .int .i64 k ∧ r = .string (bs (cat L k)) ∧ JInv w w1.heap.size g p n wr ∧ (∀ i, i < k → (openS (L.getD i [])).2.2 = 0)) (fun _ c _ => n - (intOf c).toNat)
      case atStart => exact ⟨0, Nat.zero_le _, rfl, rfl, hI, fun i hi => absurd hi (Nat.not_lt_zero _)⟩
      case round =>
        obtain ⟨k, hk, rfl, rfl, hI, hgood⟩ := hrel
        have HG := Lib.hid hgood; clear hgood
        obtain ⟨a0, a1, a2⟩ := hI.cells
        have hcl : (cat L k).length ≤ 40960 := by have := cat_len L k; omega
        by_cases hlt : k < n
        · have hkl : k < L.length := by omega
          have ck : wr.cell? ⟨b, off + k, none⟩ = some (.string (bs L[k])) := by
            have h1 := HC.out k hkl
            rw [(bcell hI.2.2).1 _ _ (World.block_lt_of_cell? w _ h1)]; exact h1
          have hkl' : (k : Int) < L.length := by omega
          have hgd : L.getD k [] = L[k] := by rw [List.getD_eq_getElem?_getD, List.getElem?_eq_getElem hkl]; rfl
          have HLk := Lib.hid (HLL.out L[k] (List.getElem_mem hkl))
          obtain ⟨g', p', q', d', er', ho'⟩ : ∃ g' p' q' d' er', openS L[k] = ((g', p', q'), d', er') := ⟨_, _, _, _, _, rfl⟩
          have hdl : d'.length ≤ 40 := by have := openS_len L[k]; rw [ho'] at this; exact this
          have HOk := Lib.hid ho'; clear ho'
          have HGD := Lib.hid hgd; clear hgd
          by_cases e0 : er' = 0
          · subst e0
            have hG : ∀ i, i < k + 1 → (openS (L.getD i [])).2.2 = 0 := by
              intro i hi
              by_cases e : i = k
              · subst e; rw [HGD.out, HOk.out]
              · exact HG.out i (by omega)
            have HG2 := Lib.hid hG; clear hG
            have hcs : cat L (k + 1) = cat L k ++ d' := by rw [cat_succ L k hkl, HOk.out]
            have HCS := Lib.hid hcs; clear hcs
            go_wp2_with (go_at_call 57; refine (ROpen_any _ _ HLk.out).mono ?_; rw [HOk.out]; rintro e w2 ⟨rfl, hb⟩; have hI2 := hI.call hb; clear hb hI a0 a1 a2; obtain ⟨a0, a1, a2⟩ := hI2.cells; have hz2 := lt_of_heap hI2.1)
            go_roundw
            case rel => exact ⟨k + 1, by omega, by go_num, by rw [HCS.out], hI2.alloc _, HG2.out⟩
            case measure => simp [intOf]; omega
          · have her : (er' != 0) = true := by rw [bne_iff_ne]; exact e0
            have hfin : joinS L least most = joinFail := by
              rw [HJ2.out, if_neg]
              rintro ⟨h, _⟩
              have := h k hlt
              rw [HGD.out, HOk.out] at this
              exact e0 this
            have HF := Lib.hid hfin; clear hfin e0
            go_wp2_with (go_at_call 57; refine (ROpen_any _ _ HLk.out).mono ?_; rw [HOk.out]; rintro e w2 ⟨rfl, hb⟩; have hI2 := hI.call hb; clear hb hI a0 a1 a2; obtain ⟨a0, a1, a2⟩ := hI2.cells; have hz2 := lt_of_heap hI2.1)
            exact bodyPost_ret (v := .tuple #[.string (bs []), .int .i64 0, .int .i64 0, .bool false]) (by simp [results, Try.results74, go_sem]; rfl) rfl ⟨by rw [HF.out]; rfl, (hI2.alloc _).2.2⟩
        · obtain rfl : k = n := by omega
          clear hlt
          obtain ⟨S, er2, hsp⟩ : ∃ S er2, splitS g (cat L k) = (S, er2) := ⟨_, _, rfl⟩
          have hSl : S.length ≤ 1024 := by have := split_len g (cat L k); rw [hsp] at this; exact this
          have HSP := Lib.hid hsp; clear hsp
          have HG2 := Lib.hid (HG.out); clear HG
          by_cases h2 : er2 = 0 ∧ S.length = k
          · obtain ⟨rfl, hSk⟩ := h2
            have hne : ((S.length : Int) != (k : Int)) = false := by rw [hSk]; simp
            have HSK := Lib.hid hSk; clear hSk
            go_wp2_with (go_at_call 89; refine (RSplit_any _ _ _ (by omega)).mono ?_; rw [HSP.out]; rintro e w2 ⟨v2, rfl, hown2, hb⟩; have hI2 := hI.call hb; clear hb hI a0 a1 a2; obtain ⟨a0, a1, a2⟩ := hI2.cells; have hz2 := lt_of_heap hI2.1; have hS2 := StrS.of_own hown2; clear hown2; obtain ⟨sa, sc, rfl, hsc, hscell⟩ := hS2; have HSC := Lib.hid hscell; clear hscell)
            go_loopw [19] (fun c wr => ∃ j : Nat, j ≤ k ∧ c = .int .i64 j ∧ Below w2.heap.size w2 wr ∧ (∀ i, i < j → S[i]? = L[i]?)) (fun c _ => k - (intOf c).toNat)
            case atStart => exact ⟨0, Nat.zero_le _, rfl, Below.refl _ _, fun i hi => absurd hi (Nat.not_lt_zero _)⟩
            case round =>
              obtain ⟨j, hj, rfl, hbw, heq⟩ := hrel
              have HEQ := Lib.hid heq; clear heq
              have hI3 := hI2.call hbw
              clear a0 a1 a2
              obtain ⟨a0, a1, a2⟩ := hI3.cells
              by_cases hjk : j < k
              · have hjS : j < S.length := by rw [HSK.out]; exact hjk
                have hjL : j < L.length := by omega
                have hjS' : (j : Int) < (S.length : Int) := by omega
                have hjL' : (j : Int) < (L.length : Int) := by omega
                have hj0 : (0 : Int) ≤ (j : Int) := by omega
                obtain ⟨sb, so, rfl, hx⟩ := HSC.out (by intro h; rw [h] at hjS; simp at hjS)
                have e1 := hx j hjS
                have k1 := ((bcell hbw).1 _ (so + j) (World.block_lt_of_cell? w2 _ e1)).trans e1
                have e2 := HC.out j hjL
                have k2 := ((bcell hI3.2.2).1 _ (off + j) (World.block_lt_of_cell? w _ e2)).trans e2
                unfold strV at k1 k2
                clear hx e1 e2
                by_cases hq : S[j] = L[j]
                · have hq' : (S[j] == L[j]) = true := by rw [hq]; simp
                  have hE : ∀ i, i < j + 1 → S[i]? = L[i]? := by
                    intro i hi
                    by_cases e : i = j
                    · subst e; rw [List.getElem?_eq_getElem hjS, List.getElem?_eq_getElem hjL, hq]
                    · exact HEQ.out i (by omega)
                  have HE := Lib.hid hE; clear hE hq
                  go_wp2
                  go_quiet (fail)
                  go_wp2
                  go_roundw
                  case rel => exact ⟨j + 1, by omega, by go_num, bdrawN hbw _, HE.out⟩
                  case measure => simp [intOf]; omega
                · have hq' : (S[j] == L[j]) = false := by rw [beq_eq_false_iff_ne]; exact hq
                  have hfin : joinS L least most = joinFail := by
                    rw [HJ2.out, if_neg]
                    rintro ⟨_, h⟩
                    rw [HSP.out] at h
                    simp only [Prod.mk.injEq] at h
                    apply hq
                    have h3 := congrArg (fun l => l[j]?) h.1
                    simp only [List.getElem?_take, if_pos hjk] at h3
                    rw [List.getElem?_eq_getElem hjS, List.getElem?_eq_getElem hjL] at h3
                    exact Option.some.inj h3
                  have HF := Lib.hid hfin; clear hfin hq
                  go_wp2
                  go_quiet (fail)
                  go_wp2
                  exact bodyPost_ret (v := .tuple #[.string (bs []), .int .i64 0, .int .i64 0, .bool false]) (by simp [results, Try.results74, go_sem]; rfl) rfl ⟨by rw [HF.out]; rfl, bdrawN hI3.2.2 _⟩
              · have hST : S = L.take k := by
                  apply List.ext_getElem?
                  intro i
                  rw [List.getElem?_take]
                  split
                  · exact HEQ.out i (by omega)
                  · exact List.getElem?_eq_none (by rw [HSK.out]; omega)
                have hfin : joinS L least most = (cat L k, g, (k : Int), true) := by
                  rw [HJ2.out, if_pos ⟨HG2.out, by rw [HSP.out, ← hST]⟩]
                have HF := Lib.hid hfin; clear hfin hST
                have hjS' : ¬ (j : Int) < (S.length : Int) := by rw [HSK.out]; omega
                go_wp2
                go_quiet (fail)
                go_wp2
                exact bodyPost_ret (v := .tuple #[.string (bs (cat L k)), .int .i64 g, .int .i64 k, .bool true]) (by simp [results, Try.results74, go_sem]) rfl ⟨by rw [HF.out], bdrawN hI3.2.2 _⟩
          · have hfin : joinS L least most = joinFail := by
              rw [HJ2.out, if_neg]
              rintro ⟨_, h⟩
              rw [HSP.out] at h
              simp only [Prod.mk.injEq] at h
              exact h2 ⟨h.2, by rw [h.1, List.length_take]; omega⟩
            have HF := Lib.hid hfin; clear hfin
            by_cases e0 : er2 = 0
            · subst e0
              have hne : ((S.length : Int) != (k : Int)) = true := by rw [bne_iff_ne]; intro h; exact h2 ⟨rfl, by omega⟩
              clear h2
              go_wp2_with (go_at_call 89; refine (RSplit_any _ _ _ (by omega)).mono ?_; rw [HSP.out]; rintro e w2 ⟨v2, rfl, hown2, hb⟩; have hI2 := hI.call hb; clear hb hI a0 a1 a2; obtain ⟨a0, a1, a2⟩ := hI2.cells; have hz2 := lt_of_heap hI2.1; have hS2 := StrS.of_own hown2; clear hown2; obtain ⟨sa, sc, rfl, hsc, hscell⟩ := hS2; clear hscell)
              exact bodyPost_ret (v := .tuple #[.string (bs []), .int .i64 0, .int .i64 0, .bool false]) (by simp [results, Try.results74, go_sem]; rfl) rfl ⟨by rw [HF.out]; rfl, hI2.2.2⟩
            · have her : (er2 != 0) = true := by rw [bne_iff_ne]; exact e0
              clear h2 e0
              go_wp2_with (go_at_call 89; refine (RSplit_any _ _ _ (by omega)).mono ?_; rw [HSP.out]; rintro e w2 ⟨v2, rfl, hown2, hb⟩; have hI2 := hI.call hb; clear hb hI a0 a1 a2; obtain ⟨a0, a1, a2⟩ := hI2.cells; have hz2 := lt_of_heap hI2.1; have hS2 := StrS.of_own hown2; clear hown2; obtain ⟨sa, sc, rfl, hsc, hscell⟩ := hS2; clear hscell)
              exact bodyPost_ret (v := .tuple #[.string (bs []), .int .i64 0, .int .i64 0, .bool false]) (by simp [results, Try.results74, go_sem]; rfl) rfl ⟨by rw [HF.out]; rfl, hI2.2.2⟩
    · have hfin : joinS L least most = joinFail := by rw [HJ.out, if_neg hall]
      have HF := Lib.hid hfin
      have HALL := Lib.hid hall; clear hall hfin HJ
      go_enter Try.func74, Try.ntmps74
      by_cases e0 : er = 0
      · subst e0
        have h3 : g < least ∨ most < g ∨ (L.length : Int) < q := by have := HALL.out; omega
        clear HALL
        by_cases e1 : g < least
        · go_wp2_with (go_at_call 57; refine (ROpen_any _ _ HL0.out).mono ?_; rw [HO.out]; rintro e w1 ⟨rfl, hb⟩)
          exact bodyPost_ret (v := .tuple #[.string (bs []), .int .i64 0, .int .i64 0, .bool false]) (by simp [results, Try.results74, go_sem]; rfl) rfl ⟨by rw [HF.out]; rfl, hb.alloc hb.size _⟩
        · by_cases e2 : most < g
          · go_wp2_with (go_at_call 57; refine (ROpen_any _ _ HL0.out).mono ?_; rw [HO.out]; rintro e w1 ⟨rfl, hb⟩)
            exact bodyPost_ret (v := .tuple #[.string (bs []), .int .i64 0, .int .i64 0, .bool false]) (by simp [results, Try.results74, go_sem]; rfl) rfl ⟨by rw [HF.out]; rfl, hb.alloc hb.size _⟩
          · have e3 : (L.length : Int) < q := by omega
            clear h3
            go_wp2_with (go_at_call 57; refine (ROpen_any _ _ HL0.out).mono ?_; rw [HO.out]; rintro e w1 ⟨rfl, hb⟩)
            exact bodyPost_ret (v := .tuple #[.string (bs []), .int .i64 0, .int .i64 0, .bool false]) (by simp [results, Try.results74, go_sem]; rfl) rfl ⟨by rw [HF.out]; rfl, hb.alloc hb.size _⟩
      · have her : (er != 0) = true := by rw [bne_iff_ne]; exact e0
        clear e0
        go_wp2_with (go_at_call 57; refine (ROpen_any _ _ HL0.out).mono ?_; rw [HO.out]; rintro e w1 ⟨rfl, hb⟩)
        exact bodyPost_ret (v := .tuple #[.string (bs []), .int .i64 0, .int .i64 0, .bool false]) (by simp [results, Try.results74, go_sem]; rfl) rfl ⟨by rw [HF.out]; rfl, hb.alloc hb.size _⟩
end Go.Proofs.Ytkpfkknldeafkaa

