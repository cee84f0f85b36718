/- What sector's number, big, mark, ValidStamp and sealed return. No conditions but the numbers' own ranges. -/
import Derived.Test.YtkpfkknldeafkaaSecPlain
import Derived.Deep.DeepCutAuto
import Derived.ChangeAlike
import Derived.RegionTactic
import Derived.Deep.RegionHeld3
namespace Go.Proofs.Ytkpfkknldeafkaa
open Go.RowKit

theorem wrap64_u8 (c : UInt8) : wrap64 (c.toNat : Int) = (c.toNat : Int) := by
  have := c.toNat_lt; unfold wrap64; omega
set_option maxRecDepth 100000 in
theorem num_step (x : Nat) (c : UInt8) (hx : x < 281474976710656) : bits .or .i64 ((x : Int) * 256) (wrap64 (c.toNat : Int)) = ((numS x c : Nat) : Int) := by
  rw [wrap64_u8]
  have hc := c.toNat_lt
  have h1 : (BitVec.ofInt 64 ((256 * x : Nat) : Int)).toNat = 256 * x := by
    rw [BitVec.ofInt_natCast, BitVec.toNat_ofNat]; exact Nat.mod_eq_of_lt (by omega)
  have h2 : (BitVec.ofInt 64 (c.toNat : Int)).toNat = c.toNat := by
    rw [BitVec.ofInt_natCast, BitVec.toNat_ofNat]; exact Nat.mod_eq_of_lt (by omega)
  rw [show ((x : Int) * 256) = ((256 * x : Nat) : Int) by omega]
  show IntKind.i64.wrap ((BitVec.ofInt 64 ((256 * x : Nat) : Int) ||| BitVec.ofInt 64 (c.toNat : Int)).toNat : Int) = _
  have e := Nat.two_pow_add_eq_or_of_lt (i := 8) (b := c.toNat) (by omega) x
  rw [BitVec.toNat_or, h1, h2, show 256 * x = 2 ^ 8 * x from rfl, ← e, IntKind.wrap_i64]
  unfold numS
  omega

set_option maxRecDepth 100000 in
set_option maxHeartbeats 400000 in
theorem number_any (l : List UInt8) (w : World) (h : l.length ≤ 6) :
    Calls Try.prog 96 #[.string (bs l)] w fun e w' => e = .returned (.int .i64 (num l : Nat)) ∧ w = w' := by
  go_enter Try.func96, Try.ntmps96
  go_wp2
  go_loop [3, 7] (fun x i => ∃ (k n : Nat), k ≤ l.length ∧ i = .int .i64 k ∧ x = .int .i64 n ∧ n < 281474976710656 ∧ n = num (l.take k)) (fun _ i => l.length - (intOf i).toNat)
  case atStart => exact ⟨0, 0, Nat.zero_le _, rfl, rfl, by omega, by simp [num]⟩
  case round =>
    obtain ⟨k, n, hk, rfl, rfl, hn, hne⟩ := hrel
    have HN := Lib.hid hne; clear hne
    by_cases hlt : k < l.length
    · have H := Lib.hid (num_step n l[k] hn)
      go_wp2
      go_round
      case rel =>
        have e : num (l.take (k + 1)) = numS n l[k] := by rw [ltake_snoc l k hlt, num_snoc, ← HN.out]; rfl
        refine ⟨k + 1, num (l.take (k + 1)), by omega, by go_num, by rw [H.out, e], ?_, rfl⟩
        have := num_lt (l.take (k + 1))
        have h2 : (l.take (k + 1)).length ≤ 6 := by rw [List.length_take]; omega
        exact Nat.lt_of_lt_of_le this (Nat.pow_le_pow_right (n := 256) (by decide) h2)
      case measure => simp [intOf]; omega
    · go_wp2
      go_ret
      exact ⟨ret_int (by rw [HN.out, ltake_all l hlt]), rfl⟩

theorem big_byte (x : Int) (m : Nat) (h0 : 0 ≤ x) : x / 2 ^ (8 * m) % 256 = ((UInt8.ofNat (x.toNat / 256 ^ m)).toNat : Int) := by
  rw [show ((2 : Int) ^ (8 * m)) = ((256 ^ m : Nat) : Int) from by rw [Int.pow_mul]; simp]
  conv => lhs; rw [← Int.toNat_of_nonneg h0]
  simp only [UInt8.toNat_ofNat']
  omega

set_option maxRecDepth 100000 in
set_option maxHeartbeats 400000 in
theorem big_any (x n : Int) (w : World) (x0 : 0 ≤ x) (_x1 : x < 9223372036854775808) (n0 : 0 ≤ n) (hn : n ≤ 8) :
    Calls Try.prog 114 #[.int .i64 x, .int .i64 n] w fun e w' => e = .returned (.string (bs (be x.toNat n.toNat))) ∧ Below w.heap.size w w' := by
  obtain ⟨n, rfl⟩ := Int.eq_ofNat_of_zero_le n0
  rw [Int.toNat_natCast]
  go_enter Try.func114, Try.ntmps114
  go_wp2
  go_loopw [8] (fun c wr => ∃ (k : Nat) (C : Array Value), k ≤ n ∧ c = .int .i64 k ∧ C.size = 8 ∧ wr = w.alloc (.cells C 156) ∧ (∀ j, j < k → C[j]? = some (.int .u8 ((UInt8.ofNat (x.toNat / 256 ^ (n - 1 - j))).toNat : Int)))) (fun c _ => n - (intOf c).toNat)
  case atStart => exact ⟨0, _, Nat.zero_le _, rfl, rfl, rfl, fun j hj => absurd hj (Nat.not_lt_zero _)⟩
  case round =>
    obtain ⟨k, C, hk, rfl, hC, rfl, hcells⟩ := hrel
    have HC := Lib.hid hcells; clear hcells
    have HS := Lib.hid hC; clear hC
    by_cases hlt : k < n
    · have hC : k < C.size := by rw [HS.out]; omega
      go_wp2
      go_roundw
      case rel =>
        refine ⟨k + 1, _, by omega, by go_num, by rw [Array.size_setIfInBounds]; exact HS.out, rfl, ?_⟩
        intro j hj
        rw [Array.getElem?_setIfInBounds]
        by_cases hjk : k = j
        · subst hjk
          rw [if_pos rfl, if_pos hC, big_byte x _ x0]
        · rw [if_neg hjk]
          exact HC.out j (by omega)
      case measure => simp [intOf]; omega
    · have hkn : k = n := by omega
      have hcv := run_str_new (P := Try.prog) w C 156 81 9 (bs (be x.toNat n)) n 8
      have hcv : (convert 81 9 (.slice (some ⟨w.heap.size, 0, none⟩) n 8)).run Try.prog (w.alloc (.cells C 156)) = .ok (.string (bs (be x.toNat n))) (w.alloc (.cells C 156)) := by
        have hb : Lib.Bytes (w.alloc (.cells C 156)) w.heap.size 0 (bs (be x.toNat n)) := by
          intro i hi
          rw [World.cell?_alloc_at _ _ _ _ rfl, Nat.zero_add]
          have hi' : i < n := by rw [bs_size, be_length] at hi; exact hi
          rw [HC.out i (by omega), bs_get, be_get]
        have := Lib.run_convert_whole (P := Try.prog) _ 81 5 9 Try.underlying81 Try.underlying5 Try.underlying9 w.heap.size 0 (bs (be x.toNat n)) hb 8
        rwa [bs_size, be_length] at this
      have HK := Lib.hid hkn; clear hkn
      go_wp2
      go_ret
      exact ⟨rfl, (Below.refl _ _).alloc (Nat.le_refl _) _⟩

theorem cell_box (w : World) (C : Array Value) (T : TypeId) (j : Nat) : (w.alloc (.cells C T)).cell? ⟨w.heap.size, j, none⟩ = C[j]? := World.cell?_alloc_at _ _ _ _ rfl
theorem keep_draw {w W : World} {B : Nat} {a b : Addr} {u v : Value} (h : W.cell? a = some u ∧ W.cell? b = some v ∧ Below B w W) : W.drew.cell? a = some u ∧ W.drew.cell? b = some v ∧ Below B w W.drew := ⟨h.1, h.2.1, h.2.2.drew⟩
theorem mark_end {w W : World} {g p : Int} (h : W.cell? ⟨w.heap.size, 0, none⟩ = some (.int .i64 g) ∧ W.cell? ⟨w.heap.size, 1, none⟩ = some (.int .i64 p) ∧ Below w.heap.size w W) : Below w.heap.size w W := h.2.2
theorem keep_call {w W W' : World} {n i j : Nat} {u v : Value} (h : W.cell? ⟨n, i, none⟩ = some u ∧ W.cell? ⟨n, j, none⟩ = some v ∧ Below w.heap.size w W) (hb : Below W.heap.size W W') :
    W'.cell? ⟨n, i, none⟩ = some u ∧ W'.cell? ⟨n, j, none⟩ = some v ∧ Below w.heap.size w W' := by
  have hn : n < W.heap.size := World.block_lt_of_cell? W ⟨n, i, none⟩ h.1
  exact ⟨((bcell hb).1 n i hn).trans h.1, ((bcell hb).1 n j hn).trans h.2.1, btrans h.2.2 h.2.2.size hb⟩

set_option maxRecDepth 100000 in
set_option maxHeartbeats 1000000 in
theorem mark_any (g p q : Int) (w : World) (g0 : 0 ≤ g) (g1 : g < 9223372036854775808) (p0 : 0 ≤ p) (p1 : p < 9223372036854775808) :
    Calls Try.prog 113 #[.agg #[.int .i64 g, .int .i64 p, .int .i64 q]] w fun e w' => e = .returned (.string (bs (markL g.toNat p.toNat))) ∧ Below w.heap.size w w' := by
  have hS : (w.alloc (.cells #[.int .i64 g, .int .i64 p, .int .i64 q] 87)).cell? ⟨w.heap.size, 0, none⟩ = some (.int .i64 g) ∧ (w.alloc (.cells #[.int .i64 g, .int .i64 p, .int .i64 q] 87)).cell? ⟨w.heap.size, 1, none⟩ = some (.int .i64 p) ∧ Below w.heap.size w (w.alloc (.cells #[.int .i64 g, .int .i64 p, .int .i64 q] 87)) :=
    ⟨cell_box _ _ _ _, cell_box _ _ _ _, (Below.refl _ _).alloc (Nat.le_refl _) _⟩
  go_enter Try.func113, Try.ntmps113
  go_wp2
  go_region_held3 (fun w' => w'.cell? ⟨w.heap.size, 0, none⟩ = some (.int .i64 g) ∧ w'.cell? ⟨w.heap.size, 1, none⟩ = some (.int .i64 p) ∧ Below w.heap.size w w')
    (first | assumption | exact hS | exact keep_draw (by assumption) | exact keep_call (by assumption) (by assumption))
    ((go_at_call 114; refine (big_any _ _ _ (by omega) (by omega) (by decide) (by decide)).mono ?_; rintro e w' ⟨rfl, hb⟩))
  all_goals go_wp2
  all_goals go_ret
  all_goals exact ⟨rfl, mark_end (g := g) (p := p) (by assumption)⟩

def stampB (g p q : Int) : Bool := decide (1 ≤ g ∧ g ≤ 1099511627776 ∧ 1 ≤ q ∧ q ≤ 1024 ∧ 0 ≤ p ∧ p < q)
theorem stampB_iff (g p q : Int) : stampB g p q = true ↔ 1 ≤ g ∧ g ≤ 1099511627776 ∧ 1 ≤ q ∧ q ≤ 1024 ∧ 0 ≤ p ∧ p < q := by simp [stampB]
theorem stampB_no {g p q : Int} (h : ¬ (1 ≤ g ∧ g ≤ 1099511627776 ∧ 1 ≤ q ∧ q ≤ 1024 ∧ 0 ≤ p ∧ p < q)) : stampB g p q = false := by
  cases hb : stampB g p q with
  | false => rfl
  | true => exact absurd ((stampB_iff g p q).1 hb) h
theorem ret_bool {a b : Bool} (h : a = b) : Ending.returned (.bool a) = .returned (.bool b) := by rw [h]
set_option maxRecDepth 100000 in
set_option maxHeartbeats 400000 in
theorem ValidStamp_any (g p q : Int) (w : World) :
    Calls Try.prog 92 #[.agg #[.int .i64 g, .int .i64 p, .int .i64 q]] w fun e w' => e = .returned (.bool (stampB g p q)) ∧ Below w.heap.size w w' := by
  go_enter Try.func92, Try.ntmps92
  go_wp2
  all_goals go_ret
  all_goals refine ⟨ret_bool ?_, (Below.refl _ _).alloc (Nat.le_refl _) _⟩
  all_goals first
    | exact ((stampB_iff g p q).2 (by omega)).symm
    | exact Eq.symm (stampB_no (g := g) (p := p) (q := q) (by omega))
    | (show decide (p < q) = stampB g p q; rw [Bool.eq_iff_iff, stampB_iff, decide_eq_true_iff]; omega)
/-! ### sealed -/
/-- what sealed's own memory holds: the stamp and the array of bytes -/
def SInv (w : World) (g p q : Int) (L : List UInt8) (W : World) : Prop :=
  W.heap[w.heap.size]? = some (.cells #[.int .i64 g, .int .i64 p, .int .i64 q] 87 (0, 0)) ∧ RowB W (w.heap.size + 1) 146 L ∧ L.length = 64 ∧ Below w.heap.size w W
theorem SInv.drew {w W : World} {g p q : Int} {L : List UInt8} (h : SInv w g p q L W) : SInv w g p q L W.drew := ⟨h.1, h.2.1, h.2.2.1, h.2.2.2.drew⟩
theorem SInv.call {w W W' : World} {g p q : Int} {L : List UInt8} (h : SInv w g p q L W) (hb : Below W.heap.size W W') : SInv w g p q L W' := by
  have hl := h.2.1.lt
  exact ⟨(hb.block _ (by omega)).trans h.1, h.2.1.below hb hl, h.2.2.1, btrans h.2.2.2 h.2.2.2.size hb⟩
theorem SInv.copy {w W W' : World} {g p q : Int} {L : List UInt8} (h : SInv w g p q L W) {o : Nat} {l : List UInt8} (hfit : o + l.length ≤ L.length) (hr : RowB W' (w.heap.size + 1) 146 (splice L o l))
    (hB : ∀ B, B ≤ w.heap.size + 1 → ∀ w0, Below B w0 W → Below B w0 W') (hk : ∀ k, k ≠ w.heap.size + 1 → W'.heap[k]? = W.heap[k]?) : SInv w g p q (splice L o l) W' :=
  ⟨(hk _ (by omega)).trans h.1, hr, by rw [length_splice _ _ _ hfit]; exact h.2.2.1, hB _ (by omega) _ h.2.2.2⟩
theorem SInv.cells {w W : World} {g p q : Int} {L : List UInt8} (h : SInv w g p q L W) : W.cell? ⟨w.heap.size, 0, none⟩ = some (.int .i64 g) ∧ W.cell? ⟨w.heap.size, 1, none⟩ = some (.int .i64 p) ∧ W.cell? ⟨w.heap.size, 2, none⟩ = some (.int .i64 q) := by
  have h1 := h.1
  refine ⟨?_, ?_, ?_⟩ <;> simp [World.cell?, h1]
theorem SInv.store {w W : World} {g p q : Int} {L : List UInt8} (h : SInv w g p q L W) (j : Nat) (b : UInt8) : SInv w g p q (L.set j b) (W.setCell ⟨w.heap.size + 1, j, none⟩ (.int .u8 (b.toNat : Int))) :=
  ⟨by rw [heap_setCell_other _ _ _ _ (by simp)]; exact h.1, h.2.1.store j b, by rw [List.length_set]; exact h.2.2.1, h.2.2.2.setCell (by simp) _⟩
theorem SInv.row {w W : World} {g p q : Int} {L : List UInt8} (h : SInv w g p q L W) : RowB W (w.heap.size + 1) 146 L := h.2.1
theorem size_u8 : (Try.prog.info? 5).map (·.size) = some 1 := by kernel_rfl
set_option maxRecDepth 100000 in
theorem SInv.start (w : World) (g p q : Int) : SInv w g p q Z64 ((w.alloc (.cells #[.int .i64 g, .int .i64 p, .int .i64 q] 87)).alloc (.cells (bcs Z64).toArray 146)) := by
  refine ⟨?_, ?_, rfl, ((Below.refl _ _).alloc (Nat.le_refl _) _).alloc (by simp) _⟩
  · show ((w.heap.push _).push _)[w.heap.size]? = _
    simp only [Array.getElem?_push, Array.size_push]
    rw [if_neg (by omega), if_pos trivial]
  · show ((w.heap.push _).push _)[w.heap.size + 1]? = _
    simp only [Array.getElem?_push, Array.size_push]
    rw [if_pos trivial]
theorem z64_cells : (#[.int .u8 0, .int .u8 0, .int .u8 0, .int .u8 0, .int .u8 0, .int .u8 0, .int .u8 0, .int .u8 0, .int .u8 0, .int .u8 0, .int .u8 0, .int .u8 0, .int .u8 0, .int .u8 0, .int .u8 0, .int .u8 0, .int .u8 0, .int .u8 0, .int .u8 0, .int .u8 0, .int .u8 0, .int .u8 0, .int .u8 0, .int .u8 0, .int .u8 0, .int .u8 0, .int .u8 0, .int .u8 0, .int .u8 0, .int .u8 0, .int .u8 0, .int .u8 0, .int .u8 0, .int .u8 0, .int .u8 0, .int .u8 0, .int .u8 0, .int .u8 0, .int .u8 0, .int .u8 0, .int .u8 0, .int .u8 0, .int .u8 0, .int .u8 0, .int .u8 0, .int .u8 0, .int .u8 0, .int .u8 0, .int .u8 0, .int .u8 0, .int .u8 0, .int .u8 0, .int .u8 0, .int .u8 0, .int .u8 0, .int .u8 0, .int .u8 0, .int .u8 0, .int .u8 0, .int .u8 0, .int .u8 0, .int .u8 0, .int .u8 0, .int .u8 0] : Array Value) = (bcs Z64).toArray := rfl

set_option maxRecDepth 100000 in
set_option maxHeartbeats 1000000 in
theorem sealed_any (g p q : Int) (l : List UInt8) (w : World) (g0 : 0 ≤ g) (g1 : g < 9223372036854775808) (p0 : 0 ≤ p) (p1 : p < 9223372036854775808) (q0 : 0 ≤ q) (q1 : q < 9223372036854775808) (hl : l.length ≤ 40) :
    Calls Try.prog 93 #[.agg #[.int .i64 g, .int .i64 p, .int .i64 q], .string (bs l)] w fun e w' => e = .returned (.string (bs (sealedL g.toNat p.toNat q.toNat l))) ∧ Below w.heap.size w w' := by
  have hs0 := SInv.start w g p q
  go_enter Try.func93, Try.ntmps93
  go_upto_region 2 with (fail)
  rw [z64_cells]
  go_cut [] (fun wx => SInv w g p q (L1 g.toNat p.toNat) wx)
  case first =>
    have hc := hs0.cells
    go_region_law (first
      | (refine step_copy_bytes rfl (.tmp 8) (.tmp 10) 81 9 rfl 5 Try.underlying81 size_u8 (w.heap.size + 1) 0 8 64 (markL g.toNat p.toNat) rfl rfl 146 Z64 (SInv.row (by assumption)) (by rw [markL_length]; omega) (by rw [markL_length]; decide) ?_; intro w2 hr hB hk)
      | (go_simp; go_at_call 113; refine (mark_any _ _ _ _ g0 g1 p0 p1).mono ?_; rintro e w1 ⟨rfl, hb⟩; have hs1 := hs0.drew.call hb))
    have hs2 := hs1.copy (by rw [markL_length]; decide) hr hB hk
    rw [step1] at hs2
    go_wp2_with fail
    go_meet
    exact hs2
  case rest =>
    clear hs0
    go_upto_region 3 with (fail)
    go_cut [] (fun wx => SInv w g p q (L2 g.toNat p.toNat q.toNat) wx)
    case first =>
      have hc := hcut.cells
      go_region_law (first
        | (refine step_copy_bytes rfl (.tmp 12) (.tmp 15) 81 9 rfl 5 Try.underlying81 size_u8 (w.heap.size + 1) 8 2 56 (be q.toNat 2) rfl rfl 146 (L1 g.toNat p.toNat) (SInv.row (by assumption)) (by rw [be_length]; omega) (by rw [be_length, L1_length]; decide) ?_; intro w2 hr hB hk)
        | (go_simp; go_at_call 114; refine (big_any _ _ _ q0 q1 (by decide) (by decide)).mono ?_; rintro e w1 ⟨rfl, hb⟩; have hs1 := hcut.drew.call hb))
      have hs2 := hs1.copy (by rw [be_length, L1_length]; decide) hr hB hk
      rw [step2] at hs2
      go_wp2_with fail
      go_meet
      exact hs2
    case rest =>
      go_upto_region 4 with (fail)
      go_cut [] (fun wx => SInv w g p q (L3 g.toNat p.toNat q.toNat l.length) wx)
      case first =>
        have hc := hcut.cells
        have hl' : (l.length : Int) ≤ 40 := by omega
        go_region_law (first
          | (refine step_copy_bytes rfl (.tmp 17) (.tmp 20) 81 9 rfl 5 Try.underlying81 size_u8 (w.heap.size + 1) 10 2 54 (be l.length 2) rfl rfl 146 (L2 g.toNat p.toNat q.toNat) (SInv.row (by assumption)) (by rw [be_length]; omega) (by rw [be_length, L2_length]; decide) ?_; intro w2 hr hB hk)
          | (go_simp; go_at_call 114; refine (big_any _ _ _ (by omega) (by omega) (by decide) (by decide)).mono ?_; rintro e w1 ⟨rfl, hb⟩; have hs1 := hcut.drew.call hb))
        have hs2 := hs1.copy (by rw [be_length, L2_length]; decide) hr hB hk
        rw [step3] at hs2
        go_wp2_with fail
        go_meet
        exact hs2
      case rest =>
        go_upto_region 5 with (fail)
        go_cut [] (fun wx => SInv w g p q (L4 g.toNat p.toNat q.toNat l) wx)
        case first =>
          go_wp2_with (with_reducible refine wpList_copy_bytes rfl (.tmp 22) (.tmp 23) 81 9 rfl 5 Try.underlying81 size_u8 (w.heap.size + 1) 16 40 48 l rfl rfl 146 (L3 g.toNat p.toNat q.toNat l.length) hcut.row hl (by rw [L3_length]; omega) ?_; intro w2 hr hB hk)
          have hs2 := hcut.copy (by rw [L3_length]; omega) hr hB hk
          rw [step4 _ _ _ _ hl] at hs2
          go_meet
          exact hs2
        case rest =>
          go_upto_region 6 with (fail)
          go_cut [] (fun wx => SInv w g p q (L5 g.toNat p.toNat q.toNat l) wx)
          case first =>
            have hc := hcut.cells
            have hlen := L4_length g.toNat p.toNat q.toNat l hl
            have HL := Lib.hid hlen; clear hlen
            go_region_law (first
              | (refine step_copy_bytes rfl (.tmp 25) (.tmp 27) 81 9 rfl 5 Try.underlying81 size_u8 (w.heap.size + 1) 56 8 8 (markL g.toNat p.toNat) rfl rfl 146 (L4 g.toNat p.toNat q.toNat l) (SInv.row (by assumption)) (by rw [markL_length]; omega) (by rw [markL_length, HL.out]; decide) ?_; intro w2 hr hB hk)
              | (go_simp; go_at_call 113; refine (mark_any _ _ _ _ g0 g1 p0 p1).mono ?_; rintro e w1 ⟨rfl, hb⟩; have hs1 := hcut.drew.call hb))
            have hs2 := hs1.copy (by rw [markL_length, HL.out]; decide) hr hB hk
            rw [step5 _ _ _ _ hl] at hs2
            go_wp2_with fail
            go_meet
            exact hs2
          case rest =>
            go_upto_region 7 with (fail)
            go_cut [6] (fun s6 wx => SInv w g p q (L5 g.toNat p.toNat q.toNat l) wx ∧ s6 = .int .u32 (crc (headL g.toNat p.toNat q.toNat l.length ++ bodyL l) : Nat))
            case first =>
              have hlen := L5_length g.toNat p.toNat q.toNat l hl
              have c1 := hcut.drew.row.conv (P := Try.prog) 81 5 9 Try.underlying81 Try.underlying5 Try.underlying9 0 12 64 (by rw [hlen]; omega)
              have c2 := hcut.drew.row.conv (P := Try.prog) 81 5 9 Try.underlying81 Try.underlying5 Try.underlying9 16 40 48 (by rw [hlen]; omega)
              rw [L5_head] at c1
              rw [L5_body _ _ _ _ hl] at c2
              have hbl := bodyL_length l hl
              have hbl1 : (bodyL l).length ≤ 40 := by omega
              have HM := Lib.hid (show (headL g.toNat p.toNat q.toNat l.length ++ bodyL l).length ≤ maxLen by rw [List.length_append, headL_length, hbl]; decide)
              have hbl3 : ¬ 9223372036854775807 < 12 + (bodyL l).length := by omega
              clear hlen hbl
              go_region_law (first
                | (go_simp; go_at_call 115; refine (CRC_any _ _ HM.out).mono ?_; rintro e w1 ⟨rfl, rfl⟩))
              all_goals go_wp2_with fail
              all_goals go_meet
              all_goals exact ⟨hcut.drew, rfl⟩
            case rest =>
              obtain ⟨hS, rfl⟩ := hcut
              rw [← L6_zero] at hS
              have hcr := crc_lt (headL g.toNat p.toNat q.toNat l.length ++ bodyL l)
              obtain ⟨sum, hsum⟩ : ∃ sum, sum = crc (headL g.toNat p.toNat q.toNat l.length ++ bodyL l) := ⟨_, rfl⟩
              rw [← hsum]
              rw [← hsum] at hcr
              have HSUM := Lib.hid hsum; clear hsum
              go_wp2
              go_loopw [35] (fun c wr => ∃ (k : Nat), k ≤ 4 ∧ c = .int .i64 k ∧ SInv w g p q (L6 g.toNat p.toNat q.toNat l k) wr) (fun c _ => 4 - (intOf c).toNat)
              case atStart => exact ⟨0, Nat.zero_le _, rfl, hS⟩
              case round =>
                obtain ⟨k, hk, rfl, hS⟩ := hrel
                have hlen := L6_length g.toNat p.toNat q.toNat l hl k hk
                by_cases hlt : k < 4
                · have hcell := hS.row.cell (12 + k) (by rw [hlen]; omega)
                  have hfz := hS.row.frozen (12 + k)
                  obtain ⟨v, hv⟩ : ∃ v : Value, wr.cell? ⟨w.heap.size + 1, 12 + k, none⟩ = some v := ⟨_, hcell⟩
                  clear hcell hlen
                  have hb := Lib.hid (big_byte (sum : Int) k (by omega))
                  go_wp2
                  go_roundw
                  case rel =>
                    have hst := hS.store (12 + k) (UInt8.ofNat (sum / 256 ^ k))
                    rw [HSUM.out, L6_succ _ _ _ _ _ hlt, ← HSUM.out] at hst
                    refine ⟨k + 1, by omega, by go_num, ?_⟩
                    rw [hb.out, Int.toNat_natCast]
                    exact hst
                  case measure => simp [intOf]; omega
                · obtain rfl : k = 4 := by omega
                  have hcv := hS.row.conv (P := Try.prog) 81 5 9 Try.underlying81 Try.underlying5 Try.underlying9 0 64 64 (by rw [hlen]; omega)
                  rw [L6_four, List.drop_zero, List.take_of_length_le (by rw [sealedL_length _ _ _ _ hl]; omega)] at hcv
                  clear hlen
                  go_wp2
                  go_ret
                  exact ⟨rfl, hS.2.2.2⟩
end Go.Proofs.Ytkpfkknldeafkaa
