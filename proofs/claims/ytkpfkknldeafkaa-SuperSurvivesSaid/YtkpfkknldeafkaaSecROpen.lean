/- What the reference's Open of layer 45 returns. No conditions but the numbers' own ranges. -/
import Derived.Test.YtkpfkknldeafkaaSecRef3
import Derived.Test.YtkpfkknldeafkaaRegion
import Derived.Deep.QuietTactic
import Derived.BigQuiet
namespace Go.Proofs.Ytkpfkknldeafkaa
open Go.RowKit

set_option maxRecDepth 100000 in
theorem fields_of2 (l : List UInt8) (h : 64 ≤ l.length) (g p q n : Nat) (hg : g = num (l.take 6)) (hp : p = num ((l.take 8).drop 6)) (hq : q = num ((l.take 10).drop 8)) (hn : n = num ((l.take 12).drop 10)) :
    openS l = (if stampB g p q = true ∧ n ≤ 40 then (if sealedL g p q ((l.drop 16).take n) = l then (((g : Int), (p : Int), (q : Int)), (l.drop 16).take n, (0 : Int)) else ((0, 0, 0), [], 20)) else ((0, 0, 0), [], 20)) := by
  rcases Nat.lt_or_ge 64 l.length with h1 | h1
  · have e : openS l = ((0, 0, 0), [], 20) := by unfold openS; rw [if_neg (by omega), if_pos h1]
    rw [e]
    split
    · next h2 =>
      rw [if_neg]
      intro h3
      have := sealedL_length g p q ((l.drop 16).take n) (by rw [List.length_take]; omega)
      rw [h3] at this; omega
    · rfl
  · exact fields_of l (by omega) g p q n hg hp hq hn

/-- the three cells of the stamp that Open read, and Open's own memory -/
def Three (w : World) (g p q : Int) (W : World) : Prop :=
  W.cell? ⟨w.heap.size + 1, 0, none⟩ = some (.int .i64 g) ∧ W.cell? ⟨w.heap.size + 1, 1, none⟩ = some (.int .i64 p) ∧ W.cell? ⟨w.heap.size + 1, 2, none⟩ = some (.int .i64 q)
theorem Two.drew {w W : World} {g p q : Int} (h : Two w g p q W) : Two w g p q W.drew := ⟨h.1, h.2.1, h.2.2.drew⟩
theorem keepT_mk {w W : World} {g p q : Int} (h : Two w g p q W) : W.cell? ⟨w.heap.size + 1, 0, none⟩ = some (.int .i64 g) ∧ W.cell? ⟨w.heap.size + 1, 1, none⟩ = some (.int .i64 p) ∧ W.cell? ⟨w.heap.size + 1, 2, none⟩ = some (.int .i64 q) ∧ Two w g p q W := by
  obtain ⟨_, ⟨a, b, c⟩, _⟩ := h.cells
  exact ⟨a, b, c, h⟩
theorem keepT_draw {w W : World} {g p q : Int} (h : W.cell? ⟨w.heap.size + 1, 0, none⟩ = some (.int .i64 g) ∧ W.cell? ⟨w.heap.size + 1, 1, none⟩ = some (.int .i64 p) ∧ W.cell? ⟨w.heap.size + 1, 2, none⟩ = some (.int .i64 q) ∧ Two w g p q W) :
    W.drew.cell? ⟨w.heap.size + 1, 0, none⟩ = some (.int .i64 g) ∧ W.drew.cell? ⟨w.heap.size + 1, 1, none⟩ = some (.int .i64 p) ∧ W.drew.cell? ⟨w.heap.size + 1, 2, none⟩ = some (.int .i64 q) ∧ Two w g p q W.drew := keepT_mk h.2.2.2.drew
theorem keepT_call {w W W' : World} {g p q : Int} (h : W.cell? ⟨w.heap.size + 1, 0, none⟩ = some (.int .i64 g) ∧ W.cell? ⟨w.heap.size + 1, 1, none⟩ = some (.int .i64 p) ∧ W.cell? ⟨w.heap.size + 1, 2, none⟩ = some (.int .i64 q) ∧ Two w g p q W) (hb : Below W.heap.size W W') :
    W'.cell? ⟨w.heap.size + 1, 0, none⟩ = some (.int .i64 g) ∧ W'.cell? ⟨w.heap.size + 1, 1, none⟩ = some (.int .i64 p) ∧ W'.cell? ⟨w.heap.size + 1, 2, none⟩ = some (.int .i64 q) ∧ Two w g p q W' := keepT_mk (h.2.2.2.call hb)
theorem keepT_two {w W : World} {g p q : Int} (h : W.cell? ⟨w.heap.size + 1, 0, none⟩ = some (.int .i64 g) ∧ W.cell? ⟨w.heap.size + 1, 1, none⟩ = some (.int .i64 p) ∧ W.cell? ⟨w.heap.size + 1, 2, none⟩ = some (.int .i64 q) ∧ Two w g p q W) : Two w g p q W := h.2.2.2
theorem num6 (l : List UInt8) (h : l.length ≤ 6) : num l < 281474976710656 := Nat.lt_of_lt_of_le (num_lt l) (Nat.pow_le_pow_right (n := 256) (by decide) h)

set_option maxRecDepth 100000 in
set_option maxHeartbeats 400000 in
theorem ROpen_short (l : List UInt8) (w : World) (h1 : l.length < 64) :
    Calls Try.prog 57 #[.string (bs l)] w fun e w' =>
      e = .returned (.tuple #[.agg #[.int .i64 (openS l).1.1, .int .i64 (openS l).1.2.1, .int .i64 (openS l).1.2.2], .string (bs (openS l).2.1), .int .i64 (openS l).2.2]) ∧ Below w.heap.size w w' := by
  have hfin : openS l = ((0, 0, 0), [], 6) := by unfold openS; rw [if_pos h1]
  rw [hfin]
  clear hfin
  go_enter Try.func57, Try.ntmps57
  go_wp2
  exact bodyPost_ret (v := .tuple #[.agg #[.int .i64 0, .int .i64 0, .int .i64 0], .string (bs []), .int .i64 6]) (by simp [results, Try.results57, go_sem]; rfl) rfl ⟨rfl, (Below.refl _ _).alloc (Nat.le_refl _) _⟩
set_option maxRecDepth 100000 in
set_option maxHeartbeats 8000000 in
theorem ROpen_eq (l : List UInt8) (w : World) (hl : l.length ≤ 9223372036854775807) (h1 : ¬ l.length < 64) (hv : stampB (num (l.take 6)) (num ((l.take 8).drop 6)) (num ((l.take 10).drop 8)) = true) (hn : num ((l.take 12).drop 10) ≤ 40) (hq : sealedL (num (l.take 6)) (num ((l.take 8).drop 6)) (num ((l.take 10).drop 8)) ((l.drop 16).take (num ((l.take 12).drop 10))) = l) :
    Calls Try.prog 57 #[.string (bs l)] w fun e w' =>
      e = .returned (.tuple #[.agg #[.int .i64 (openS l).1.1, .int .i64 (openS l).1.2.1, .int .i64 (openS l).1.2.2], .string (bs (openS l).2.1), .int .i64 (openS l).2.2]) ∧ Below w.heap.size w w' := by
  have H0v := Lib.hid hv; clear hv
  have H0n := Lib.hid hn; clear hn
  have H0q := Lib.hid hq; clear hq
  go_enter Try.func57, Try.ntmps57
  go_upto_region 3 with (fail)
  have L6 : (l.take 6).length ≤ 6 := by rw [List.length_take]; omega
  have L8 : ((l.take 8).drop 6).length ≤ 6 := by rw [List.length_drop, List.length_take]; omega
  have L10 : ((l.take 10).drop 8).length ≤ 6 := by rw [List.length_drop, List.length_take]; omega
  have L12 : ((l.take 12).drop 10).length ≤ 6 := by rw [List.length_drop, List.length_take]; omega
  have i6 : (6 : Int) ≤ l.length := by omega
  have i8 : (8 : Int) ≤ l.length := by omega
  have i10 : (10 : Int) ≤ l.length := by omega
  have i12 : (12 : Int) ≤ l.length := by omega
  obtain ⟨g, hg⟩ : ∃ g, g = num (l.take 6) := ⟨_, rfl⟩
  obtain ⟨p, hp⟩ : ∃ p, p = num ((l.take 8).drop 6) := ⟨_, rfl⟩
  obtain ⟨q, hq0⟩ : ∃ q, q = num ((l.take 10).drop 8) := ⟨_, rfl⟩
  obtain ⟨n, hn0⟩ : ∃ n, n = num ((l.take 12).drop 10) := ⟨_, rfl⟩
  have hv := H0v.out; clear H0v
  have hn := H0n.out; clear H0n
  have hq := H0q.out; clear H0q
  rw [← hg, ← hp, ← hq0] at hv
  rw [← hn0] at hn
  rw [← hg, ← hp, ← hq0, ← hn0] at hq
  have bg : g < 281474976710656 := by rw [hg]; exact num6 _ L6
  have bp : p < 281474976710656 := by rw [hp]; exact num6 _ L8
  have bq : q < 281474976710656 := by rw [hq0]; exact num6 _ L10
  have bn : n < 281474976710656 := by rw [hn0]; exact num6 _ L12
  have wg : IntKind.i64.wrap (g : Int) = (g : Int) := by rw [IntKind.wrap_i64]; omega
  have wp : IntKind.i64.wrap (p : Int) = (p : Int) := by rw [IntKind.wrap_i64]; omega
  have wq : IntKind.i64.wrap (q : Int) = (q : Int) := by rw [IntKind.wrap_i64]; omega
  have H6 := Lib.hid L6; clear L6
  have H8 := Lib.hid L8; clear L8
  have H10 := Lib.hid L10; clear L10
  have H12 := Lib.hid L12; clear L12
  have HG := Lib.hid hg; clear hg
  have HP := Lib.hid hp; clear hp
  have HQ := Lib.hid hq0; clear hq0
  have HNN := Lib.hid hn0; clear hn0
  go_cut [5] (fun s5 wx => s5 = .pointer (some ⟨w.heap.size + 1, 0, none⟩) ∧ wx = ((w.alloc (.cells #[.int .i64 0, .int .i64 0, .int .i64 0] 87)).alloc (.cells #[.int .i64 g, .int .i64 p, .int .i64 q] 87)).drew)
  case first =>
    go_region_law (first
      | (go_simp; go_at_call 98; refine (Rvalue_any _ _ (by first | exact H6.out | exact H8.out | exact H10.out)).mono ?_; (first | rw [← HG.out] | rw [← HP.out] | rw [← HQ.out]); rintro e w1 ⟨rfl, rfl⟩))
    all_goals go_wp2_with fail
    all_goals go_meet
    all_goals exact ⟨rfl, rfl⟩
  case rest =>
    obtain ⟨rfl, rfl⟩ := hcut
    have hfld := fields_of2 l (by omega) g p q n HG.out HP.out HQ.out HNN.out
    have HF := Lib.hid hfld; clear hfld
    have hT := Two.start w g p q
    have hdr : (l.take (16 + n)).drop 16 = (l.drop 16).take n := by rw [List.drop_take, show 16 + n - 16 = n by omega]
    have HDR := Lib.hid hdr; clear hdr
    clear wg wp wq bg bp bq i6 i8 i10
    have HS := Lib.hid hv; clear hv
    have HB := Lib.hid (stamp_bounds HS.out)
    have hdl : ((l.take (16 + n)).drop 16).length ≤ 40 := by rw [HDR.out, List.length_take]; omega
    have HDL := Lib.hid hdl; clear hdl
    have i16 : (16 : Int) + n ≤ l.length := by omega
    have hfin : openS l = (((g : Int), (p : Int), (q : Int)), (l.drop 16).take n, (0 : Int)) := by rw [HF.out, if_pos ⟨HS.out, hn⟩, if_pos hq]
    have hc : (sealedL g p q ((l.take (16 + n)).drop 16) == l) = true := by rw [HDR.out]; simpa using hq
    have HFIN := Lib.hid hfin; clear hfin hq HF
    go_upto_region 5 with (go_at_call 98; refine (Rvalue_any _ _ H12.out).mono ?_; rw [← HNN.out]; rintro e w1 ⟨rfl, rfl⟩)
    have hs3 := keepT_mk hT
    have hgd : decide ((40 : Int) < (n : Int)) = false := by rw [decide_eq_false_iff_not]; omega
    have hw16 : IntKind.i64.wrap (16 + (n : Int)) = 16 + (n : Int) := by rw [IntKind.wrap_i64]; omega
    have h016 : (16 : Int) ≤ 16 + (n : Int) := by omega
    have h017 : (0 : Int) ≤ 16 + (n : Int) := by omega
    go_cut [44] (fun s44 wx => s44 = .bool false ∧ Two w g p q wx)
    case first =>
      go_region_held3 (fun w' => w'.cell? ⟨w.heap.size + 1, 0, none⟩ = some (.int .i64 g) ∧ w'.cell? ⟨w.heap.size + 1, 1, none⟩ = some (.int .i64 p) ∧ w'.cell? ⟨w.heap.size + 1, 2, none⟩ = some (.int .i64 q) ∧ Two w g p q w')
        (first | assumption | exact hs3 | exact keepT_draw (by assumption) | exact keepT_call (by assumption) (by assumption))
        (first
          | (go_at_call 94; refine (RValidStamp_any _ _ _ _).mono ?_; rw [HS.out]; rintro e w' ⟨rfl, hb⟩)
          | (go_at_call 95; refine (Rsealed_any _ _ _ _ _ HB.out.1 HB.out.2.1 HB.out.2.2.1 HB.out.2.2.2.1 HB.out.2.2.2.2.1 HB.out.2.2.2.2.2 HDL.out).mono ?_; rintro e w' ⟨rfl, hb⟩))
      all_goals go_wp2_with fail
      all_goals go_meet
      all_goals exact ⟨rfl, keepT_two (by assumption)⟩
    case rest =>
      obtain ⟨rfl, hT2⟩ := hcut
      clear hs3 hT
      obtain ⟨⟨a0, a1, a2⟩, ⟨b0, b1, b2⟩, ⟨f0, f1, f2⟩⟩ := hT2.cells
      go_upto_region 7 with (fail)
      go_region
      all_goals go_wp2_with fail
      all_goals exact bodyPost_ret (v := .tuple #[.agg #[.int .i64 (g : Int), .int .i64 (p : Int), .int .i64 (q : Int)], .string (bs ((l.take (16 + n)).drop 16)), .int .i64 0]) (by simp [results, Try.results57, go_sem, a0, a1, a2]) rfl ⟨by rw [HFIN.out]; rw [HDR.out], (((hT2.2.2.setCell (Nat.le_refl _) _).setCell (Nat.le_refl _) _).setCell (Nat.le_refl _) _).drew⟩
set_option maxRecDepth 100000 in
set_option maxHeartbeats 8000000 in
theorem ROpen_ne (l : List UInt8) (w : World) (hl : l.length ≤ 9223372036854775807) (h1 : ¬ l.length < 64) (hv : stampB (num (l.take 6)) (num ((l.take 8).drop 6)) (num ((l.take 10).drop 8)) = true) (hn : num ((l.take 12).drop 10) ≤ 40) (hq : ¬ sealedL (num (l.take 6)) (num ((l.take 8).drop 6)) (num ((l.take 10).drop 8)) ((l.drop 16).take (num ((l.take 12).drop 10))) = l) :
    Calls Try.prog 57 #[.string (bs l)] w fun e w' =>
      e = .returned (.tuple #[.agg #[.int .i64 (openS l).1.1, .int .i64 (openS l).1.2.1, .int .i64 (openS l).1.2.2], .string (bs (openS l).2.1), .int .i64 (openS l).2.2]) ∧ Below w.heap.size w w' := by
  have H0v := Lib.hid hv; clear hv
  have H0n := Lib.hid hn; clear hn
  have H0q := Lib.hid hq; clear hq
  go_enter Try.func57, Try.ntmps57
  go_upto_region 3 with (fail)
  have L6 : (l.take 6).length ≤ 6 := by rw [List.length_take]; omega
  have L8 : ((l.take 8).drop 6).length ≤ 6 := by rw [List.length_drop, List.length_take]; omega
  have L10 : ((l.take 10).drop 8).length ≤ 6 := by rw [List.length_drop, List.length_take]; omega
  have L12 : ((l.take 12).drop 10).length ≤ 6 := by rw [List.length_drop, List.length_take]; omega
  have i6 : (6 : Int) ≤ l.length := by omega
  have i8 : (8 : Int) ≤ l.length := by omega
  have i10 : (10 : Int) ≤ l.length := by omega
  have i12 : (12 : Int) ≤ l.length := by omega
  obtain ⟨g, hg⟩ : ∃ g, g = num (l.take 6) := ⟨_, rfl⟩
  obtain ⟨p, hp⟩ : ∃ p, p = num ((l.take 8).drop 6) := ⟨_, rfl⟩
  obtain ⟨q, hq0⟩ : ∃ q, q = num ((l.take 10).drop 8) := ⟨_, rfl⟩
  obtain ⟨n, hn0⟩ : ∃ n, n = num ((l.take 12).drop 10) := ⟨_, rfl⟩
  have hv := H0v.out; clear H0v
  have hn := H0n.out; clear H0n
  have hq := H0q.out; clear H0q
  rw [← hg, ← hp, ← hq0] at hv
  rw [← hn0] at hn
  rw [← hg, ← hp, ← hq0, ← hn0] at hq
  have bg : g < 281474976710656 := by rw [hg]; exact num6 _ L6
  have bp : p < 281474976710656 := by rw [hp]; exact num6 _ L8
  have bq : q < 281474976710656 := by rw [hq0]; exact num6 _ L10
  have bn : n < 281474976710656 := by rw [hn0]; exact num6 _ L12
  have wg : IntKind.i64.wrap (g : Int) = (g : Int) := by rw [IntKind.wrap_i64]; omega
  have wp : IntKind.i64.wrap (p : Int) = (p : Int) := by rw [IntKind.wrap_i64]; omega
  have wq : IntKind.i64.wrap (q : Int) = (q : Int) := by rw [IntKind.wrap_i64]; omega
  have H6 := Lib.hid L6; clear L6
  have H8 := Lib.hid L8; clear L8
  have H10 := Lib.hid L10; clear L10
  have H12 := Lib.hid L12; clear L12
  have HG := Lib.hid hg; clear hg
  have HP := Lib.hid hp; clear hp
  have HQ := Lib.hid hq0; clear hq0
  have HNN := Lib.hid hn0; clear hn0
  go_cut [5] (fun s5 wx => s5 = .pointer (some ⟨w.heap.size + 1, 0, none⟩) ∧ wx = ((w.alloc (.cells #[.int .i64 0, .int .i64 0, .int .i64 0] 87)).alloc (.cells #[.int .i64 g, .int .i64 p, .int .i64 q] 87)).drew)
  case first =>
    go_region_law (first
      | (go_simp; go_at_call 98; refine (Rvalue_any _ _ (by first | exact H6.out | exact H8.out | exact H10.out)).mono ?_; (first | rw [← HG.out] | rw [← HP.out] | rw [← HQ.out]); rintro e w1 ⟨rfl, rfl⟩))
    all_goals go_wp2_with fail
    all_goals go_meet
    all_goals exact ⟨rfl, rfl⟩
  case rest =>
    obtain ⟨rfl, rfl⟩ := hcut
    have hfld := fields_of2 l (by omega) g p q n HG.out HP.out HQ.out HNN.out
    have HF := Lib.hid hfld; clear hfld
    have hT := Two.start w g p q
    have hdr : (l.take (16 + n)).drop 16 = (l.drop 16).take n := by rw [List.drop_take, show 16 + n - 16 = n by omega]
    have HDR := Lib.hid hdr; clear hdr
    clear wg wp wq bg bp bq i6 i8 i10
    have HS := Lib.hid hv; clear hv
    have HB := Lib.hid (stamp_bounds HS.out)
    have hdl : ((l.take (16 + n)).drop 16).length ≤ 40 := by rw [HDR.out, List.length_take]; omega
    have HDL := Lib.hid hdl; clear hdl
    have i16 : (16 : Int) + n ≤ l.length := by omega
    have hfin : openS l = ((0, 0, 0), [], 20) := by rw [HF.out, if_pos ⟨HS.out, hn⟩, if_neg hq]
    have hc : (sealedL g p q ((l.take (16 + n)).drop 16) == l) = false := by rw [HDR.out]; simpa using hq
    have HFIN := Lib.hid hfin; clear hfin hq HF
    go_upto_region 5 with (go_at_call 98; refine (Rvalue_any _ _ H12.out).mono ?_; rw [← HNN.out]; rintro e w1 ⟨rfl, rfl⟩)
    have hs3 := keepT_mk hT
    have hgd : decide ((40 : Int) < (n : Int)) = false := by rw [decide_eq_false_iff_not]; omega
    have hw16 : IntKind.i64.wrap (16 + (n : Int)) = 16 + (n : Int) := by rw [IntKind.wrap_i64]; omega
    have h016 : (16 : Int) ≤ 16 + (n : Int) := by omega
    have h017 : (0 : Int) ≤ 16 + (n : Int) := by omega
    go_cut [44] (fun s44 wx => s44 = .bool true ∧ Two w g p q wx)
    case first =>
      go_region_held3 (fun w' => w'.cell? ⟨w.heap.size + 1, 0, none⟩ = some (.int .i64 g) ∧ w'.cell? ⟨w.heap.size + 1, 1, none⟩ = some (.int .i64 p) ∧ w'.cell? ⟨w.heap.size + 1, 2, none⟩ = some (.int .i64 q) ∧ Two w g p q w')
        (first | assumption | exact hs3 | exact keepT_draw (by assumption) | exact keepT_call (by assumption) (by assumption))
        (first
          | (go_at_call 94; refine (RValidStamp_any _ _ _ _).mono ?_; rw [HS.out]; rintro e w' ⟨rfl, hb⟩)
          | (go_at_call 95; refine (Rsealed_any _ _ _ _ _ HB.out.1 HB.out.2.1 HB.out.2.2.1 HB.out.2.2.2.1 HB.out.2.2.2.2.1 HB.out.2.2.2.2.2 HDL.out).mono ?_; rintro e w' ⟨rfl, hb⟩))
      all_goals go_wp2_with fail
      all_goals go_meet
      all_goals exact ⟨rfl, keepT_two (by assumption)⟩
    case rest =>
      obtain ⟨rfl, hT2⟩ := hcut
      clear hs3 hT
      obtain ⟨⟨a0, a1, a2⟩, ⟨b0, b1, b2⟩, ⟨f0, f1, f2⟩⟩ := hT2.cells
      go_wp2_with fail
      exact bodyPost_ret (v := .tuple #[.agg #[.int .i64 0, .int .i64 0, .int .i64 0], .string (bs []), .int .i64 20]) (by simp [results, Try.results57, go_sem, a0, a1, a2]; rfl) rfl ⟨by rw [HFIN.out], ((hT2.2.2.setCell (Nat.le_refl _) _).setCell (Nat.le_refl _) _).setCell (Nat.le_refl _) _⟩
set_option maxRecDepth 100000 in
set_option maxHeartbeats 8000000 in
theorem ROpen_big (l : List UInt8) (w : World) (hl : l.length ≤ 9223372036854775807) (h1 : ¬ l.length < 64) (hv : stampB (num (l.take 6)) (num ((l.take 8).drop 6)) (num ((l.take 10).drop 8)) = true) (hn : ¬ num ((l.take 12).drop 10) ≤ 40) :
    Calls Try.prog 57 #[.string (bs l)] w fun e w' =>
      e = .returned (.tuple #[.agg #[.int .i64 (openS l).1.1, .int .i64 (openS l).1.2.1, .int .i64 (openS l).1.2.2], .string (bs (openS l).2.1), .int .i64 (openS l).2.2]) ∧ Below w.heap.size w w' := by
  have H0v := Lib.hid hv; clear hv
  have H0n := Lib.hid hn; clear hn
  go_enter Try.func57, Try.ntmps57
  go_upto_region 3 with (fail)
  have L6 : (l.take 6).length ≤ 6 := by rw [List.length_take]; omega
  have L8 : ((l.take 8).drop 6).length ≤ 6 := by rw [List.length_drop, List.length_take]; omega
  have L10 : ((l.take 10).drop 8).length ≤ 6 := by rw [List.length_drop, List.length_take]; omega
  have L12 : ((l.take 12).drop 10).length ≤ 6 := by rw [List.length_drop, List.length_take]; omega
  have i6 : (6 : Int) ≤ l.length := by omega
  have i8 : (8 : Int) ≤ l.length := by omega
  have i10 : (10 : Int) ≤ l.length := by omega
  have i12 : (12 : Int) ≤ l.length := by omega
  obtain ⟨g, hg⟩ : ∃ g, g = num (l.take 6) := ⟨_, rfl⟩
  obtain ⟨p, hp⟩ : ∃ p, p = num ((l.take 8).drop 6) := ⟨_, rfl⟩
  obtain ⟨q, hq0⟩ : ∃ q, q = num ((l.take 10).drop 8) := ⟨_, rfl⟩
  obtain ⟨n, hn0⟩ : ∃ n, n = num ((l.take 12).drop 10) := ⟨_, rfl⟩
  have hv := H0v.out; clear H0v
  have hn := H0n.out; clear H0n
  rw [← hg, ← hp, ← hq0] at hv
  rw [← hn0] at hn
  have bg : g < 281474976710656 := by rw [hg]; exact num6 _ L6
  have bp : p < 281474976710656 := by rw [hp]; exact num6 _ L8
  have bq : q < 281474976710656 := by rw [hq0]; exact num6 _ L10
  have bn : n < 281474976710656 := by rw [hn0]; exact num6 _ L12
  have wg : IntKind.i64.wrap (g : Int) = (g : Int) := by rw [IntKind.wrap_i64]; omega
  have wp : IntKind.i64.wrap (p : Int) = (p : Int) := by rw [IntKind.wrap_i64]; omega
  have wq : IntKind.i64.wrap (q : Int) = (q : Int) := by rw [IntKind.wrap_i64]; omega
  have H6 := Lib.hid L6; clear L6
  have H8 := Lib.hid L8; clear L8
  have H10 := Lib.hid L10; clear L10
  have H12 := Lib.hid L12; clear L12
  have HG := Lib.hid hg; clear hg
  have HP := Lib.hid hp; clear hp
  have HQ := Lib.hid hq0; clear hq0
  have HNN := Lib.hid hn0; clear hn0
  go_cut [5] (fun s5 wx => s5 = .pointer (some ⟨w.heap.size + 1, 0, none⟩) ∧ wx = ((w.alloc (.cells #[.int .i64 0, .int .i64 0, .int .i64 0] 87)).alloc (.cells #[.int .i64 g, .int .i64 p, .int .i64 q] 87)).drew)
  case first =>
    go_region_law (first
      | (go_simp; go_at_call 98; refine (Rvalue_any _ _ (by first | exact H6.out | exact H8.out | exact H10.out)).mono ?_; (first | rw [← HG.out] | rw [← HP.out] | rw [← HQ.out]); rintro e w1 ⟨rfl, rfl⟩))
    all_goals go_wp2_with fail
    all_goals go_meet
    all_goals exact ⟨rfl, rfl⟩
  case rest =>
    obtain ⟨rfl, rfl⟩ := hcut
    have hfld := fields_of2 l (by omega) g p q n HG.out HP.out HQ.out HNN.out
    have HF := Lib.hid hfld; clear hfld
    have hT := Two.start w g p q
    have hdr : (l.take (16 + n)).drop 16 = (l.drop 16).take n := by rw [List.drop_take, show 16 + n - 16 = n by omega]
    have HDR := Lib.hid hdr; clear hdr
    clear wg wp wq bg bp bq i6 i8 i10
    have HS := Lib.hid hv; clear hv
    have hfin : openS l = ((0, 0, 0), [], 20) := by rw [HF.out, if_neg (by intro h; exact hn h.2)]
    have HFIN := Lib.hid hfin; clear hfin HF
    have hn2 : 40 < n := by omega
    clear hn
    go_upto_region 5 with (go_at_call 98; refine (Rvalue_any _ _ H12.out).mono ?_; rw [← HNN.out]; rintro e w1 ⟨rfl, rfl⟩)
    have hs3 := keepT_mk hT
    have hgd : decide ((40 : Int) < (n : Int)) = true := by rw [decide_eq_true_iff]; omega
    go_cut [44] (fun s44 wx => s44 = .bool true ∧ Two w g p q wx)
    case first =>
      refine wp_region_held_drew (S := (fun w' => w'.cell? ⟨w.heap.size + 1, 0, none⟩ = some (.int .i64 g) ∧ w'.cell? ⟨w.heap.size + 1, 1, none⟩ = some (.int .i64 p) ∧ w'.cell? ⟨w.heap.size + 1, 2, none⟩ = some (.int .i64 q) ∧ Two w g p q w')) (by kernel_rfl) ?_ (fun hHeld => ?_)
      · exact keepT_draw hs3
      refine takeH (i := 0) (v := ?vv7) 28 rfl rfl (by kernel_rfl) (by kernel_rfl) (by kernel_rfl) (fun _ _ _ h => h) (Or.inl ⟨by kernel_rfl, ?yy7⟩) (by assumption) ?_
      case yy7 => intro w hSw; (try dsimp only at hSw); go_simp; (try with_reducible rfl)
      simp only [List.setIfInBounds_toArray, List.set_cons_zero, List.set_cons_succ]
      refine wpAnyH_ready (rs := [1]) (by kernel_rfl) (by simp) ?_
      refine AllReadyH.cons rfl (fun K hK => ?_) AllReadyH.nil
      go_simp
      (go_at_call 94; refine (RValidStamp_any _ _ _ _).mono ?_; rw [HS.out]; rintro e w' ⟨rfl, hb⟩)
      (try go_wp2_with fail)
      refine hK.out _ _ ?_ (fun hHeld => ?_)
      · exact keepT_call (by assumption) hb
      clear hK K
      (try simp only [Act.put, List.setIfInBounds_toArray, List.set_cons_zero, List.set_cons_succ])
      refine takeH (i := 2) (v := ?vv8) 30 rfl rfl (by kernel_rfl) (by kernel_rfl) (by kernel_rfl) (fun _ _ _ h => h) (Or.inl ⟨by kernel_rfl, ?yy8⟩) (by assumption) ?_
      case yy8 => intro w hSw; (try dsimp only at hSw); go_simp; (try with_reducible rfl)
      simp only [List.setIfInBounds_toArray, List.set_cons_zero, List.set_cons_succ]
      refine takeH (i := 3) (v := ?vv9) 31 rfl rfl (by kernel_rfl) (by kernel_rfl) (by kernel_rfl) (fun _ _ _ h => h) (Or.inl ⟨by kernel_rfl, ?yy9⟩) (by assumption) ?_
      case yy9 => intro w hSw; (try dsimp only at hSw); go_simp; (try with_reducible rfl)
      simp only [List.setIfInBounds_toArray, List.set_cons_zero, List.set_cons_succ]
      refine takeH (i := 4) (v := ?vv10) 32 rfl rfl (by kernel_rfl) (by kernel_rfl) (by kernel_rfl) (fun _ _ _ h => h) (Or.inl ⟨by kernel_rfl, ?yy10⟩) (by assumption) ?_
      case yy10 => intro w hSw; (try dsimp only at hSw); go_simp; (try with_reducible rfl)
      simp only [List.setIfInBounds_toArray, List.set_cons_zero, List.set_cons_succ]
      refine takeH (i := 5) (v := ?vv11) 33 rfl rfl (by kernel_rfl) (by kernel_rfl) (by kernel_rfl) (fun _ _ _ h => h) (Or.inl ⟨by kernel_rfl, ?yy11⟩) (by assumption) ?_
      case yy11 => intro w hSw; (try dsimp only at hSw); go_simp; (try with_reducible rfl)
      simp only [List.setIfInBounds_toArray, List.set_cons_zero, List.set_cons_succ]
      refine takeH (i := 6) (v := ?vv12) 34 rfl rfl (by kernel_rfl) (by kernel_rfl) (by kernel_rfl) (fun _ _ _ h => h) (Or.inl ⟨by kernel_rfl, ?yy12⟩) (by assumption) ?_
      case yy12 => intro w hSw; (try dsimp only at hSw); go_simp; (try with_reducible rfl)
      simp only [List.setIfInBounds_toArray, List.set_cons_zero, List.set_cons_succ]
      refine takeH (i := 7) (v := ?vv13) 35 rfl rfl (by kernel_rfl) (by kernel_rfl) (by kernel_rfl) (fun _ _ _ h => h) (Or.inl ⟨by kernel_rfl, ?yy13⟩) (by assumption) ?_
      case yy13 => intro w hSw; (try dsimp only at hSw); go_simp; (try with_reducible rfl)
      simp only [List.setIfInBounds_toArray, List.set_cons_zero, List.set_cons_succ]
      refine takeH (i := 8) (v := undef) 36 rfl rfl (by kernel_rfl) (by kernel_rfl) (by kernel_rfl) (fun _ _ _ h => h) (Or.inr ⟨by kernel_rfl, rfl⟩) (by assumption) ?_
      simp only [List.setIfInBounds_toArray, List.set_cons_zero, List.set_cons_succ]
      refine takeH (i := 9) (v := undef) 37 rfl rfl (by kernel_rfl) (by kernel_rfl) (by kernel_rfl) (fun _ _ _ h => h) (Or.inr ⟨by kernel_rfl, rfl⟩) (by assumption) ?_
      simp only [List.setIfInBounds_toArray, List.set_cons_zero, List.set_cons_succ]
      refine takeH (i := 10) (v := undef) 38 rfl rfl (by kernel_rfl) (by kernel_rfl) (by kernel_rfl) (fun _ _ _ h => h) (Or.inr ⟨by kernel_rfl, rfl⟩) (by assumption) ?_
      simp only [List.setIfInBounds_toArray, List.set_cons_zero, List.set_cons_succ]
      refine takeH (i := 11) (v := undef) 39 rfl rfl (by kernel_rfl) (by kernel_rfl) (by kernel_rfl) (fun _ _ _ h => h) (Or.inr ⟨by kernel_rfl, rfl⟩) (by assumption) ?_
      simp only [List.setIfInBounds_toArray, List.set_cons_zero, List.set_cons_succ]
      refine takeH (i := 12) (v := undef) 40 rfl rfl (by kernel_rfl) (by kernel_rfl) (by kernel_rfl) (fun _ _ _ h => h) (Or.inr ⟨by kernel_rfl, rfl⟩) (by assumption) ?_
      simp only [List.setIfInBounds_toArray, List.set_cons_zero, List.set_cons_succ]
      refine takeH (i := 13) (v := undef) 41 rfl rfl (by kernel_rfl) (by kernel_rfl) (by kernel_rfl) (fun _ _ _ h => h) (Or.inr ⟨by kernel_rfl, rfl⟩) (by assumption) ?_
      simp only [List.setIfInBounds_toArray, List.set_cons_zero, List.set_cons_succ]
      refine takeH (i := 14) (v := undef) 42 rfl rfl (by kernel_rfl) (by kernel_rfl) (by kernel_rfl) (fun _ _ _ h => h) (Or.inr ⟨by kernel_rfl, rfl⟩) (by assumption) ?_
      simp only [List.setIfInBounds_toArray, List.set_cons_zero, List.set_cons_succ]
      refine takeH (i := 15) (v := undef) 43 rfl rfl (by kernel_rfl) (by kernel_rfl) (by kernel_rfl) (fun _ _ _ h => h) (Or.inr ⟨by kernel_rfl, rfl⟩) (by assumption) ?_
      simp only [List.setIfInBounds_toArray, List.set_cons_zero, List.set_cons_succ]
      refine takeH (i := 16) (v := ?vv14) 44 rfl rfl (by kernel_rfl) (by kernel_rfl) (by kernel_rfl) (fun _ _ _ h => h) (Or.inl ⟨by kernel_rfl, ?yy14⟩) (by assumption) ?_
      case yy14 => intro w hSw; (try dsimp only at hSw); go_simp; (try with_reducible rfl)
      simp only [List.setIfInBounds_toArray, List.set_cons_zero, List.set_cons_succ]
      refine wpAnyH_done (by kernel_rfl) ?_ _
      all_goals go_wp2_with fail
      all_goals go_meet
      all_goals exact ⟨rfl, keepT_two (by assumption)⟩
    case rest =>
      obtain ⟨rfl, hT2⟩ := hcut
      clear hs3 hT
      obtain ⟨⟨a0, a1, a2⟩, ⟨b0, b1, b2⟩, ⟨f0, f1, f2⟩⟩ := hT2.cells
      go_wp2_with fail
      exact bodyPost_ret (v := .tuple #[.agg #[.int .i64 0, .int .i64 0, .int .i64 0], .string (bs []), .int .i64 20]) (by simp [results, Try.results57, go_sem, a0, a1, a2]; rfl) rfl ⟨by rw [HFIN.out], ((hT2.2.2.setCell (Nat.le_refl _) _).setCell (Nat.le_refl _) _).setCell (Nat.le_refl _) _⟩
set_option maxRecDepth 100000 in
set_option maxHeartbeats 8000000 in
theorem ROpen_inv (l : List UInt8) (w : World) (hl : l.length ≤ 9223372036854775807) (h1 : ¬ l.length < 64) (hv : ¬ stampB (num (l.take 6)) (num ((l.take 8).drop 6)) (num ((l.take 10).drop 8)) = true) :
    Calls Try.prog 57 #[.string (bs l)] w fun e w' =>
      e = .returned (.tuple #[.agg #[.int .i64 (openS l).1.1, .int .i64 (openS l).1.2.1, .int .i64 (openS l).1.2.2], .string (bs (openS l).2.1), .int .i64 (openS l).2.2]) ∧ Below w.heap.size w w' := by
  have H0v := Lib.hid hv; clear hv
  go_enter Try.func57, Try.ntmps57
  go_upto_region 3 with (fail)
  have L6 : (l.take 6).length ≤ 6 := by rw [List.length_take]; omega
  have L8 : ((l.take 8).drop 6).length ≤ 6 := by rw [List.length_drop, List.length_take]; omega
  have L10 : ((l.take 10).drop 8).length ≤ 6 := by rw [List.length_drop, List.length_take]; omega
  have L12 : ((l.take 12).drop 10).length ≤ 6 := by rw [List.length_drop, List.length_take]; omega
  have i6 : (6 : Int) ≤ l.length := by omega
  have i8 : (8 : Int) ≤ l.length := by omega
  have i10 : (10 : Int) ≤ l.length := by omega
  have i12 : (12 : Int) ≤ l.length := by omega
  obtain ⟨g, hg⟩ : ∃ g, g = num (l.take 6) := ⟨_, rfl⟩
  obtain ⟨p, hp⟩ : ∃ p, p = num ((l.take 8).drop 6) := ⟨_, rfl⟩
  obtain ⟨q, hq0⟩ : ∃ q, q = num ((l.take 10).drop 8) := ⟨_, rfl⟩
  obtain ⟨n, hn0⟩ : ∃ n, n = num ((l.take 12).drop 10) := ⟨_, rfl⟩
  have hv := H0v.out; clear H0v
  rw [← hg, ← hp, ← hq0] at hv
  have bg : g < 281474976710656 := by rw [hg]; exact num6 _ L6
  have bp : p < 281474976710656 := by rw [hp]; exact num6 _ L8
  have bq : q < 281474976710656 := by rw [hq0]; exact num6 _ L10
  have bn : n < 281474976710656 := by rw [hn0]; exact num6 _ L12
  have wg : IntKind.i64.wrap (g : Int) = (g : Int) := by rw [IntKind.wrap_i64]; omega
  have wp : IntKind.i64.wrap (p : Int) = (p : Int) := by rw [IntKind.wrap_i64]; omega
  have wq : IntKind.i64.wrap (q : Int) = (q : Int) := by rw [IntKind.wrap_i64]; omega
  have H6 := Lib.hid L6; clear L6
  have H8 := Lib.hid L8; clear L8
  have H10 := Lib.hid L10; clear L10
  have H12 := Lib.hid L12; clear L12
  have HG := Lib.hid hg; clear hg
  have HP := Lib.hid hp; clear hp
  have HQ := Lib.hid hq0; clear hq0
  have HNN := Lib.hid hn0; clear hn0
  go_cut [5] (fun s5 wx => s5 = .pointer (some ⟨w.heap.size + 1, 0, none⟩) ∧ wx = ((w.alloc (.cells #[.int .i64 0, .int .i64 0, .int .i64 0] 87)).alloc (.cells #[.int .i64 g, .int .i64 p, .int .i64 q] 87)).drew)
  case first =>
    go_region_law (first
      | (go_simp; go_at_call 98; refine (Rvalue_any _ _ (by first | exact H6.out | exact H8.out | exact H10.out)).mono ?_; (first | rw [← HG.out] | rw [← HP.out] | rw [← HQ.out]); rintro e w1 ⟨rfl, rfl⟩))
    all_goals go_wp2_with fail
    all_goals go_meet
    all_goals exact ⟨rfl, rfl⟩
  case rest =>
    obtain ⟨rfl, rfl⟩ := hcut
    have hfld := fields_of2 l (by omega) g p q n HG.out HP.out HQ.out HNN.out
    have HF := Lib.hid hfld; clear hfld
    have hT := Two.start w g p q
    have hdr : (l.take (16 + n)).drop 16 = (l.drop 16).take n := by rw [List.drop_take, show 16 + n - 16 = n by omega]
    have HDR := Lib.hid hdr; clear hdr
    clear wg wp wq bg bp bq i6 i8 i10
    have hv' : stampB g p q = false := by simpa using hv
    have HS := Lib.hid hv'; clear hv'
    have hfin : openS l = ((0, 0, 0), [], 20) := by rw [HF.out, if_neg (by intro h; exact hv h.1)]
    have HFIN := Lib.hid hfin; clear hfin HF hv
    go_upto_region 5 with (go_at_call 98; refine (Rvalue_any _ _ H12.out).mono ?_; rw [← HNN.out]; rintro e w1 ⟨rfl, rfl⟩)
    have hs3 := keepT_mk hT
    go_cut [44] (fun s44 wx => s44 = .bool true ∧ Two w g p q wx)
    case first =>
      refine wp_region_held_drew (S := (fun w' => w'.cell? ⟨w.heap.size + 1, 0, none⟩ = some (.int .i64 g) ∧ w'.cell? ⟨w.heap.size + 1, 1, none⟩ = some (.int .i64 p) ∧ w'.cell? ⟨w.heap.size + 1, 2, none⟩ = some (.int .i64 q) ∧ Two w g p q w')) (by kernel_rfl) ?_ (fun hHeld => ?_)
      · exact keepT_draw hs3
      refine takeH (i := 0) (v := ?vv1) 28 rfl rfl (by kernel_rfl) (by kernel_rfl) (by kernel_rfl) (fun _ _ _ h => h) (Or.inl ⟨by kernel_rfl, ?yy1⟩) (by assumption) ?_
      case yy1 => intro w hSw; (try dsimp only at hSw); go_simp; (try with_reducible rfl)
      simp only [List.setIfInBounds_toArray, List.set_cons_zero, List.set_cons_succ]
      refine wpAnyH_ready (rs := [1]) (by kernel_rfl) (by simp) ?_
      refine AllReadyH.cons rfl (fun K hK => ?_) AllReadyH.nil
      go_simp
      (go_at_call 94; refine (RValidStamp_any _ _ _ _).mono ?_; rw [HS.out]; rintro e w' ⟨rfl, hb⟩)
      (try go_wp2_with fail)
      refine hK.out _ _ ?_ (fun hHeld => ?_)
      · exact keepT_call (by assumption) hb
      clear hK K
      (try simp only [Act.put, List.setIfInBounds_toArray, List.set_cons_zero, List.set_cons_succ])
      refine takeH (i := 2) (v := ?vv2) 30 rfl rfl (by kernel_rfl) (by kernel_rfl) (by kernel_rfl) (fun _ _ _ h => h) (Or.inl ⟨by kernel_rfl, ?yy2⟩) (by assumption) ?_
      case yy2 => intro w hSw; (try dsimp only at hSw); go_simp; (try with_reducible rfl)
      simp only [List.setIfInBounds_toArray, List.set_cons_zero, List.set_cons_succ]
      refine takeH (i := 3) (v := ?vv3) 31 rfl rfl (by kernel_rfl) (by kernel_rfl) (by kernel_rfl) (fun _ _ _ h => h) (Or.inl ⟨by kernel_rfl, ?yy3⟩) (by assumption) ?_
      case yy3 => intro w hSw; (try dsimp only at hSw); go_simp; (try with_reducible rfl)
      simp only [List.setIfInBounds_toArray, List.set_cons_zero, List.set_cons_succ]
      refine takeH (i := 4) (v := undef) 32 rfl rfl (by kernel_rfl) (by kernel_rfl) (by kernel_rfl) (fun _ _ _ h => h) (Or.inr ⟨by kernel_rfl, rfl⟩) (by assumption) ?_
      simp only [List.setIfInBounds_toArray, List.set_cons_zero, List.set_cons_succ]
      refine takeH (i := 5) (v := undef) 33 rfl rfl (by kernel_rfl) (by kernel_rfl) (by kernel_rfl) (fun _ _ _ h => h) (Or.inr ⟨by kernel_rfl, rfl⟩) (by assumption) ?_
      simp only [List.setIfInBounds_toArray, List.set_cons_zero, List.set_cons_succ]
      refine takeH (i := 6) (v := ?vv4) 34 rfl rfl (by kernel_rfl) (by kernel_rfl) (by kernel_rfl) (fun _ _ _ h => h) (Or.inl ⟨by kernel_rfl, ?yy4⟩) (by assumption) ?_
      case yy4 => intro w hSw; (try dsimp only at hSw); go_simp; (try with_reducible rfl)
      simp only [List.setIfInBounds_toArray, List.set_cons_zero, List.set_cons_succ]
      refine takeH (i := 7) (v := ?vv5) 35 rfl rfl (by kernel_rfl) (by kernel_rfl) (by kernel_rfl) (fun _ _ _ h => h) (Or.inl ⟨by kernel_rfl, ?yy5⟩) (by assumption) ?_
      case yy5 => intro w hSw; (try dsimp only at hSw); go_simp; (try with_reducible rfl)
      simp only [List.setIfInBounds_toArray, List.set_cons_zero, List.set_cons_succ]
      refine takeH (i := 8) (v := undef) 36 rfl rfl (by kernel_rfl) (by kernel_rfl) (by kernel_rfl) (fun _ _ _ h => h) (Or.inr ⟨by kernel_rfl, rfl⟩) (by assumption) ?_
      simp only [List.setIfInBounds_toArray, List.set_cons_zero, List.set_cons_succ]
      refine takeH (i := 9) (v := undef) 37 rfl rfl (by kernel_rfl) (by kernel_rfl) (by kernel_rfl) (fun _ _ _ h => h) (Or.inr ⟨by kernel_rfl, rfl⟩) (by assumption) ?_
      simp only [List.setIfInBounds_toArray, List.set_cons_zero, List.set_cons_succ]
      refine takeH (i := 10) (v := undef) 38 rfl rfl (by kernel_rfl) (by kernel_rfl) (by kernel_rfl) (fun _ _ _ h => h) (Or.inr ⟨by kernel_rfl, rfl⟩) (by assumption) ?_
      simp only [List.setIfInBounds_toArray, List.set_cons_zero, List.set_cons_succ]
      refine takeH (i := 11) (v := undef) 39 rfl rfl (by kernel_rfl) (by kernel_rfl) (by kernel_rfl) (fun _ _ _ h => h) (Or.inr ⟨by kernel_rfl, rfl⟩) (by assumption) ?_
      simp only [List.setIfInBounds_toArray, List.set_cons_zero, List.set_cons_succ]
      refine takeH (i := 12) (v := undef) 40 rfl rfl (by kernel_rfl) (by kernel_rfl) (by kernel_rfl) (fun _ _ _ h => h) (Or.inr ⟨by kernel_rfl, rfl⟩) (by assumption) ?_
      simp only [List.setIfInBounds_toArray, List.set_cons_zero, List.set_cons_succ]
      refine takeH (i := 13) (v := undef) 41 rfl rfl (by kernel_rfl) (by kernel_rfl) (by kernel_rfl) (fun _ _ _ h => h) (Or.inr ⟨by kernel_rfl, rfl⟩) (by assumption) ?_
      simp only [List.setIfInBounds_toArray, List.set_cons_zero, List.set_cons_succ]
      refine takeH (i := 14) (v := undef) 42 rfl rfl (by kernel_rfl) (by kernel_rfl) (by kernel_rfl) (fun _ _ _ h => h) (Or.inr ⟨by kernel_rfl, rfl⟩) (by assumption) ?_
      simp only [List.setIfInBounds_toArray, List.set_cons_zero, List.set_cons_succ]
      refine takeH (i := 15) (v := undef) 43 rfl rfl (by kernel_rfl) (by kernel_rfl) (by kernel_rfl) (fun _ _ _ h => h) (Or.inr ⟨by kernel_rfl, rfl⟩) (by assumption) ?_
      simp only [List.setIfInBounds_toArray, List.set_cons_zero, List.set_cons_succ]
      refine takeH (i := 16) (v := ?vv6) 44 rfl rfl (by kernel_rfl) (by kernel_rfl) (by kernel_rfl) (fun _ _ _ h => h) (Or.inl ⟨by kernel_rfl, ?yy6⟩) (by assumption) ?_
      case yy6 => intro w hSw; (try dsimp only at hSw); go_simp; (try with_reducible rfl)
      simp only [List.setIfInBounds_toArray, List.set_cons_zero, List.set_cons_succ]
      refine wpAnyH_done (by kernel_rfl) ?_ _
      all_goals go_wp2_with fail
      all_goals go_meet
      all_goals exact ⟨rfl, keepT_two (by assumption)⟩
    case rest =>
      obtain ⟨rfl, hT2⟩ := hcut
      clear hs3 hT
      obtain ⟨⟨a0, a1, a2⟩, ⟨b0, b1, b2⟩, ⟨f0, f1, f2⟩⟩ := hT2.cells
      go_wp2_with fail
      exact bodyPost_ret (v := .tuple #[.agg #[.int .i64 0, .int .i64 0, .int .i64 0], .string (bs []), .int .i64 20]) (by simp [results, Try.results57, go_sem, a0, a1, a2]; rfl) rfl ⟨by rw [HFIN.out], ((hT2.2.2.setCell (Nat.le_refl _) _).setCell (Nat.le_refl _) _).setCell (Nat.le_refl _) _⟩
set_option maxRecDepth 100000 in
set_option maxHeartbeats 400000 in
theorem ROpen_any (l : List UInt8) (w : World) (hl : l.length ≤ 9223372036854775807) :
    Calls Try.prog 57 #[.string (bs l)] w fun e w' =>
      e = .returned (.tuple #[.agg #[.int .i64 (openS l).1.1, .int .i64 (openS l).1.2.1, .int .i64 (openS l).1.2.2], .string (bs (openS l).2.1), .int .i64 (openS l).2.2]) ∧ Below w.heap.size w w' := by
  by_cases h1 : l.length < 64
  · exact ROpen_short l w h1
  · by_cases hv : stampB (num (l.take 6)) (num ((l.take 8).drop 6)) (num ((l.take 10).drop 8)) = true
    · by_cases hn : num ((l.take 12).drop 10) ≤ 40
      · by_cases hq : sealedL (num (l.take 6)) (num ((l.take 8).drop 6)) (num ((l.take 10).drop 8)) ((l.drop 16).take (num ((l.take 12).drop 10))) = l
        · exact ROpen_eq l w hl h1 hv hn hq
        · exact ROpen_ne l w hl h1 hv hn hq
      · exact ROpen_big l w hl h1 hv hn
    · exact ROpen_inv l w hl h1 hv
end Go.Proofs.Ytkpfkknldeafkaa
