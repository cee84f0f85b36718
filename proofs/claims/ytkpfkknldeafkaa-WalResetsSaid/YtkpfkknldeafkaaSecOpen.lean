/- What sector's Seal and Open return. No conditions but the numbers' own ranges. -/
import Derived.Test.YtkpfkknldeafkaaSecWalk
import Derived.Laws.ResultCell
namespace Go.Proofs.Ytkpfkknldeafkaa
open Go.RowKit

/-- what Seal answers -/
def sealS (g p q : Int) (l : List UInt8) : List UInt8 × Int :=
  if stampB g p q then (if l.length ≤ 40 then (sealedL g.toNat p.toNat q.toNat l, 0) else ([], 2)) else ([], 1)

theorem stamp_bounds {g p q : Int} (h : stampB g p q = true) : 0 ≤ g ∧ g < 9223372036854775808 ∧ 0 ≤ p ∧ p < 9223372036854775808 ∧ 0 ≤ q ∧ q < 9223372036854775808 := by
  obtain ⟨h1, h2, h3, h4, h5, h6⟩ := (stampB_iff g p q).1 h
  refine ⟨?_, ?_, ?_, ?_, ?_, ?_⟩ <;> omega

set_option maxRecDepth 100000 in
set_option maxHeartbeats 400000 in
theorem Seal_any (g p q : Int) (l : List UInt8) (w : World) (hl : l.length ≤ 9223372036854775807) :
    Calls Try.prog 52 #[.agg #[.int .i64 g, .int .i64 p, .int .i64 q], .string (bs l)] w fun e w' => e = .returned (.tuple #[.string (bs (sealS g p q l).1), .int .i64 (sealS g p q l).2]) ∧ Below w.heap.size w w' := by
  have hB0 : Below w.heap.size w (w.alloc (.cells #[.int .i64 g, .int .i64 p, .int .i64 q] 87)) := (Below.refl _ _).alloc (Nat.le_refl _) _
  cases hs : stampB g p q with
  | false =>
    have hfin : sealS g p q l = ([], 1) := by unfold sealS; rw [hs]; rfl
    rw [hfin]
    have HS := Lib.hid hs; clear hs hfin
    go_enter Try.func52, Try.ntmps52
    go_wp2_with fail
    refine (ValidStamp_any _ _ _ _).mono ?_
    rw [HS.out]
    rintro e w1 ⟨rfl, hb⟩
    go_wp2
    go_ret2
    exact ⟨rfl, btrans hB0 hB0.size hb⟩
  | true =>
    have HS := Lib.hid hs; clear hs
    obtain ⟨g0, g1, p0, p1, q0, q1⟩ := stamp_bounds HS.out
    by_cases h40 : l.length ≤ 40
    · have hfin : sealS g p q l = (sealedL g.toNat p.toNat q.toNat l, 0) := by unfold sealS; rw [HS.out, if_pos h40]; rfl
      rw [hfin]
      clear hfin
      go_enter Try.func52, Try.ntmps52
      go_wp2_with fail
      refine (ValidStamp_any _ _ _ _).mono ?_
      rw [HS.out]
      rintro e w1 ⟨rfl, hb⟩
      have hB1 := btrans hB0 hB0.size hb
      have c0 := (bcell hb).1 w.heap.size 0 (by simp)
      have c1 := (bcell hb).1 w.heap.size 1 (by simp)
      have c2 := (bcell hb).1 w.heap.size 2 (by simp)
      rw [cell_box] at c0 c1 c2
      clear hb hB0
      go_wp2_with fail
      refine (sealed_any _ _ _ _ _ g0 g1 p0 p1 q0 q1 h40).mono ?_
      rintro e w2 ⟨rfl, hb2⟩
      go_wp2
      go_ret2
      exact ⟨rfl, btrans hB1 hB1.size hb2⟩
    · have hfin : sealS g p q l = ([], 2) := by unfold sealS; rw [HS.out, if_neg h40]; rfl
      rw [hfin]
      clear hfin
      go_enter Try.func52, Try.ntmps52
      go_wp2_with fail
      refine (ValidStamp_any _ _ _ _).mono ?_
      rw [HS.out]
      rintro e w1 ⟨rfl, hb⟩
      go_wp2
      go_ret2
      exact ⟨rfl, btrans hB0 hB0.size hb⟩

/-! ### Open -/
def fld (l : List UInt8) (a n : Nat) : Nat := num ((l.drop a).take n)
/-- what Open answers: the stamp, the data, the error -/
def openS (l : List UInt8) : (Int × Int × Int) × List UInt8 × Int :=
  if l.length < 64 then ((0, 0, 0), [], 6) else
  if 64 < l.length then ((0, 0, 0), [], 20) else
  if stampB (fld l 0 6) (fld l 6 2) (fld l 8 2) = true ∧ fld l 10 2 ≤ 40 then
    (if sealedL (fld l 0 6) (fld l 6 2) (fld l 8 2) ((l.drop 16).take (fld l 10 2)) = l then ((fld l 0 6, fld l 6 2, fld l 8 2), (l.drop 16).take (fld l 10 2), 0) else ((0, 0, 0), [], 20))
  else ((0, 0, 0), [], 20)

/-- Open's own memory: its result's place, empty still, and the stamp that it read -/
def Two (w : World) (g p q : Int) (W : World) : Prop :=
  W.heap[w.heap.size]? = some (.cells #[.int .i64 0, .int .i64 0, .int .i64 0] 87 (0, 0)) ∧ W.heap[w.heap.size + 1]? = some (.cells #[.int .i64 g, .int .i64 p, .int .i64 q] 87 (0, 0)) ∧ Below w.heap.size w W
set_option maxRecDepth 100000 in
theorem Two.start (w : World) (g p q : Int) : Two w g p q ((w.alloc (.cells #[.int .i64 0, .int .i64 0, .int .i64 0] 87)).alloc (.cells #[.int .i64 g, .int .i64 p, .int .i64 q] 87)).drew := by
  refine ⟨?_, ?_, (((Below.refl _ _).alloc (Nat.le_refl _) _).alloc (by simp) _).drew⟩
  · show ((w.heap.push _).push _)[w.heap.size]? = _
    simp only [Array.getElem?_push, Array.size_push]
    rw [if_neg (by omega), if_pos trivial]
  · show ((w.heap.push _).push _)[w.heap.size + 1]? = _
    simp only [Array.getElem?_push, Array.size_push]
    rw [if_pos trivial]
theorem lt_of_heap {W : World} {b : Nat} {o : Obj} (h : W.heap[b]? = some o) : b < W.heap.size := by
  rcases Nat.lt_or_ge b W.heap.size with h' | h'
  · exact h'
  · rw [Array.getElem?_eq_none h'] at h; cases h
theorem Two.call {w W W' : World} {g p q : Int} (h : Two w g p q W) (hb : Below W.heap.size W W') : Two w g p q W' :=
  ⟨(hb.block _ (lt_of_heap h.1)).trans h.1, (hb.block _ (lt_of_heap h.2.1)).trans h.2.1, btrans h.2.2 h.2.2.size hb⟩
theorem Two.cells {w W : World} {g p q : Int} (h : Two w g p q W) : (W.cell? ⟨w.heap.size, 0, none⟩ = some (.int .i64 0) ∧ W.cell? ⟨w.heap.size, 1, none⟩ = some (.int .i64 0) ∧ W.cell? ⟨w.heap.size, 2, none⟩ = some (.int .i64 0)) ∧
    (W.cell? ⟨w.heap.size + 1, 0, none⟩ = some (.int .i64 g) ∧ W.cell? ⟨w.heap.size + 1, 1, none⟩ = some (.int .i64 p) ∧ W.cell? ⟨w.heap.size + 1, 2, none⟩ = some (.int .i64 q)) ∧
    (W.frozen? ⟨w.heap.size, 0, none⟩ = false ∧ W.frozen? ⟨w.heap.size, 1, none⟩ = false ∧ W.frozen? ⟨w.heap.size, 2, none⟩ = false) := by
  obtain ⟨h1, h2, _⟩ := h
  refine ⟨⟨?_, ?_, ?_⟩, ⟨?_, ?_, ?_⟩, ⟨?_, ?_, ?_⟩⟩ <;> simp [World.cell?, World.frozen?, h1, h2]
theorem fld_eq (l : List UInt8) (a n : Nat) : fld l a n = num ((l.take (a + n)).drop a) := by
  unfold fld; rw [List.drop_take, show a + n - a = n by omega]
set_option maxRecDepth 100000 in
/-- what Open answers, by the numbers that it reads -/
theorem fields_of (l : List UInt8) (h : l.length = 64) (g p q n : Nat) (hg : g = num (l.take 6)) (hp : p = num ((l.take 8).drop 6)) (hq : q = num ((l.take 10).drop 8)) (hn : n = num ((l.take 12).drop 10)) :
    openS l = (if stampB g p q = true ∧ n ≤ 40 then (if sealedL g p q ((l.drop 16).take n) = l then (((g : Int), (p : Int), (q : Int)), (l.drop 16).take n, (0 : Int)) else ((0, 0, 0), [], 20)) else ((0, 0, 0), [], 20)) := by
  have eg : fld l 0 6 = g := by rw [fld_eq, hg]; rfl
  have ep : fld l 6 2 = p := by rw [fld_eq, hp]
  have eq : fld l 8 2 = q := by rw [fld_eq, hq]
  have en : fld l 10 2 = n := by rw [fld_eq, hn]
  unfold openS
  rw [if_neg (by omega), if_neg (by omega), eg, ep, eq, en]
set_option maxRecDepth 100000 in
set_option maxHeartbeats 1000000 in
theorem Open_any (l : List UInt8) (w : World) (hl : l.length ≤ 9223372036854775807) :
    Calls Try.prog 55 #[.string (bs l)] w fun e w' =>
      e = .returned (.tuple #[.agg #[.int .i64 (openS l).1.1, .int .i64 (openS l).1.2.1, .int .i64 (openS l).1.2.2], .string (bs (openS l).2.1), .int .i64 (openS l).2.2]) ∧ Below w.heap.size w w' := by
  by_cases h1 : l.length < 64
  · have hfin : openS l = ((0, 0, 0), [], 6) := by unfold openS; rw [if_pos h1]
    rw [hfin]
    clear hfin
    go_enter Try.func55, Try.ntmps55
    go_wp2
    exact bodyPost_ret (v := .tuple #[.agg #[.int .i64 0, .int .i64 0, .int .i64 0], .string (bs []), .int .i64 6]) (by simp [results, Try.results55, go_sem]; rfl) rfl ⟨rfl, (Below.refl _ _).alloc (Nat.le_refl _) _⟩
  · by_cases h2 : 64 < l.length
    · have hfin : openS l = ((0, 0, 0), [], 20) := by unfold openS; rw [if_neg h1, if_pos h2]
      rw [hfin]
      clear hfin
      go_enter Try.func55, Try.ntmps55
      go_wp2
      exact bodyPost_ret (v := .tuple #[.agg #[.int .i64 0, .int .i64 0, .int .i64 0], .string (bs []), .int .i64 20]) (by simp [results, Try.results55, go_sem]; rfl) rfl ⟨rfl, (Below.refl _ _).alloc (Nat.le_refl _) _⟩
    · go_enter Try.func55, Try.ntmps55
      go_upto_region 5 with (fail)
      have H6 := Lib.hid (show (l.take 6).length ≤ 6 by rw [List.length_take]; omega)
      have H8 := Lib.hid (show ((l.take 8).drop 6).length ≤ 6 by rw [List.length_drop, List.length_take]; omega)
      have H10 := Lib.hid (show ((l.take 10).drop 8).length ≤ 6 by rw [List.length_drop, List.length_take]; omega)
      have H12 := Lib.hid (show ((l.take 12).drop 10).length ≤ 6 by rw [List.length_drop, List.length_take]; omega)
      have i6 : (6 : Int) ≤ l.length := by omega
      have i8 : (8 : Int) ≤ l.length := by omega
      have i10 : (10 : Int) ≤ l.length := by omega
      have i12 : (12 : Int) ≤ l.length := by omega
      obtain ⟨g, hg⟩ : ∃ g, g = num (l.take 6) := ⟨_, rfl⟩
      obtain ⟨p, hp⟩ : ∃ p, p = num ((l.take 8).drop 6) := ⟨_, rfl⟩
      obtain ⟨q, hq⟩ : ∃ q, q = num ((l.take 10).drop 8) := ⟨_, rfl⟩
      obtain ⟨n, hn⟩ : ∃ n, n = num ((l.take 12).drop 10) := ⟨_, rfl⟩
      have HG := Lib.hid hg; clear hg
      have HP := Lib.hid hp; clear hp
      have HQ := Lib.hid hq; clear hq
      have HNN := Lib.hid hn; clear hn
      go_cut [5] (fun s5 wx => s5 = .pointer (some ⟨w.heap.size + 1, 0, none⟩) ∧ wx = ((w.alloc (.cells #[.int .i64 0, .int .i64 0, .int .i64 0] 87)).alloc (.cells #[.int .i64 g, .int .i64 p, .int .i64 q] 87)).drew)
      case first =>
        go_region_law (first
          | (go_simp; go_at_call 96; refine (number_any _ _ (by first | exact H6.out | exact H8.out | exact H10.out)).mono ?_; (first | rw [← HG.out] | rw [← HP.out] | rw [← HQ.out]); rintro e w1 ⟨rfl, rfl⟩))
        all_goals go_wp2_with fail
        all_goals go_meet
        all_goals exact ⟨rfl, rfl⟩
      case rest =>
        obtain ⟨rfl, rfl⟩ := hcut
        have hfld := fields_of l (by omega) g p q n HG.out HP.out HQ.out HNN.out
        have HF := Lib.hid hfld; clear hfld
        have hT := Two.start w g p q
        have hdr : (l.take (16 + n)).drop 16 = (l.drop 16).take n := by rw [List.drop_take, show 16 + n - 16 = n by omega]
        have HDR := Lib.hid hdr; clear hdr
        by_cases hv : stampB g p q = true
        · by_cases hn : n ≤ 40
          · have hs := hv
            clear hv
            have HS := Lib.hid hs; clear hs
            have HB := Lib.hid (stamp_bounds HS.out)
            have hdl : ((l.take (16 + n)).drop 16).length ≤ 40 := by rw [HDR.out, List.length_take]; omega
            have HDL := Lib.hid hdl; clear hdl
            have i16 : (16 : Int) + n ≤ l.length := by omega
            by_cases hq : sealedL g p q ((l.drop 16).take n) = l
            · have hfin : openS l = (((g : Int), (p : Int), (q : Int)), (l.drop 16).take n, (0 : Int)) := by rw [HF.out, if_pos ⟨HS.out, hn⟩, if_pos hq]
              have hc : (sealedL g p q ((l.take (16 + n)).drop 16) == l) = true := by rw [HDR.out]; simpa using hq
              have HFIN := Lib.hid hfin; clear hfin hq HF
              go_wp2_with (first
                | (go_at_call 96; refine (number_any _ _ H12.out).mono ?_; rw [← HNN.out]; rintro e w1 ⟨rfl, rfl⟩)
                | (go_at_call 92; refine (ValidStamp_any _ _ _ _).mono ?_; rw [HS.out]; rintro e w1 ⟨rfl, hb⟩; have hT1 := hT.call hb; clear hb hT; obtain ⟨⟨a0, a1, a2⟩, ⟨b0, b1, b2⟩, ⟨f0, f1, f2⟩⟩ := hT1.cells)
                | (go_at_call 93; refine (sealed_any _ _ _ _ _ HB.out.1 HB.out.2.1 HB.out.2.2.1 HB.out.2.2.2.1 HB.out.2.2.2.2.1 HB.out.2.2.2.2.2 HDL.out).mono ?_; rintro e w2 ⟨rfl, hb⟩; have hT2 := hT1.call hb; clear hb a0 a1 a2 b0 b1 b2 f0 f1 f2 hT1; obtain ⟨⟨a0, a1, a2⟩, ⟨b0, b1, b2⟩, ⟨f0, f1, f2⟩⟩ := hT2.cells))
              exact bodyPost_ret (v := .tuple #[.agg #[.int .i64 (g : Int), .int .i64 (p : Int), .int .i64 (q : Int)], .string (bs ((l.take (16 + n)).drop 16)), .int .i64 0]) (by simp [results, Try.results55, go_sem, a0, a1, a2]) rfl ⟨by rw [HFIN.out]; rw [HDR.out], ((hT2.2.2.setCell (Nat.le_refl _) _).setCell (Nat.le_refl _) _).setCell (Nat.le_refl _) _⟩
            · have hfin : openS l = ((0, 0, 0), [], 20) := by rw [HF.out, if_pos ⟨HS.out, hn⟩, if_neg hq]
              have hc : (sealedL g p q ((l.take (16 + n)).drop 16) == l) = false := by rw [HDR.out]; simpa using hq
              have HFIN := Lib.hid hfin; clear hfin hq HF
              go_wp2_with (first
                | (go_at_call 96; refine (number_any _ _ H12.out).mono ?_; rw [← HNN.out]; rintro e w1 ⟨rfl, rfl⟩)
                | (go_at_call 92; refine (ValidStamp_any _ _ _ _).mono ?_; rw [HS.out]; rintro e w1 ⟨rfl, hb⟩; have hT1 := hT.call hb; clear hb hT; obtain ⟨⟨a0, a1, a2⟩, ⟨b0, b1, b2⟩, ⟨f0, f1, f2⟩⟩ := hT1.cells)
                | (go_at_call 93; refine (sealed_any _ _ _ _ _ HB.out.1 HB.out.2.1 HB.out.2.2.1 HB.out.2.2.2.1 HB.out.2.2.2.2.1 HB.out.2.2.2.2.2 HDL.out).mono ?_; rintro e w2 ⟨rfl, hb⟩; have hT2 := hT1.call hb; clear hb a0 a1 a2 b0 b1 b2 f0 f1 f2 hT1; obtain ⟨⟨a0, a1, a2⟩, ⟨b0, b1, b2⟩, ⟨f0, f1, f2⟩⟩ := hT2.cells))
              exact bodyPost_ret (v := .tuple #[.agg #[.int .i64 0, .int .i64 0, .int .i64 0], .string (bs []), .int .i64 20]) (by simp [results, Try.results55, go_sem, a0, a1, a2]; rfl) rfl ⟨by rw [HFIN.out], ((hT2.2.2.setCell (Nat.le_refl _) _).setCell (Nat.le_refl _) _).setCell (Nat.le_refl _) _⟩
          · have HS := Lib.hid hv; clear hv
            have hfin : openS l = ((0, 0, 0), [], 20) := by rw [HF.out, if_neg (by intro h; exact hn h.2)]
            have HFIN := Lib.hid hfin; clear hfin HF
            have hn2 : 40 < n := by omega
            clear hn
            go_wp2_with (first
              | (go_at_call 96; refine (number_any _ _ H12.out).mono ?_; rw [← HNN.out]; rintro e w1 ⟨rfl, rfl⟩)
              | (go_at_call 92; refine (ValidStamp_any _ _ _ _).mono ?_; rw [HS.out]; rintro e w1 ⟨rfl, hb⟩; have hT1 := hT.call hb; clear hb hT; obtain ⟨⟨a0, a1, a2⟩, ⟨b0, b1, b2⟩, ⟨f0, f1, f2⟩⟩ := hT1.cells))
            exact bodyPost_ret (v := .tuple #[.agg #[.int .i64 0, .int .i64 0, .int .i64 0], .string (bs []), .int .i64 20]) (by simp [results, Try.results55, go_sem, a0, a1, a2]; rfl) rfl ⟨by rw [HFIN.out], ((hT1.2.2.setCell (Nat.le_refl _) _).setCell (Nat.le_refl _) _).setCell (Nat.le_refl _) _⟩
        · have hv' : stampB g p q = false := by simpa using hv
          have HS := Lib.hid hv'; clear hv'
          have hfin : openS l = ((0, 0, 0), [], 20) := by rw [HF.out, if_neg (by intro h; exact hv h.1)]
          have HFIN := Lib.hid hfin; clear hfin HF hv
          go_wp2_with (first
            | (go_at_call 96; refine (number_any _ _ H12.out).mono ?_; rw [← HNN.out]; rintro e w1 ⟨rfl, rfl⟩)
            | (go_at_call 92; refine (ValidStamp_any _ _ _ _).mono ?_; rw [HS.out]; rintro e w1 ⟨rfl, hb⟩; have hT1 := hT.call hb; clear hb hT; obtain ⟨⟨a0, a1, a2⟩, ⟨b0, b1, b2⟩, ⟨f0, f1, f2⟩⟩ := hT1.cells))
          exact bodyPost_ret (v := .tuple #[.agg #[.int .i64 0, .int .i64 0, .int .i64 0], .string (bs []), .int .i64 20]) (by simp [results, Try.results55, go_sem, a0, a1, a2]; rfl) rfl ⟨by rw [HFIN.out], ((hT1.2.2.setCell (Nat.le_refl _) _).setCell (Nat.le_refl _) _).setCell (Nat.le_refl _) _⟩
end Go.Proofs.Ytkpfkknldeafkaa
