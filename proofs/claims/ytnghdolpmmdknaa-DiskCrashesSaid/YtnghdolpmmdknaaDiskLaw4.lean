/- The walk of DiskCrashes. No conditions. -/
import Derived.Test.YtnghdolpmmdknaaDiskCrL
import Derived.Outline
namespace Go.Proofs.Ytnghdolpmmdknaa
open Go.RowKit

theorem beq_dec (a b : List UInt8) : (a == b) = decide (a = b) := by rw [Bool.eq_iff_iff]; simp
theorem infoBool : (Try.prog.info? 4).map (fun i => (i.zero, i.size, i.bytes)) = some (some (.bool false), 1, 1) := by kernel_rfl
theorem bos_own {W : World} {B k n₀ : Nat} {a : Option Addr} {c : Nat} (h : W.ownsRow B 4 1 (.slice a k c) k (List.replicate k (.bool true))) (hn : W.heap.size ≤ n₀) : BoS n₀ W (.slice a (List.replicate k true).length c) (List.replicate k true) := by
  rcases own_form h with ⟨he, h0⟩ | ⟨g, cap, he, hc, _⟩
  · cases he
    exact ⟨none, 0, rfl, by simp, fun hne => absurd rfl hne⟩
  · cases he
    refine ⟨_, _, rfl, by simpa using hc, fun _ => ⟨g, 0, rfl, ?_, fun i hi => ?_⟩⟩
    · have := (h.lt g rfl).2; omega
    · rw [List.length_replicate] at hi
      have := h.cells (g := g) rfl i (.bool true) (by rw [List.getElem?_replicate, if_pos hi])
      rw [addr_add] at this
      rw [List.getElem_replicate]
      exact this
theorem cellsAt_true (w : World) : CellsAt (w.alloc (.cells #[.bool true] 4)) (.slice (some ⟨w.heap.size, 0, none⟩) 1 1) 1 [.bool true] := by
  refine ⟨_, _, rfl, fun _ => ⟨_, _, rfl, fun j y hj => ?_⟩⟩
  rw [Nat.zero_add]
  have h := (Bx.new w #[.bool true] 4).cell j
  rw [h]
  rcases j with _ | j
  · exact hj
  · simp at hj

set_option maxRecDepth 100000 in
set_option maxHeartbeats 16000000 in
theorem crashesWalk (sa pa ka : Option Addr) (sc pc kc : Nat) (d : Dk) (kb : List Bool) (tear : Int) (w : World) (hD : Lists w sa sc pa pc d) (hS : BoS w.heap.size w (.slice ka kb.length kc) kb) :
    Calls Try.prog 10 #[.agg #[.slice sa d.S.length sc, .slice pa d.P.length pc, .int .i64 d.fuse, .int .i64 d.ops, .bool d.dead], .slice ka kb.length kc, .int .i64 tear] w fun e w' => e = .returned (.bool true) ∧ Below w.heap.size w w' := by
  have l3 := hD.2.2.1
  have l4 := hD.2.2.2
  obtain ⟨c, hc⟩ : ∃ c, crashD d kb tear = c := ⟨_, rfl⟩
  obtain ⟨m1, m2⟩ := crash_len d kb tear
  rw [hc] at m1 m2
  have HC := Lib.hid hc; clear hc
  have SC := Lib.hid (show c.S.length ≤ 9000000000000 by omega); have PC := Lib.hid (show c.P.length ≤ 9000000000000 by omega); clear m1 m2
  have hb0 := (Below.refl w.heap.size w).alloc (Nat.le_refl _) (.cells #[.slice sa d.S.length sc, .slice pa d.P.length pc, .int .i64 d.fuse, .int .i64 d.ops, .bool d.dead] 47)
  have HX0 := Lib.hid (Bx.new w #[.slice sa d.S.length sc, .slice pa d.P.length pc, .int .i64 d.fuse, .int .i64 d.ops, .bool d.dead] 47); have HD0 := Lib.hid (hD.below hb0); have HDw := Lib.hid hD; have HSw := Lib.hid hS
  have HS0 := Lib.hid ((hS.below (hb0.mono (Nat.le_refl _))).mono hb0.size); have HB0 := Lib.hid hb0; clear hD hS hb0
  have x0 : (w.alloc (.cells #[.slice sa d.S.length sc, .slice pa d.P.length pc, .int .i64 d.fuse, .int .i64 d.ops, .bool d.dead] 47)).cell? ⟨w.heap.size, 0, none⟩ = some (.slice sa d.S.length sc) := HX0.out.cell 0
  have x1 : (w.alloc (.cells #[.slice sa d.S.length sc, .slice pa d.P.length pc, .int .i64 d.fuse, .int .i64 d.ops, .bool d.dead] 47)).cell? ⟨w.heap.size, 1, none⟩ = some (.slice pa d.P.length pc) := HX0.out.cell 1
  have x2 : (w.alloc (.cells #[.slice sa d.S.length sc, .slice pa d.P.length pc, .int .i64 d.fuse, .int .i64 d.ops, .bool d.dead] 47)).cell? ⟨w.heap.size, 2, none⟩ = some (.int .i64 d.fuse) := HX0.out.cell 2
  have x3 : (w.alloc (.cells #[.slice sa d.S.length sc, .slice pa d.P.length pc, .int .i64 d.fuse, .int .i64 d.ops, .bool d.dead] 47)).cell? ⟨w.heap.size, 3, none⟩ = some (.int .i64 d.ops) := HX0.out.cell 3
  have x4 : (w.alloc (.cells #[.slice sa d.S.length sc, .slice pa d.P.length pc, .int .i64 d.fuse, .int .i64 d.ops, .bool d.dead] 47)).cell? ⟨w.heap.size, 4, none⟩ = some (.bool d.dead) := HX0.out.cell 4
  go_enter Try.func10, Try.ntmps10
  go_wp2_with fail
  refine (Crash_any _ _ _ _ _ _ d kb tear _ HD0.out HS0.out).mono ?_
  rw [HC.out]
  rintro e w1 ⟨a1, c1, a2, c2, rfl, hO1, hb1⟩
  clear x0 x1 x2 x3 x4
  have hal := (Below.refl w1.heap.size w1).alloc (Nat.le_refl _) (.cells #[.slice a1 c.S.length c1, .slice a2 c.P.length c2, .int .i64 c.fuse, .int .i64 c.ops, .bool c.dead] 47)
  have HX1 := Lib.hid ((HX0.out.call hb1).alloc (.cells #[.slice a1 c.S.length c1, .slice a2 c.P.length c2, .int .i64 c.fuse, .int .i64 c.ops, .bool c.dead] 47)); have HC1 := Lib.hid (Bx.new w1 #[.slice a1 c.S.length c1, .slice a2 c.P.length c2, .int .i64 c.fuse, .int .i64 c.ops, .bool c.dead] 47); have HLC := Lib.hid ((hO1.lists (d := c) PC.out SC.out).below hal); have HB1 := Lib.hid ((btrans HB0.out HB0.out.size hb1).alloc (btrans HB0.out HB0.out.size hb1).size (.cells #[.slice a1 c.S.length c1, .slice a2 c.P.length c2, .int .i64 c.fuse, .int .i64 c.ops, .bool c.dead] 47))
  have z1 : w.heap.size < w1.heap.size := by have := hb1.size; simp at this; omega
  clear hal hO1 hb1 HX0 HS0 HB0 HD0
  have x0 : (w1.alloc (.cells #[.slice a1 c.S.length c1, .slice a2 c.P.length c2, .int .i64 c.fuse, .int .i64 c.ops, .bool c.dead] 47)).cell? ⟨w.heap.size, 0, none⟩ = some (.slice sa d.S.length sc) := HX1.out.cell 0
  have x1 : (w1.alloc (.cells #[.slice a1 c.S.length c1, .slice a2 c.P.length c2, .int .i64 c.fuse, .int .i64 c.ops, .bool c.dead] 47)).cell? ⟨w.heap.size, 1, none⟩ = some (.slice pa d.P.length pc) := HX1.out.cell 1
  have x2 : (w1.alloc (.cells #[.slice a1 c.S.length c1, .slice a2 c.P.length c2, .int .i64 c.fuse, .int .i64 c.ops, .bool c.dead] 47)).cell? ⟨w.heap.size, 2, none⟩ = some (.int .i64 d.fuse) := HX1.out.cell 2
  have x3 : (w1.alloc (.cells #[.slice a1 c.S.length c1, .slice a2 c.P.length c2, .int .i64 c.fuse, .int .i64 c.ops, .bool c.dead] 47)).cell? ⟨w.heap.size, 3, none⟩ = some (.int .i64 d.ops) := HX1.out.cell 3
  have x4 : (w1.alloc (.cells #[.slice a1 c.S.length c1, .slice a2 c.P.length c2, .int .i64 c.fuse, .int .i64 c.ops, .bool c.dead] 47)).cell? ⟨w.heap.size, 4, none⟩ = some (.bool d.dead) := HX1.out.cell 4
  go_wp2_with fail
  refine (Valid_any _ _ _ _ d _ (HDw.out.below HB1.out)).mono ?_
  cases hv : validB d with
  | false =>
    obtain rfl : d = c := by rw [← HC.out, crash_off kb tear hv]
    rintro e w2 ⟨rfl, hb2⟩
    clear x0 x1 x2 x3 x4 hv
    have K2 := Lib.hid hb2; clear hb2
    have x0 : w2.cell? ⟨w.heap.size, 0, none⟩ = some (.slice sa d.S.length sc) := (HX1.out.call K2.out).cell 0
    have x1 : w2.cell? ⟨w.heap.size, 1, none⟩ = some (.slice pa d.P.length pc) := (HX1.out.call K2.out).cell 1
    have x2 : w2.cell? ⟨w.heap.size, 2, none⟩ = some (.int .i64 d.fuse) := (HX1.out.call K2.out).cell 2
    have x3 : w2.cell? ⟨w.heap.size, 3, none⟩ = some (.int .i64 d.ops) := (HX1.out.call K2.out).cell 3
    have x4 : w2.cell? ⟨w.heap.size, 4, none⟩ = some (.bool d.dead) := (HX1.out.call K2.out).cell 4
    have y0 : w2.cell? ⟨w1.heap.size, 0, none⟩ = some (.slice a1 d.S.length c1) := (HC1.out.call K2.out).cell 0
    have y1 : w2.cell? ⟨w1.heap.size, 1, none⟩ = some (.slice a2 d.P.length c2) := (HC1.out.call K2.out).cell 1
    have y2 : w2.cell? ⟨w1.heap.size, 2, none⟩ = some (.int .i64 d.fuse) := (HC1.out.call K2.out).cell 2
    have y3 : w2.cell? ⟨w1.heap.size, 3, none⟩ = some (.int .i64 d.ops) := (HC1.out.call K2.out).cell 3
    have y4 : w2.cell? ⟨w1.heap.size, 4, none⟩ = some (.bool d.dead) := (HC1.out.call K2.out).cell 4
    go_wp2_with fail
    refine (RSame_any _ _ _ _ _ _ _ _ d _ (HLC.out.below K2.out) ((HDw.out.below HB1.out).below K2.out)).mono ?_
    rintro e w3 ⟨rfl, hb3⟩
    clear x0 x1 x2 x3 x4 y0 y1 y2 y3 y4
    have K3 := Lib.hid (btrans K2.out K2.out.size hb3); clear hb3 K2
    go_wp2_with fail
    refine (examples_any _).mono ?_
    rintro e w4 ⟨rfl, hb4⟩
    have K4 := Lib.hid (btrans K3.out K3.out.size hb4); clear hb4
    go_wp2_with fail
    go_ret
    exact ⟨rfl, btrans HB1.out HB1.out.size K4.out⟩
  | true =>
    obtain ⟨v1, v2, v3, v4, v5, v6⟩ := crash_valid hv kb tear
    rw [HC.out] at v1 v2 v3 v4 v5 v6
    have HV := Lib.hid hv; have V1 := Lib.hid v1; have V2 := Lib.hid v2; have V3 := Lib.hid v3; have V4 := Lib.hid v4; have V5 := Lib.hid v5; have V6 := Lib.hid v6; clear hv v1 v2 v3 v4 v5 v6
    rintro e w2 ⟨rfl, hb2⟩
    clear x0 x1 x2 x3 x4
    have K2 := Lib.hid hb2; clear hb2
    have y0 : w2.cell? ⟨w1.heap.size, 0, none⟩ = some (.slice a1 c.S.length c1) := (HC1.out.call K2.out).cell 0
    have y1 : w2.cell? ⟨w1.heap.size, 1, none⟩ = some (.slice a2 c.P.length c2) := (HC1.out.call K2.out).cell 1
    have y2 : w2.cell? ⟨w1.heap.size, 2, none⟩ = some (.int .i64 c.fuse) := (HC1.out.call K2.out).cell 2
    have y3 : w2.cell? ⟨w1.heap.size, 3, none⟩ = some (.int .i64 c.ops) := (HC1.out.call K2.out).cell 3
    have y4 : w2.cell? ⟨w1.heap.size, 4, none⟩ = some (.bool c.dead) := (HC1.out.call K2.out).cell 4
    go_wp2_with fail
    refine (Valid_any _ _ _ _ c _ (HLC.out.below K2.out)).mono ?_
    rw [V1.out]
    rintro e w3 ⟨rfl, hb3⟩
    clear y0 y1 y2 y3 y4
    have K3 := Lib.hid (btrans K2.out K2.out.size hb3); clear hb3 K2
    have HX3 := Lib.hid (HX1.out.call K3.out); have HC3 := Lib.hid (HC1.out.call K3.out); have HLC3 := Lib.hid (HLC.out.below K3.out); have HB3 := Lib.hid (btrans HB1.out HB1.out.size K3.out); have z3 : w1.heap.size < w3.heap.size := by have := K3.out.size; simp at this; omega
    clear HX1 HC1 HLC HB1 K3
    have x0 : w3.cell? ⟨w.heap.size, 0, none⟩ = some (.slice sa d.S.length sc) := HX3.out.cell 0
    have x1 : w3.cell? ⟨w.heap.size, 1, none⟩ = some (.slice pa d.P.length pc) := HX3.out.cell 1
    have x2 : w3.cell? ⟨w.heap.size, 2, none⟩ = some (.int .i64 d.fuse) := HX3.out.cell 2
    have x3 : w3.cell? ⟨w.heap.size, 3, none⟩ = some (.int .i64 d.ops) := HX3.out.cell 3
    have x4 : w3.cell? ⟨w.heap.size, 4, none⟩ = some (.bool d.dead) := HX3.out.cell 4
    have y0 : w3.cell? ⟨w1.heap.size, 0, none⟩ = some (.slice a1 c.S.length c1) := HC3.out.cell 0
    have y1 : w3.cell? ⟨w1.heap.size, 1, none⟩ = some (.slice a2 c.P.length c2) := HC3.out.cell 1
    have y2 : w3.cell? ⟨w1.heap.size, 2, none⟩ = some (.int .i64 0) := by rw [← V5.out]; exact HC3.out.cell 2
    have y3 : w3.cell? ⟨w1.heap.size, 3, none⟩ = some (.int .i64 d.ops) := by rw [← V6.out]; exact HC3.out.cell 3
    have y4 : w3.cell? ⟨w1.heap.size, 4, none⟩ = some (.bool false) := by rw [← V4.out]; exact HC3.out.cell 4
    have t1 : ((c.S.length : Int) != (d.S.length : Int)) = false := by rw [V2.out]; simp
    have t2 : decide (0 < c.P.length) = false := by rw [V3.out]; rfl
    have t3 : ¬ 0 < c.P.length := by rw [V3.out]; simp
    have t4 : (d.ops != d.ops) = false := by simp
    obtain ⟨i0, hi, hz0, hz1, hz2⟩ := info_parts infoBool
    go_wp2
    clear x0 x1 x2 x3 x4 y0 y1 y2 y3 y4 t1 t2 t3 t4
    go_loopw [8, 9] (fun v i wr => ∃ (k : Nat) (a : Option Addr) (q : Nat), k ≤ d.P.length ∧ i = .int .i64 k ∧ v = .slice a k q ∧ wr.ownsRow w3.heap.size 4 1 (.slice a k q) k (List.replicate k (.bool true)) ∧ Below w3.heap.size w3 wr) (fun _ i _ => d.P.length - (intOf i).toNat)
    case atStart => exact ⟨0, none, 0, Nat.zero_le _, rfl, rfl, World.ownsRow_nil _ _ _ _, Below.refl _ _⟩
    case round =>
      obtain ⟨k, a, q, hk, rfl, rfl, hown, hbr⟩ := hrel
      have HBR := Lib.hid hbr; have HOW := Lib.hid hown; clear hbr hown
      have x0 : wr.cell? ⟨w.heap.size, 0, none⟩ = some (.slice sa d.S.length sc) := (HX3.out.call HBR.out).cell 0
      have x1 : wr.cell? ⟨w.heap.size, 1, none⟩ = some (.slice pa d.P.length pc) := (HX3.out.call HBR.out).cell 1
      have x2 : wr.cell? ⟨w.heap.size, 2, none⟩ = some (.int .i64 d.fuse) := (HX3.out.call HBR.out).cell 2
      have x3 : wr.cell? ⟨w.heap.size, 3, none⟩ = some (.int .i64 d.ops) := (HX3.out.call HBR.out).cell 3
      have x4 : wr.cell? ⟨w.heap.size, 4, none⟩ = some (.bool d.dead) := (HX3.out.call HBR.out).cell 4
      by_cases hlt : k < d.P.length
      · have hlt' : (k : Int) < (d.P.length : Int) := by omega
        go_wp2_with (at_builtin; refine wpList_append_any rfl _ _ 48 rfl w3.heap.size 4 i0 (.bool false) 1 1 Try.underlying48 hi hz0 hz1 hz2 rfl (by decide) (.slice a k q) (.slice (some ⟨wr.heap.size, 0, none⟩) 1 1) k 1 (List.replicate k (.bool true)) [.bool true] rfl (HOW.out.alloc _) rfl (cellsAt_true wr) rfl (by intro u hu; simp at hu; subst hu; rfl) (by unfold maxLen; omega) (by omega) w3 w3.heap.size (HBR.out.alloc HBR.out.size _) (by have := HBR.out.size; simp; omega) (Nat.le_refl _) ?_)
        intro v' w5 hown5 hb5 hg5
        clear x0 x1 x2 x3 x4 hg5
        obtain ⟨a5, q5, rfl⟩ := own_slice hown5
        have HO5 := Lib.hid hown5; have HB5 := Lib.hid hb5; clear hown5 hb5
        go_wp2
        go_roundw
        case rel => exact ⟨k + 1, a5, q5, by omega, by go_num, rfl, by rw [List.replicate_succ']; exact HO5.out, HB5.out⟩
        case measure => simp [intOf]; omega
      · obtain rfl : k = d.P.length := by omega
        obtain ⟨w4, rfl⟩ : ∃ w4, w4 = wr := ⟨_, rfl⟩
        have hal := (Below.refl w4.heap.size w4).alloc (Nat.le_refl _) (.cells #[.slice sa d.S.length sc, .slice pa d.P.length pc, .int .i64 d.fuse, .int .i64 d.ops, .bool false] 47)
        have HX4 := Lib.hid ((HX3.out.call HBR.out).alloc (.cells #[.slice sa d.S.length sc, .slice pa d.P.length pc, .int .i64 d.fuse, .int .i64 d.ops, .bool false] 47)); have HC4 := Lib.hid ((HC3.out.call HBR.out).alloc (.cells #[.slice sa d.S.length sc, .slice pa d.P.length pc, .int .i64 d.fuse, .int .i64 d.ops, .bool false] 47)); have HA4 := Lib.hid (Bx.new w4 #[.slice sa d.S.length sc, .slice pa d.P.length pc, .int .i64 d.fuse, .int .i64 d.ops, .bool false] 47); have HLC4 := Lib.hid ((HLC3.out.below HBR.out).below hal)
        have HB4 := Lib.hid ((btrans HB3.out HB3.out.size HBR.out).alloc (btrans HB3.out HB3.out.size HBR.out).size (.cells #[.slice sa d.S.length sc, .slice pa d.P.length pc, .int .i64 d.fuse, .int .i64 d.ops, .bool false] 47)); have HOW4 := Lib.hid (HOW.out.alloc (.cells #[.slice sa d.S.length sc, .slice pa d.P.length pc, .int .i64 d.fuse, .int .i64 d.ops, .bool false] 47)); have z4 : w3.heap.size ≤ w4.heap.size := HBR.out.size; clear hal
        have u0 : (w4.alloc (.cells #[.slice sa d.S.length sc, .slice pa d.P.length pc, .int .i64 d.fuse, .int .i64 d.ops, .bool false] 47)).cell? ⟨w.heap.size, 0, none⟩ = some (.slice sa d.S.length sc) := HX4.out.cell 0
        have u1 : (w4.alloc (.cells #[.slice sa d.S.length sc, .slice pa d.P.length pc, .int .i64 d.fuse, .int .i64 d.ops, .bool false] 47)).cell? ⟨w.heap.size, 1, none⟩ = some (.slice pa d.P.length pc) := HX4.out.cell 1
        have u2 : (w4.alloc (.cells #[.slice sa d.S.length sc, .slice pa d.P.length pc, .int .i64 d.fuse, .int .i64 d.ops, .bool false] 47)).cell? ⟨w.heap.size, 2, none⟩ = some (.int .i64 d.fuse) := HX4.out.cell 2
        have u3 : (w4.alloc (.cells #[.slice sa d.S.length sc, .slice pa d.P.length pc, .int .i64 d.fuse, .int .i64 d.ops, .bool false] 47)).cell? ⟨w.heap.size, 3, none⟩ = some (.int .i64 d.ops) := HX4.out.cell 3
        have u4 : (w4.alloc (.cells #[.slice sa d.S.length sc, .slice pa d.P.length pc, .int .i64 d.fuse, .int .i64 d.ops, .bool false] 47)).cell? ⟨w.heap.size, 4, none⟩ = some (.bool d.dead) := HX4.out.cell 4
        clear hlt hk
        go_wp2_with fail
        clear x0 x1 x2 x3 x4 u0 u1 u2 u3 u4
        obtain ⟨fc, hfc⟩ : ∃ fc, crashD d (List.replicate d.P.length true) 0 = fc := ⟨_, rfl⟩
        obtain ⟨f1, f2, f3, f4, f5, f6⟩ := crash_valid HV.out (List.replicate d.P.length true) 0
        rw [hfc] at f1 f2 f3 f4 f5 f6
        have HFC := Lib.hid hfc; have F2 := Lib.hid f2; have SF := Lib.hid (show fc.S.length ≤ 9000000000000 by rw [f2]; exact l4); have PF := Lib.hid (show fc.P.length ≤ 9000000000000 by simp [f3]); clear hfc f1 f2 f3 f4 f5 f6
        have hcr := Crash_any sa pa a sc pc q d (List.replicate d.P.length true) 0 _ (HDw.out.below HB4.out) (bos_own HOW4.out (Nat.le_refl _))
        rw [List.length_replicate, HFC.out] at hcr
        refine hcr.mono ?_
        clear hcr
        rintro e w5 ⟨a6, c6, a7, c7, rfl, hO5, hb5⟩
        have hal := (Below.refl w5.heap.size w5).alloc (Nat.le_refl _) (.cells #[.slice a6 fc.S.length c6, .slice a7 fc.P.length c7, .int .i64 fc.fuse, .int .i64 fc.ops, .bool fc.dead] 47)
        have HX5 := Lib.hid ((HX4.out.call hb5).alloc (.cells #[.slice a6 fc.S.length c6, .slice a7 fc.P.length c7, .int .i64 fc.fuse, .int .i64 fc.ops, .bool fc.dead] 47)); have HC5 := Lib.hid ((HC4.out.call hb5).alloc (.cells #[.slice a6 fc.S.length c6, .slice a7 fc.P.length c7, .int .i64 fc.fuse, .int .i64 fc.ops, .bool fc.dead] 47)); have HA5 := Lib.hid ((HA4.out.call hb5).alloc (.cells #[.slice a6 fc.S.length c6, .slice a7 fc.P.length c7, .int .i64 fc.fuse, .int .i64 fc.ops, .bool fc.dead] 47)); have HF5 := Lib.hid (Bx.new w5 #[.slice a6 fc.S.length c6, .slice a7 fc.P.length c7, .int .i64 fc.fuse, .int .i64 fc.ops, .bool fc.dead] 47); have HLC5 := Lib.hid ((HLC4.out.below hb5).below hal); have HLF5 := Lib.hid ((hO5.lists (d := fc) PF.out SF.out).below hal)
        have HB5 := Lib.hid ((btrans HB4.out HB4.out.size hb5).alloc (btrans HB4.out HB4.out.size hb5).size (.cells #[.slice a6 fc.S.length c6, .slice a7 fc.P.length c7, .int .i64 fc.fuse, .int .i64 fc.ops, .bool fc.dead] 47)); have z5 : w4.heap.size < w5.heap.size := (by have := hb5.size; simp at this; omega); clear hal hO5 hb5 HX4 HC4 HA4 HLC4 HB4 HOW4 HX3 HC3 HLC3 HB3 HBR HOW
        have x0 : (w5.alloc (.cells #[.slice a6 fc.S.length c6, .slice a7 fc.P.length c7, .int .i64 fc.fuse, .int .i64 fc.ops, .bool fc.dead] 47)).cell? ⟨w.heap.size, 0, none⟩ = some (.slice sa d.S.length sc) := HX5.out.cell 0
        have x1 : (w5.alloc (.cells #[.slice a6 fc.S.length c6, .slice a7 fc.P.length c7, .int .i64 fc.fuse, .int .i64 fc.ops, .bool fc.dead] 47)).cell? ⟨w.heap.size, 1, none⟩ = some (.slice pa d.P.length pc) := HX5.out.cell 1
        have x2 : (w5.alloc (.cells #[.slice a6 fc.S.length c6, .slice a7 fc.P.length c7, .int .i64 fc.fuse, .int .i64 fc.ops, .bool fc.dead] 47)).cell? ⟨w.heap.size, 2, none⟩ = some (.int .i64 d.fuse) := HX5.out.cell 2
        have x3 : (w5.alloc (.cells #[.slice a6 fc.S.length c6, .slice a7 fc.P.length c7, .int .i64 fc.fuse, .int .i64 fc.ops, .bool fc.dead] 47)).cell? ⟨w.heap.size, 3, none⟩ = some (.int .i64 d.ops) := HX5.out.cell 3
        have x4 : (w5.alloc (.cells #[.slice a6 fc.S.length c6, .slice a7 fc.P.length c7, .int .i64 fc.fuse, .int .i64 fc.ops, .bool fc.dead] 47)).cell? ⟨w.heap.size, 4, none⟩ = some (.bool d.dead) := HX5.out.cell 4
        have y0 : (w5.alloc (.cells #[.slice a6 fc.S.length c6, .slice a7 fc.P.length c7, .int .i64 fc.fuse, .int .i64 fc.ops, .bool fc.dead] 47)).cell? ⟨w5.heap.size, 0, none⟩ = some (.slice a6 fc.S.length c6) := HF5.out.cell 0
        have y1 : (w5.alloc (.cells #[.slice a6 fc.S.length c6, .slice a7 fc.P.length c7, .int .i64 fc.fuse, .int .i64 fc.ops, .bool fc.dead] 47)).cell? ⟨w5.heap.size, 1, none⟩ = some (.slice a7 fc.P.length c7) := HF5.out.cell 1
        have y2 : (w5.alloc (.cells #[.slice a6 fc.S.length c6, .slice a7 fc.P.length c7, .int .i64 fc.fuse, .int .i64 fc.ops, .bool fc.dead] 47)).cell? ⟨w5.heap.size, 2, none⟩ = some (.int .i64 fc.fuse) := HF5.out.cell 2
        have y3 : (w5.alloc (.cells #[.slice a6 fc.S.length c6, .slice a7 fc.P.length c7, .int .i64 fc.fuse, .int .i64 fc.ops, .bool fc.dead] 47)).cell? ⟨w5.heap.size, 3, none⟩ = some (.int .i64 fc.ops) := HF5.out.cell 3
        have y4 : (w5.alloc (.cells #[.slice a6 fc.S.length c6, .slice a7 fc.P.length c7, .int .i64 fc.fuse, .int .i64 fc.ops, .bool fc.dead] 47)).cell? ⟨w5.heap.size, 4, none⟩ = some (.bool fc.dead) := HF5.out.cell 4
        have t1 : ((fc.S.length : Int) != (d.S.length : Int)) = false := by rw [F2.out]; simp
        clear hi hz0 hz1 hz2
        go_wp2
        clear x0 x1 x2 x3 x4 y0 y1 y2 y3 y4 t1
        go_loopw [12] (fun i wq => ∃ k : Nat, k ≤ d.S.length ∧ i = .int .i64 k ∧ Below (w5.alloc (.cells #[.slice a6 fc.S.length c6, .slice a7 fc.P.length c7, .int .i64 fc.fuse, .int .i64 fc.ops, .bool fc.dead] 47)).heap.size (w5.alloc (.cells #[.slice a6 fc.S.length c6, .slice a7 fc.P.length c7, .int .i64 fc.fuse, .int .i64 fc.ops, .bool fc.dead] 47)) wq) (fun i _ => d.S.length - (intOf i).toNat)
        case atStart => exact ⟨0, Nat.zero_le _, rfl, Below.refl _ _⟩
        case round =>
          obtain ⟨k, hk, rfl, hbq⟩ := hrel
          have HBQ := Lib.hid hbq; clear hbq
          have HXq := Lib.hid (HX5.out.call HBQ.out); have HCq := Lib.hid (HC5.out.call HBQ.out); have HAq := Lib.hid (HA5.out.call HBQ.out); have HFq := Lib.hid (HF5.out.call HBQ.out); have HLCq := Lib.hid (HLC5.out.below HBQ.out); have HLFq := Lib.hid (HLF5.out.below HBQ.out); have HBw := Lib.hid (btrans HB5.out HB5.out.size HBQ.out)
          have x0 : wr.cell? ⟨w.heap.size, 0, none⟩ = some (.slice sa d.S.length sc) := HXq.out.cell 0
          have x1 : wr.cell? ⟨w.heap.size, 1, none⟩ = some (.slice pa d.P.length pc) := HXq.out.cell 1
          have x2 : wr.cell? ⟨w.heap.size, 2, none⟩ = some (.int .i64 d.fuse) := HXq.out.cell 2
          have x3 : wr.cell? ⟨w.heap.size, 3, none⟩ = some (.int .i64 d.ops) := HXq.out.cell 3
          have x4 : wr.cell? ⟨w.heap.size, 4, none⟩ = some (.bool d.dead) := HXq.out.cell 4
          by_cases hlt : k < d.S.length
          · have hlt' : (k : Int) < (d.S.length : Int) := by omega
            have hkF : k < fc.S.length := by rw [F2.out]; exact hlt
            have hkC : k < c.S.length := by rw [V2.out]; exact hlt
            obtain ⟨s, hs⟩ : ∃ s, fc.S[k] = s := ⟨_, rfl⟩
            obtain ⟨cs, hcs⟩ : ∃ s, c.S[k] = s := ⟨_, rfl⟩
            obtain ⟨ds, hds⟩ : ∃ s, d.S[k] = s := ⟨_, rfl⟩
            have HRD := Lib.hid (show readS { d with dead := false } k = (s, 0) by
              unfold readS
              rw [if_pos ⟨HV.out, by unfold hasB; simp; omega⟩, if_neg (by simp)]
              have h := crash_all HV.out k hlt
              rw [HFC.out, List.getD_eq_getElem?_getD, List.getElem?_eq_getElem hkF, Option.getD_some, hs] at h
              rw [h]; rfl)
            have HCG := Lib.hid (show (crashD d kb tear).S.getD k [] = cs by rw [HC.out, List.getD_eq_getElem?_getD, List.getElem?_eq_getElem hkC, Option.getD_some, hcs])
            have HDG := Lib.hid (show d.S.getD k [] = ds by rw [List.getD_eq_getElem?_getD, List.getElem?_eq_getElem hlt, Option.getD_some, hds])
            obtain ⟨fb, foff, rfl, hfq, fcell⟩ := HLFq.out.sec k hkF
            obtain ⟨cb, coff, rfl, hcq, ccell⟩ := HLCq.out.sec k hkC
            have hDq := HDw.out.below HBw.out
            obtain ⟨db, doff, rfl, hdq, dcell⟩ := hDq.sec k hlt
            rw [hs] at fcell
            rw [hcs] at ccell
            rw [hds] at dcell
            clear hs hcs hds
            have hF2 := F2.out
            have hV2 := V2.out
            have hkf' : (k : Int) < (fc.S.length : Int) := by omega
            have hkc' : (k : Int) < (c.S.length : Int) := by omega
            clear hF2 hV2
            have FCE := Lib.hid fcell; have CCE := Lib.hid ccell; have DCE := Lib.hid dcell; have HDQ := Lib.hid hDq; clear fcell ccell dcell hDq
            have y0 : wr.cell? ⟨w4.heap.size, 0, none⟩ = some (.slice (some ⟨db, doff, none⟩) d.S.length sc) := HAq.out.cell 0
            have y1 : wr.cell? ⟨w4.heap.size, 1, none⟩ = some (.slice pa d.P.length pc) := HAq.out.cell 1
            have y2 : wr.cell? ⟨w4.heap.size, 2, none⟩ = some (.int .i64 d.fuse) := HAq.out.cell 2
            have y3 : wr.cell? ⟨w4.heap.size, 3, none⟩ = some (.int .i64 d.ops) := HAq.out.cell 3
            have y4 : wr.cell? ⟨w4.heap.size, 4, none⟩ = some (.bool false) := HAq.out.cell 4
            go_wp2_with fail
            refine (Read_any _ _ _ _ { d with dead := false } k _ HDQ.out).mono ?_
            rw [HRD.out]
            rintro e w7 ⟨rfl, hb7⟩
            clear x0 x1 x2 x3 x4 y0 y1 y2 y3 y4
            have K7 := Lib.hid hb7; clear hb7
            have y0 : w7.cell? ⟨w5.heap.size, 0, none⟩ = some (.slice (some ⟨fb, foff, none⟩) fc.S.length c6) := (HFq.out.call K7.out).cell 0
            have y1 : w7.cell? ⟨w5.heap.size, 1, none⟩ = some (.slice a7 fc.P.length c7) := (HFq.out.call K7.out).cell 1
            have y2 : w7.cell? ⟨w5.heap.size, 2, none⟩ = some (.int .i64 fc.fuse) := (HFq.out.call K7.out).cell 2
            have y3 : w7.cell? ⟨w5.heap.size, 3, none⟩ = some (.int .i64 fc.ops) := (HFq.out.call K7.out).cell 3
            have y4 : w7.cell? ⟨w5.heap.size, 4, none⟩ = some (.bool fc.dead) := (HFq.out.call K7.out).cell 4
            have yc := cell1_below FCE.out K7.out
            have t1 : (s != s) = false := by simp
            have hs0 : w7.drew.cell? ⟨w1.heap.size, 0, none⟩ = some (.slice (some ⟨cb, coff, none⟩) c.S.length c1) ∧ w7.drew.cell? ⟨cb, coff + k, none⟩ = some (.string (bs cs)) ∧ w7.drew.cell? ⟨w.heap.size, 0, none⟩ = some (.slice (some ⟨db, doff, none⟩) d.S.length sc) ∧ w7.drew.cell? ⟨db, doff + k, none⟩ = some (.string (bs ds)) := ⟨(HCq.out.call K7.out).cell 0, cell1_below CCE.out K7.out.drew, (HXq.out.call K7.out).cell 0, cell1_below DCE.out K7.out.drew⟩
            have HS0 := Lib.hid hs0; clear hs0
            go_wp2_with fail
            clear y0 y1 y2 y3 y4 yc t1
            refine wp_region_held_drew (S := (fun w' => w'.cell? ⟨w1.heap.size, 0, none⟩ = some (.slice (some ⟨cb, coff, none⟩) c.S.length c1) ∧ w'.cell? ⟨cb, coff + k, none⟩ = some (.string (bs cs)) ∧ w'.cell? ⟨w.heap.size, 0, none⟩ = some (.slice (some ⟨db, doff, none⟩) d.S.length sc) ∧ w'.cell? ⟨db, doff + k, none⟩ = some (.string (bs ds)))) (by kernel_rfl) ?_ (fun hHeld => ?_)
            · exact HS0.out
            refine takeH (i := 0) (v := ?vv1) 111 rfl rfl (by kernel_rfl) (by kernel_rfl) (by kernel_rfl) (fun _ _ _ h => h) (Or.inl ⟨by kernel_rfl, ?yy1⟩) (by assumption) ?_
            case yy1 => intro w hSw; (try dsimp only at hSw); go_simp; (try with_reducible rfl)
            simp only [List.setIfInBounds_toArray, List.set_cons_zero, List.set_cons_succ]
            refine takeH (i := 1) (v := ?vv2) 112 rfl rfl (by kernel_rfl) (by kernel_rfl) (by kernel_rfl) (fun _ _ _ h => h) (Or.inl ⟨by kernel_rfl, ?yy2⟩) (by assumption) ?_
            case yy2 => intro w hSw; (try dsimp only at hSw); go_simp; (try with_reducible rfl)
            simp only [List.setIfInBounds_toArray, List.set_cons_zero, List.set_cons_succ]
            refine takeH (i := 2) (v := ?vv3) 113 rfl rfl (by kernel_rfl) (by kernel_rfl) (by kernel_rfl) (fun _ _ _ h => h) (Or.inl ⟨by kernel_rfl, ?yy3⟩) (by assumption) ?_
            case yy3 => intro w hSw; (try dsimp only at hSw); go_simp; (try with_reducible rfl)
            simp only [List.setIfInBounds_toArray, List.set_cons_zero, List.set_cons_succ]
            refine takeH (i := 3) (v := ?vv4) 114 rfl rfl (by kernel_rfl) (by kernel_rfl) (by kernel_rfl) (fun _ _ _ h => h) (Or.inl ⟨by kernel_rfl, ?yy4⟩) (by assumption) ?_
            case yy4 => intro w hSw; (try dsimp only at hSw); go_simp; (try with_reducible rfl)
            simp only [List.setIfInBounds_toArray, List.set_cons_zero, List.set_cons_succ]
            refine takeH (i := 4) (v := ?vv5) 115 rfl rfl (by kernel_rfl) (by kernel_rfl) (by kernel_rfl) (fun _ _ _ h => h) (Or.inl ⟨by kernel_rfl, ?yy5⟩) (by assumption) ?_
            case yy5 => intro w hSw; (try dsimp only at hSw); go_simp; (try with_reducible rfl)
            simp only [List.setIfInBounds_toArray, List.set_cons_zero, List.set_cons_succ]
            refine takeH (i := 5) (v := ?vv6) 116 rfl rfl (by kernel_rfl) (by kernel_rfl) (by kernel_rfl) (fun _ _ _ h => h) (Or.inl ⟨by kernel_rfl, ?yy6⟩) (by assumption) ?_
            case yy6 => intro w hSw; (try dsimp only at hSw); go_simp; (try with_reducible rfl)
            simp only [List.setIfInBounds_toArray, List.set_cons_zero, List.set_cons_succ]
            refine takeH (i := 6) (v := ?vv7) 117 rfl rfl (by kernel_rfl) (by kernel_rfl) (by kernel_rfl) (fun _ _ _ h => h) (Or.inl ⟨by kernel_rfl, ?yy7⟩) (by assumption) ?_
            case yy7 => intro w hSw; (try dsimp only at hSw); go_simp; (try with_reducible rfl)
            simp only [List.setIfInBounds_toArray, List.set_cons_zero, List.set_cons_succ]
            refine takeH (i := 7) (v := ?vv8) 118 rfl rfl (by kernel_rfl) (by kernel_rfl) (by kernel_rfl) (fun _ _ _ h => h) (Or.inl ⟨by kernel_rfl, ?yy8⟩) (by assumption) ?_
            case yy8 => intro w hSw; (try dsimp only at hSw); go_simp; (try with_reducible rfl)
            simp only [List.setIfInBounds_toArray, List.set_cons_zero, List.set_cons_succ]
            refine takeH (i := 8) (v := ?vv9) 119 rfl rfl (by kernel_rfl) (by kernel_rfl) (by kernel_rfl) (fun _ _ _ h => h) (Or.inl ⟨by kernel_rfl, ?yy9⟩) (by assumption) ?_
            case yy9 => intro w hSw; (try dsimp only at hSw); go_simp; (try with_reducible rfl)
            simp only [List.setIfInBounds_toArray, List.set_cons_zero, List.set_cons_succ]
            refine takeH (i := 9) (v := ?vv10) 120 rfl rfl (by kernel_rfl) (by kernel_rfl) (by kernel_rfl) (fun _ _ _ h => h) (Or.inl ⟨by kernel_rfl, ?yy10⟩) (by assumption) ?_
            case yy10 => intro w hSw; (try dsimp only at hSw); go_simp; (try with_reducible rfl)
            simp only [List.setIfInBounds_toArray, List.set_cons_zero, List.set_cons_succ]
            refine takeH (i := 10) (v := ?vv11) 121 rfl rfl (by kernel_rfl) (by kernel_rfl) (by kernel_rfl) (fun _ _ _ h => h) (Or.inl ⟨by kernel_rfl, ?yy11⟩) (by assumption) ?_
            case yy11 => intro w hSw; (try dsimp only at hSw); go_simp; (try with_reducible rfl)
            simp only [List.setIfInBounds_toArray, List.set_cons_zero, List.set_cons_succ]
            refine takeH (i := 11) (v := ?vv12) 15 rfl rfl (by kernel_rfl) (by kernel_rfl) (by kernel_rfl) (fun _ _ _ h => h) (Or.inl ⟨by kernel_rfl, ?yy12⟩) (by assumption) ?_
            case yy12 => intro w hSw; (try dsimp only at hSw); go_simp; (try with_reducible rfl)
            simp only [List.setIfInBounds_toArray, List.set_cons_zero, List.set_cons_succ]
            refine wpAnyH_done (by kernel_rfl) ?_ _
            clear hHeld
            go_wp2_with fail
            obtain ⟨wo, rfl⟩ : ∃ wo : World, wo = wr := ⟨_, rfl⟩
            go_loopw [15, 16] (fun fv i wx => ∃ j : Nat, j ≤ d.P.length ∧ i = .int .i64 j ∧ fv = .bool (fndB d tear k cs j) ∧ Below w7.heap.size w7 wx) (fun _ i _ => d.P.length - (intOf i).toNat)
            case atStart => exact ⟨0, Nat.zero_le _, rfl, by rw [fnd_zero, HDG.out, beq_dec], (Below.refl _ _).drew⟩
            case round =>
              obtain ⟨j, hj, rfl, rfl, hbx⟩ := hrel
              have KX := Lib.hid (btrans K7.out K7.out.size hbx); have HBX := Lib.hid hbx; clear hbx
              have x1 : wr.cell? ⟨w.heap.size, 1, none⟩ = some (.slice pa d.P.length pc) := (HXq.out.call KX.out).cell 1
              by_cases hjl : j < d.P.length
              · have hjl' : (j : Int) < (d.P.length : Int) := by omega
                obtain ⟨pb, poff, rfl, p1, p2⟩ := ((HDQ.out.below KX.out)).pen j hjl
                obtain ⟨x, hx⟩ : ∃ x, d.P[j] = x := ⟨_, rfl⟩
                have HFS := Lib.hid (fnd_succ d tear k cs j hjl)
                rw [hx] at p1 p2 HFS
                obtain ⟨n, hn⟩ : ∃ n, x.1 = n := ⟨_, rfl⟩
                obtain ⟨data, hdt⟩ : ∃ q, x.2 = q := ⟨_, rfl⟩
                have hd64 : data.length = 64 := by rw [← hdt, ← hx]; exact (((validB_iff d).1 HV.out).2.2 _ (List.getElem_mem hjl)).2.2
                have HD64 := Lib.hid hd64; clear hd64
                have hmay : mayB tear k cs x = (decide (n = (k : Int)) && (decide (cs = data) || (decide (0 < tear) && (decide (tear < 64) && decide (cs.take tear.toNat = data.take tear.toNat))))) := by unfold mayB; rw [hn, hdt]
                rw [hn] at p1
                rw [hdt] at p2
                have HMAY := Lib.hid hmay; clear hmay hx hn hdt
                have hbx2 := Bx.new wr #[.int .i64 n, .string (bs data)] 54
                have q0 : (wr.alloc (.cells #[.int .i64 n, .string (bs data)] 54)).cell? ⟨wr.heap.size, 0, none⟩ = some (.int .i64 n) := hbx2.cell 0
                have hal2 := (Below.refl wr.heap.size wr).alloc (Nat.le_refl _) (.cells #[.int .i64 n, .string (bs data)] 54)
                have HBY := Lib.hid (HBX.out.alloc HBX.out.size (.cells #[.int .i64 n, .string (bs data)] 54))
                have HS1 := Lib.hid (show (wr.alloc (.cells #[.int .i64 n, .string (bs data)] 54)).drew.cell? ⟨w1.heap.size, 0, none⟩ = some (.slice (some ⟨cb, coff, none⟩) c.S.length c1) ∧ (wr.alloc (.cells #[.int .i64 n, .string (bs data)] 54)).drew.cell? ⟨cb, coff + k, none⟩ = some (.string (bs cs)) ∧ (wr.alloc (.cells #[.int .i64 n, .string (bs data)] 54)).drew.cell? ⟨wr.heap.size, 1, none⟩ = some (.string (bs data)) from ⟨((HCq.out.call KX.out).alloc _).cell 0, cell1_below (cell1_below CCE.out KX.out) hal2.drew, hbx2.cell 1⟩); clear hbx2 hal2
                by_cases hat : n = (k : Int)
                · have t1 : (n != (k : Int)) = false := by rw [hat]; simp
                  have HAT := Lib.hid (show decide (n = (k : Int)) = true by rw [decide_eq_true_iff]; exact hat); clear hat
                  cases hf : fndB d tear k cs j with
                  | true =>
                    have HFJ := Lib.hid hf; clear hf
                    go_wp2_with fail
                    refine wp_region_held_drew (S := (fun w' => w'.cell? ⟨w1.heap.size, 0, none⟩ = some (.slice (some ⟨cb, coff, none⟩) c.S.length c1) ∧ w'.cell? ⟨cb, coff + k, none⟩ = some (.string (bs cs)) ∧ w'.cell? ⟨wr.heap.size, 1, none⟩ = some (.string (bs data)))) (by kernel_rfl) ?_ (fun hHeld => ?_)
                    · exact HS1.out
                    refine takeH (i := 0) (v := ?vv13) 138 rfl rfl (by kernel_rfl) (by kernel_rfl) (by kernel_rfl) (fun _ _ _ h => h) (Or.inl ⟨by kernel_rfl, ?yy13⟩) (by assumption) ?_
                    case yy13 => intro w hSw; (try dsimp only at hSw); go_simp; (try with_reducible rfl)
                    simp only [List.setIfInBounds_toArray, List.set_cons_zero, List.set_cons_succ]
                    refine takeH (i := 1) (v := ?vv14) 139 rfl rfl (by kernel_rfl) (by kernel_rfl) (by kernel_rfl) (fun _ _ _ h => h) (Or.inl ⟨by kernel_rfl, ?yy14⟩) (by assumption) ?_
                    case yy14 => intro w hSw; (try dsimp only at hSw); go_simp; (try with_reducible rfl)
                    simp only [List.setIfInBounds_toArray, List.set_cons_zero, List.set_cons_succ]
                    refine takeH (i := 2) (v := undef) 140 rfl rfl (by kernel_rfl) (by kernel_rfl) (by kernel_rfl) (fun _ _ _ h => h) (Or.inr ⟨by kernel_rfl, rfl⟩) (by assumption) ?_
                    simp only [List.setIfInBounds_toArray, List.set_cons_zero, List.set_cons_succ]
                    refine takeH (i := 3) (v := undef) 141 rfl rfl (by kernel_rfl) (by kernel_rfl) (by kernel_rfl) (fun _ _ _ h => h) (Or.inr ⟨by kernel_rfl, rfl⟩) (by assumption) ?_
                    simp only [List.setIfInBounds_toArray, List.set_cons_zero, List.set_cons_succ]
                    refine takeH (i := 4) (v := undef) 142 rfl rfl (by kernel_rfl) (by kernel_rfl) (by kernel_rfl) (fun _ _ _ h => h) (Or.inr ⟨by kernel_rfl, rfl⟩) (by assumption) ?_
                    simp only [List.setIfInBounds_toArray, List.set_cons_zero, List.set_cons_succ]
                    refine takeH (i := 5) (v := undef) 143 rfl rfl (by kernel_rfl) (by kernel_rfl) (by kernel_rfl) (fun _ _ _ h => h) (Or.inr ⟨by kernel_rfl, rfl⟩) (by assumption) ?_
                    simp only [List.setIfInBounds_toArray, List.set_cons_zero, List.set_cons_succ]
                    refine takeH (i := 6) (v := undef) 144 rfl rfl (by kernel_rfl) (by kernel_rfl) (by kernel_rfl) (fun _ _ _ h => h) (Or.inr ⟨by kernel_rfl, rfl⟩) (by assumption) ?_
                    simp only [List.setIfInBounds_toArray, List.set_cons_zero, List.set_cons_succ]
                    refine takeH (i := 7) (v := undef) 145 rfl rfl (by kernel_rfl) (by kernel_rfl) (by kernel_rfl) (fun _ _ _ h => h) (Or.inr ⟨by kernel_rfl, rfl⟩) (by assumption) ?_
                    simp only [List.setIfInBounds_toArray, List.set_cons_zero, List.set_cons_succ]
                    refine takeH (i := 8) (v := undef) 146 rfl rfl (by kernel_rfl) (by kernel_rfl) (by kernel_rfl) (fun _ _ _ h => h) (Or.inr ⟨by kernel_rfl, rfl⟩) (by assumption) ?_
                    simp only [List.setIfInBounds_toArray, List.set_cons_zero, List.set_cons_succ]
                    refine takeH (i := 9) (v := undef) 147 rfl rfl (by kernel_rfl) (by kernel_rfl) (by kernel_rfl) (fun _ _ _ h => h) (Or.inr ⟨by kernel_rfl, rfl⟩) (by assumption) ?_
                    simp only [List.setIfInBounds_toArray, List.set_cons_zero, List.set_cons_succ]
                    refine takeH (i := 10) (v := ?vv15) 148 rfl rfl (by kernel_rfl) (by kernel_rfl) (by kernel_rfl) (fun _ _ _ h => h) (Or.inl ⟨by kernel_rfl, ?yy15⟩) (by assumption) ?_
                    case yy15 => intro w hSw; (try dsimp only at hSw); go_simp; (try with_reducible rfl)
                    simp only [List.setIfInBounds_toArray, List.set_cons_zero, List.set_cons_succ]
                    refine takeH (i := 11) (v := ?vv16) 149 rfl rfl (by kernel_rfl) (by kernel_rfl) (by kernel_rfl) (fun _ _ _ h => h) (Or.inl ⟨by kernel_rfl, ?yy16⟩) (by assumption) ?_
                    case yy16 => intro w hSw; (try dsimp only at hSw); go_simp; (try with_reducible rfl)
                    simp only [List.setIfInBounds_toArray, List.set_cons_zero, List.set_cons_succ]
                    refine takeH (i := 12) (v := undef) 150 rfl rfl (by kernel_rfl) (by kernel_rfl) (by kernel_rfl) (fun _ _ _ h => h) (Or.inr ⟨by kernel_rfl, rfl⟩) (by assumption) ?_
                    simp only [List.setIfInBounds_toArray, List.set_cons_zero, List.set_cons_succ]
                    refine takeH (i := 13) (v := undef) 151 rfl rfl (by kernel_rfl) (by kernel_rfl) (by kernel_rfl) (fun _ _ _ h => h) (Or.inr ⟨by kernel_rfl, rfl⟩) (by assumption) ?_
                    simp only [List.setIfInBounds_toArray, List.set_cons_zero, List.set_cons_succ]
                    refine takeH (i := 14) (v := undef) 152 rfl rfl (by kernel_rfl) (by kernel_rfl) (by kernel_rfl) (fun _ _ _ h => h) (Or.inr ⟨by kernel_rfl, rfl⟩) (by assumption) ?_
                    simp only [List.setIfInBounds_toArray, List.set_cons_zero, List.set_cons_succ]
                    refine takeH (i := 15) (v := undef) 153 rfl rfl (by kernel_rfl) (by kernel_rfl) (by kernel_rfl) (fun _ _ _ h => h) (Or.inr ⟨by kernel_rfl, rfl⟩) (by assumption) ?_
                    simp only [List.setIfInBounds_toArray, List.set_cons_zero, List.set_cons_succ]
                    refine takeH (i := 16) (v := undef) 154 rfl rfl (by kernel_rfl) (by kernel_rfl) (by kernel_rfl) (fun _ _ _ h => h) (Or.inr ⟨by kernel_rfl, rfl⟩) (by assumption) ?_
                    simp only [List.setIfInBounds_toArray, List.set_cons_zero, List.set_cons_succ]
                    refine takeH (i := 17) (v := undef) 155 rfl rfl (by kernel_rfl) (by kernel_rfl) (by kernel_rfl) (fun _ _ _ h => h) (Or.inr ⟨by kernel_rfl, rfl⟩) (by assumption) ?_
                    simp only [List.setIfInBounds_toArray, List.set_cons_zero, List.set_cons_succ]
                    refine takeH (i := 18) (v := undef) 156 rfl rfl (by kernel_rfl) (by kernel_rfl) (by kernel_rfl) (fun _ _ _ h => h) (Or.inr ⟨by kernel_rfl, rfl⟩) (by assumption) ?_
                    simp only [List.setIfInBounds_toArray, List.set_cons_zero, List.set_cons_succ]
                    refine takeH (i := 19) (v := undef) 157 rfl rfl (by kernel_rfl) (by kernel_rfl) (by kernel_rfl) (fun _ _ _ h => h) (Or.inr ⟨by kernel_rfl, rfl⟩) (by assumption) ?_
                    simp only [List.setIfInBounds_toArray, List.set_cons_zero, List.set_cons_succ]
                    refine takeH (i := 20) (v := undef) 158 rfl rfl (by kernel_rfl) (by kernel_rfl) (by kernel_rfl) (fun _ _ _ h => h) (Or.inr ⟨by kernel_rfl, rfl⟩) (by assumption) ?_
                    simp only [List.setIfInBounds_toArray, List.set_cons_zero, List.set_cons_succ]
                    refine takeH (i := 21) (v := undef) 159 rfl rfl (by kernel_rfl) (by kernel_rfl) (by kernel_rfl) (fun _ _ _ h => h) (Or.inr ⟨by kernel_rfl, rfl⟩) (by assumption) ?_
                    simp only [List.setIfInBounds_toArray, List.set_cons_zero, List.set_cons_succ]
                    refine takeH (i := 22) (v := undef) 160 rfl rfl (by kernel_rfl) (by kernel_rfl) (by kernel_rfl) (fun _ _ _ h => h) (Or.inr ⟨by kernel_rfl, rfl⟩) (by assumption) ?_
                    simp only [List.setIfInBounds_toArray, List.set_cons_zero, List.set_cons_succ]
                    refine takeH (i := 23) (v := undef) 161 rfl rfl (by kernel_rfl) (by kernel_rfl) (by kernel_rfl) (fun _ _ _ h => h) (Or.inr ⟨by kernel_rfl, rfl⟩) (by assumption) ?_
                    simp only [List.setIfInBounds_toArray, List.set_cons_zero, List.set_cons_succ]
                    refine takeH (i := 24) (v := undef) 162 rfl rfl (by kernel_rfl) (by kernel_rfl) (by kernel_rfl) (fun _ _ _ h => h) (Or.inr ⟨by kernel_rfl, rfl⟩) (by assumption) ?_
                    simp only [List.setIfInBounds_toArray, List.set_cons_zero, List.set_cons_succ]
                    refine takeH (i := 25) (v := undef) 163 rfl rfl (by kernel_rfl) (by kernel_rfl) (by kernel_rfl) (fun _ _ _ h => h) (Or.inr ⟨by kernel_rfl, rfl⟩) (by assumption) ?_
                    simp only [List.setIfInBounds_toArray, List.set_cons_zero, List.set_cons_succ]
                    refine takeH (i := 26) (v := undef) 164 rfl rfl (by kernel_rfl) (by kernel_rfl) (by kernel_rfl) (fun _ _ _ h => h) (Or.inr ⟨by kernel_rfl, rfl⟩) (by assumption) ?_
                    simp only [List.setIfInBounds_toArray, List.set_cons_zero, List.set_cons_succ]
                    refine takeH (i := 27) (v := undef) 165 rfl rfl (by kernel_rfl) (by kernel_rfl) (by kernel_rfl) (fun _ _ _ h => h) (Or.inr ⟨by kernel_rfl, rfl⟩) (by assumption) ?_
                    simp only [List.setIfInBounds_toArray, List.set_cons_zero, List.set_cons_succ]
                    refine takeH (i := 28) (v := undef) 166 rfl rfl (by kernel_rfl) (by kernel_rfl) (by kernel_rfl) (fun _ _ _ h => h) (Or.inr ⟨by kernel_rfl, rfl⟩) (by assumption) ?_
                    simp only [List.setIfInBounds_toArray, List.set_cons_zero, List.set_cons_succ]
                    refine takeH (i := 29) (v := undef) 167 rfl rfl (by kernel_rfl) (by kernel_rfl) (by kernel_rfl) (fun _ _ _ h => h) (Or.inr ⟨by kernel_rfl, rfl⟩) (by assumption) ?_
                    simp only [List.setIfInBounds_toArray, List.set_cons_zero, List.set_cons_succ]
                    refine takeH (i := 30) (v := undef) 168 rfl rfl (by kernel_rfl) (by kernel_rfl) (by kernel_rfl) (fun _ _ _ h => h) (Or.inr ⟨by kernel_rfl, rfl⟩) (by assumption) ?_
                    simp only [List.setIfInBounds_toArray, List.set_cons_zero, List.set_cons_succ]
                    refine takeH (i := 31) (v := undef) 169 rfl rfl (by kernel_rfl) (by kernel_rfl) (by kernel_rfl) (fun _ _ _ h => h) (Or.inr ⟨by kernel_rfl, rfl⟩) (by assumption) ?_
                    simp only [List.setIfInBounds_toArray, List.set_cons_zero, List.set_cons_succ]
                    refine takeH (i := 32) (v := ?vv17) 170 rfl rfl (by kernel_rfl) (by kernel_rfl) (by kernel_rfl) (fun _ _ _ h => h) (Or.inl ⟨by kernel_rfl, ?yy17⟩) (by assumption) ?_
                    case yy17 => intro w hSw; (try dsimp only at hSw); go_simp; (try with_reducible rfl)
                    simp only [List.setIfInBounds_toArray, List.set_cons_zero, List.set_cons_succ]
                    refine takeH (i := 33) (v := ?vv18) 15 rfl rfl (by kernel_rfl) (by kernel_rfl) (by kernel_rfl) (fun _ _ _ h => h) (Or.inl ⟨by kernel_rfl, ?yy18⟩) (by assumption) ?_
                    case yy18 => intro w hSw; (try dsimp only at hSw); go_simp; (try with_reducible rfl)
                    simp only [List.setIfInBounds_toArray, List.set_cons_zero, List.set_cons_succ]
                    refine wpAnyH_done (by kernel_rfl) ?_ _
                    clear hHeld
                    go_wp2
                    go_roundw
                    case rel => exact ⟨j + 1, by omega, by go_num, by rw [HFS.out, HMAY.out, HAT.out, HFJ.out, Bool.true_or], HBY.out.drew⟩
                    case measure => simp [intOf]; omega
                  | false =>
                    have HFJ := Lib.hid hf; clear hf
                    by_cases heq : cs = data
                    · have t2 : (cs == data) = true := by rw [heq]; simp
                      have HEQ := Lib.hid (show decide (cs = data) = true by rw [decide_eq_true_iff]; exact heq); clear heq
                      go_wp2_with fail
                      refine wp_region_held_drew (S := (fun w' => w'.cell? ⟨w1.heap.size, 0, none⟩ = some (.slice (some ⟨cb, coff, none⟩) c.S.length c1) ∧ w'.cell? ⟨cb, coff + k, none⟩ = some (.string (bs cs)) ∧ w'.cell? ⟨wr.heap.size, 1, none⟩ = some (.string (bs data)))) (by kernel_rfl) ?_ (fun hHeld => ?_)
                      · exact HS1.out
                      refine takeH (i := 0) (v := ?vv19) 138 rfl rfl (by kernel_rfl) (by kernel_rfl) (by kernel_rfl) (fun _ _ _ h => h) (Or.inl ⟨by kernel_rfl, ?yy19⟩) (by assumption) ?_
                      case yy19 => intro w hSw; (try dsimp only at hSw); go_simp; (try with_reducible rfl)
                      simp only [List.setIfInBounds_toArray, List.set_cons_zero, List.set_cons_succ]
                      refine takeH (i := 1) (v := ?vv20) 139 rfl rfl (by kernel_rfl) (by kernel_rfl) (by kernel_rfl) (fun _ _ _ h => h) (Or.inl ⟨by kernel_rfl, ?yy20⟩) (by assumption) ?_
                      case yy20 => intro w hSw; (try dsimp only at hSw); go_simp; (try with_reducible rfl)
                      simp only [List.setIfInBounds_toArray, List.set_cons_zero, List.set_cons_succ]
                      refine takeH (i := 2) (v := ?vv21) 140 rfl rfl (by kernel_rfl) (by kernel_rfl) (by kernel_rfl) (fun _ _ _ h => h) (Or.inl ⟨by kernel_rfl, ?yy21⟩) (by assumption) ?_
                      case yy21 => intro w hSw; (try dsimp only at hSw); go_simp; (try with_reducible rfl)
                      simp only [List.setIfInBounds_toArray, List.set_cons_zero, List.set_cons_succ]
                      refine takeH (i := 3) (v := ?vv22) 141 rfl rfl (by kernel_rfl) (by kernel_rfl) (by kernel_rfl) (fun _ _ _ h => h) (Or.inl ⟨by kernel_rfl, ?yy22⟩) (by assumption) ?_
                      case yy22 => intro w hSw; (try dsimp only at hSw); go_simp; (try with_reducible rfl)
                      simp only [List.setIfInBounds_toArray, List.set_cons_zero, List.set_cons_succ]
                      refine takeH (i := 4) (v := ?vv23) 142 rfl rfl (by kernel_rfl) (by kernel_rfl) (by kernel_rfl) (fun _ _ _ h => h) (Or.inl ⟨by kernel_rfl, ?yy23⟩) (by assumption) ?_
                      case yy23 => intro w hSw; (try dsimp only at hSw); go_simp; (try with_reducible rfl)
                      simp only [List.setIfInBounds_toArray, List.set_cons_zero, List.set_cons_succ]
                      refine takeH (i := 5) (v := ?vv24) 143 rfl rfl (by kernel_rfl) (by kernel_rfl) (by kernel_rfl) (fun _ _ _ h => h) (Or.inl ⟨by kernel_rfl, ?yy24⟩) (by assumption) ?_
                      case yy24 => intro w hSw; (try dsimp only at hSw); go_simp; (try with_reducible rfl)
                      simp only [List.setIfInBounds_toArray, List.set_cons_zero, List.set_cons_succ]
                      refine takeH (i := 6) (v := ?vv25) 144 rfl rfl (by kernel_rfl) (by kernel_rfl) (by kernel_rfl) (fun _ _ _ h => h) (Or.inl ⟨by kernel_rfl, ?yy25⟩) (by assumption) ?_
                      case yy25 => intro w hSw; (try dsimp only at hSw); go_simp; (try with_reducible rfl)
                      simp only [List.setIfInBounds_toArray, List.set_cons_zero, List.set_cons_succ]
                      refine takeH (i := 7) (v := ?vv26) 145 rfl rfl (by kernel_rfl) (by kernel_rfl) (by kernel_rfl) (fun _ _ _ h => h) (Or.inl ⟨by kernel_rfl, ?yy26⟩) (by assumption) ?_
                      case yy26 => intro w hSw; (try dsimp only at hSw); go_simp; (try with_reducible rfl)
                      simp only [List.setIfInBounds_toArray, List.set_cons_zero, List.set_cons_succ]
                      refine takeH (i := 8) (v := ?vv27) 146 rfl rfl (by kernel_rfl) (by kernel_rfl) (by kernel_rfl) (fun _ _ _ h => h) (Or.inl ⟨by kernel_rfl, ?yy27⟩) (by assumption) ?_
                      case yy27 => intro w hSw; (try dsimp only at hSw); go_simp; (try with_reducible rfl)
                      simp only [List.setIfInBounds_toArray, List.set_cons_zero, List.set_cons_succ]
                      refine takeH (i := 9) (v := ?vv28) 147 rfl rfl (by kernel_rfl) (by kernel_rfl) (by kernel_rfl) (fun _ _ _ h => h) (Or.inl ⟨by kernel_rfl, ?yy28⟩) (by assumption) ?_
                      case yy28 => intro w hSw; (try dsimp only at hSw); go_simp; (try with_reducible rfl)
                      simp only [List.setIfInBounds_toArray, List.set_cons_zero, List.set_cons_succ]
                      refine takeH (i := 10) (v := ?vv29) 148 rfl rfl (by kernel_rfl) (by kernel_rfl) (by kernel_rfl) (fun _ _ _ h => h) (Or.inl ⟨by kernel_rfl, ?yy29⟩) (by assumption) ?_
                      case yy29 => intro w hSw; (try dsimp only at hSw); go_simp; (try with_reducible rfl)
                      simp only [List.setIfInBounds_toArray, List.set_cons_zero, List.set_cons_succ]
                      refine takeH (i := 11) (v := ?vv30) 149 rfl rfl (by kernel_rfl) (by kernel_rfl) (by kernel_rfl) (fun _ _ _ h => h) (Or.inl ⟨by kernel_rfl, ?yy30⟩) (by assumption) ?_
                      case yy30 => intro w hSw; (try dsimp only at hSw); go_simp; (try with_reducible rfl)
                      simp only [List.setIfInBounds_toArray, List.set_cons_zero, List.set_cons_succ]
                      refine takeH (i := 12) (v := undef) 150 rfl rfl (by kernel_rfl) (by kernel_rfl) (by kernel_rfl) (fun _ _ _ h => h) (Or.inr ⟨by kernel_rfl, rfl⟩) (by assumption) ?_
                      simp only [List.setIfInBounds_toArray, List.set_cons_zero, List.set_cons_succ]
                      refine takeH (i := 13) (v := undef) 151 rfl rfl (by kernel_rfl) (by kernel_rfl) (by kernel_rfl) (fun _ _ _ h => h) (Or.inr ⟨by kernel_rfl, rfl⟩) (by assumption) ?_
                      simp only [List.setIfInBounds_toArray, List.set_cons_zero, List.set_cons_succ]
                      refine takeH (i := 14) (v := undef) 152 rfl rfl (by kernel_rfl) (by kernel_rfl) (by kernel_rfl) (fun _ _ _ h => h) (Or.inr ⟨by kernel_rfl, rfl⟩) (by assumption) ?_
                      simp only [List.setIfInBounds_toArray, List.set_cons_zero, List.set_cons_succ]
                      refine takeH (i := 15) (v := undef) 153 rfl rfl (by kernel_rfl) (by kernel_rfl) (by kernel_rfl) (fun _ _ _ h => h) (Or.inr ⟨by kernel_rfl, rfl⟩) (by assumption) ?_
                      simp only [List.setIfInBounds_toArray, List.set_cons_zero, List.set_cons_succ]
                      refine takeH (i := 16) (v := undef) 154 rfl rfl (by kernel_rfl) (by kernel_rfl) (by kernel_rfl) (fun _ _ _ h => h) (Or.inr ⟨by kernel_rfl, rfl⟩) (by assumption) ?_
                      simp only [List.setIfInBounds_toArray, List.set_cons_zero, List.set_cons_succ]
                      refine takeH (i := 17) (v := undef) 155 rfl rfl (by kernel_rfl) (by kernel_rfl) (by kernel_rfl) (fun _ _ _ h => h) (Or.inr ⟨by kernel_rfl, rfl⟩) (by assumption) ?_
                      simp only [List.setIfInBounds_toArray, List.set_cons_zero, List.set_cons_succ]
                      refine takeH (i := 18) (v := undef) 156 rfl rfl (by kernel_rfl) (by kernel_rfl) (by kernel_rfl) (fun _ _ _ h => h) (Or.inr ⟨by kernel_rfl, rfl⟩) (by assumption) ?_
                      simp only [List.setIfInBounds_toArray, List.set_cons_zero, List.set_cons_succ]
                      refine takeH (i := 19) (v := undef) 157 rfl rfl (by kernel_rfl) (by kernel_rfl) (by kernel_rfl) (fun _ _ _ h => h) (Or.inr ⟨by kernel_rfl, rfl⟩) (by assumption) ?_
                      simp only [List.setIfInBounds_toArray, List.set_cons_zero, List.set_cons_succ]
                      refine takeH (i := 20) (v := undef) 158 rfl rfl (by kernel_rfl) (by kernel_rfl) (by kernel_rfl) (fun _ _ _ h => h) (Or.inr ⟨by kernel_rfl, rfl⟩) (by assumption) ?_
                      simp only [List.setIfInBounds_toArray, List.set_cons_zero, List.set_cons_succ]
                      refine takeH (i := 21) (v := undef) 159 rfl rfl (by kernel_rfl) (by kernel_rfl) (by kernel_rfl) (fun _ _ _ h => h) (Or.inr ⟨by kernel_rfl, rfl⟩) (by assumption) ?_
                      simp only [List.setIfInBounds_toArray, List.set_cons_zero, List.set_cons_succ]
                      refine takeH (i := 22) (v := undef) 160 rfl rfl (by kernel_rfl) (by kernel_rfl) (by kernel_rfl) (fun _ _ _ h => h) (Or.inr ⟨by kernel_rfl, rfl⟩) (by assumption) ?_
                      simp only [List.setIfInBounds_toArray, List.set_cons_zero, List.set_cons_succ]
                      refine takeH (i := 23) (v := undef) 161 rfl rfl (by kernel_rfl) (by kernel_rfl) (by kernel_rfl) (fun _ _ _ h => h) (Or.inr ⟨by kernel_rfl, rfl⟩) (by assumption) ?_
                      simp only [List.setIfInBounds_toArray, List.set_cons_zero, List.set_cons_succ]
                      refine takeH (i := 24) (v := undef) 162 rfl rfl (by kernel_rfl) (by kernel_rfl) (by kernel_rfl) (fun _ _ _ h => h) (Or.inr ⟨by kernel_rfl, rfl⟩) (by assumption) ?_
                      simp only [List.setIfInBounds_toArray, List.set_cons_zero, List.set_cons_succ]
                      refine takeH (i := 25) (v := undef) 163 rfl rfl (by kernel_rfl) (by kernel_rfl) (by kernel_rfl) (fun _ _ _ h => h) (Or.inr ⟨by kernel_rfl, rfl⟩) (by assumption) ?_
                      simp only [List.setIfInBounds_toArray, List.set_cons_zero, List.set_cons_succ]
                      refine takeH (i := 26) (v := undef) 164 rfl rfl (by kernel_rfl) (by kernel_rfl) (by kernel_rfl) (fun _ _ _ h => h) (Or.inr ⟨by kernel_rfl, rfl⟩) (by assumption) ?_
                      simp only [List.setIfInBounds_toArray, List.set_cons_zero, List.set_cons_succ]
                      refine takeH (i := 27) (v := undef) 165 rfl rfl (by kernel_rfl) (by kernel_rfl) (by kernel_rfl) (fun _ _ _ h => h) (Or.inr ⟨by kernel_rfl, rfl⟩) (by assumption) ?_
                      simp only [List.setIfInBounds_toArray, List.set_cons_zero, List.set_cons_succ]
                      refine takeH (i := 28) (v := undef) 166 rfl rfl (by kernel_rfl) (by kernel_rfl) (by kernel_rfl) (fun _ _ _ h => h) (Or.inr ⟨by kernel_rfl, rfl⟩) (by assumption) ?_
                      simp only [List.setIfInBounds_toArray, List.set_cons_zero, List.set_cons_succ]
                      refine takeH (i := 29) (v := undef) 167 rfl rfl (by kernel_rfl) (by kernel_rfl) (by kernel_rfl) (fun _ _ _ h => h) (Or.inr ⟨by kernel_rfl, rfl⟩) (by assumption) ?_
                      simp only [List.setIfInBounds_toArray, List.set_cons_zero, List.set_cons_succ]
                      refine takeH (i := 30) (v := undef) 168 rfl rfl (by kernel_rfl) (by kernel_rfl) (by kernel_rfl) (fun _ _ _ h => h) (Or.inr ⟨by kernel_rfl, rfl⟩) (by assumption) ?_
                      simp only [List.setIfInBounds_toArray, List.set_cons_zero, List.set_cons_succ]
                      refine takeH (i := 31) (v := undef) 169 rfl rfl (by kernel_rfl) (by kernel_rfl) (by kernel_rfl) (fun _ _ _ h => h) (Or.inr ⟨by kernel_rfl, rfl⟩) (by assumption) ?_
                      simp only [List.setIfInBounds_toArray, List.set_cons_zero, List.set_cons_succ]
                      refine takeH (i := 32) (v := ?vv31) 170 rfl rfl (by kernel_rfl) (by kernel_rfl) (by kernel_rfl) (fun _ _ _ h => h) (Or.inl ⟨by kernel_rfl, ?yy31⟩) (by assumption) ?_
                      case yy31 => intro w hSw; (try dsimp only at hSw); go_simp; (try with_reducible rfl)
                      simp only [List.setIfInBounds_toArray, List.set_cons_zero, List.set_cons_succ]
                      refine takeH (i := 33) (v := ?vv32) 15 rfl rfl (by kernel_rfl) (by kernel_rfl) (by kernel_rfl) (fun _ _ _ h => h) (Or.inl ⟨by kernel_rfl, ?yy32⟩) (by assumption) ?_
                      case yy32 => intro w hSw; (try dsimp only at hSw); go_simp; (try with_reducible rfl)
                      simp only [List.setIfInBounds_toArray, List.set_cons_zero, List.set_cons_succ]
                      refine wpAnyH_done (by kernel_rfl) ?_ _
                      clear hHeld
                      go_wp2
                      go_roundw
                      case rel => exact ⟨j + 1, by omega, by go_num, by rw [HFS.out, HMAY.out, HAT.out, HFJ.out, HEQ.out, Bool.true_or, Bool.and_true, Bool.or_true], HBY.out.drew⟩
                      case measure => simp [intOf]; omega
                    · have t2 : (cs == data) = false := by rw [beq_dec, decide_eq_false_iff_not]; exact heq
                      have HEQ := Lib.hid (show decide (cs = data) = false by rw [decide_eq_false_iff_not]; exact heq); clear heq
                      by_cases hp : 0 < tear
                      · by_cases hlt64 : tear < 64
                        · obtain ⟨tt, rfl⟩ : ∃ tt : Nat, tear = tt := ⟨tear.toNat, by omega⟩
                          have hcl : cs.length = 64 := by
                            have h := ((validB_iff c).1 V1.out).2.1 _ (List.getElem_mem hkC)
                            have h2 := HCG.out
                            rw [HC.out, List.getD_eq_getElem?_getD, List.getElem?_eq_getElem hkC, Option.getD_some] at h2
                            rw [← h2]; exact h
                          have g1 : tt ≤ cs.length := by omega
                          have g2 : tt ≤ data.length := by rw [HD64.out]; omega
                          have HP := Lib.hid (show decide (0 < (tt : Int)) = true by rw [decide_eq_true_iff]; exact hp); have HL := Lib.hid (show decide ((tt : Int) < 64) = true by rw [decide_eq_true_iff]; exact hlt64)
                          clear hcl
                          have hp2 : 0 < tt := by omega
                          have hp3 : decide (0 < tt) = true := by rw [decide_eq_true_iff]; exact hp2
                          have hl2 : tt < 64 := by omega
                          go_wp2_with fail
                          refine wp_region_held_drew (S := (fun w' => w'.cell? ⟨w1.heap.size, 0, none⟩ = some (.slice (some ⟨cb, coff, none⟩) c.S.length c1) ∧ w'.cell? ⟨cb, coff + k, none⟩ = some (.string (bs cs)) ∧ w'.cell? ⟨wr.heap.size, 1, none⟩ = some (.string (bs data)))) (by kernel_rfl) ?_ (fun hHeld => ?_)
                          · exact HS1.out
                          refine takeH (i := 0) (v := ?vv33) 138 rfl rfl (by kernel_rfl) (by kernel_rfl) (by kernel_rfl) (fun _ _ _ h => h) (Or.inl ⟨by kernel_rfl, ?yy33⟩) (by assumption) ?_
                          case yy33 => intro w hSw; (try dsimp only at hSw); go_simp; (try with_reducible rfl)
                          simp only [List.setIfInBounds_toArray, List.set_cons_zero, List.set_cons_succ]
                          refine takeH (i := 1) (v := ?vv34) 139 rfl rfl (by kernel_rfl) (by kernel_rfl) (by kernel_rfl) (fun _ _ _ h => h) (Or.inl ⟨by kernel_rfl, ?yy34⟩) (by assumption) ?_
                          case yy34 => intro w hSw; (try dsimp only at hSw); go_simp; (try with_reducible rfl)
                          simp only [List.setIfInBounds_toArray, List.set_cons_zero, List.set_cons_succ]
                          refine takeH (i := 2) (v := ?vv35) 140 rfl rfl (by kernel_rfl) (by kernel_rfl) (by kernel_rfl) (fun _ _ _ h => h) (Or.inl ⟨by kernel_rfl, ?yy35⟩) (by assumption) ?_
                          case yy35 => intro w hSw; (try dsimp only at hSw); go_simp; (try with_reducible rfl)
                          simp only [List.setIfInBounds_toArray, List.set_cons_zero, List.set_cons_succ]
                          refine takeH (i := 3) (v := ?vv36) 141 rfl rfl (by kernel_rfl) (by kernel_rfl) (by kernel_rfl) (fun _ _ _ h => h) (Or.inl ⟨by kernel_rfl, ?yy36⟩) (by assumption) ?_
                          case yy36 => intro w hSw; (try dsimp only at hSw); go_simp; (try with_reducible rfl)
                          simp only [List.setIfInBounds_toArray, List.set_cons_zero, List.set_cons_succ]
                          refine takeH (i := 4) (v := ?vv37) 142 rfl rfl (by kernel_rfl) (by kernel_rfl) (by kernel_rfl) (fun _ _ _ h => h) (Or.inl ⟨by kernel_rfl, ?yy37⟩) (by assumption) ?_
                          case yy37 => intro w hSw; (try dsimp only at hSw); go_simp; (try with_reducible rfl)
                          simp only [List.setIfInBounds_toArray, List.set_cons_zero, List.set_cons_succ]
                          refine takeH (i := 5) (v := ?vv38) 143 rfl rfl (by kernel_rfl) (by kernel_rfl) (by kernel_rfl) (fun _ _ _ h => h) (Or.inl ⟨by kernel_rfl, ?yy38⟩) (by assumption) ?_
                          case yy38 => intro w hSw; (try dsimp only at hSw); go_simp; (try with_reducible rfl)
                          simp only [List.setIfInBounds_toArray, List.set_cons_zero, List.set_cons_succ]
                          refine takeH (i := 6) (v := ?vv39) 144 rfl rfl (by kernel_rfl) (by kernel_rfl) (by kernel_rfl) (fun _ _ _ h => h) (Or.inl ⟨by kernel_rfl, ?yy39⟩) (by assumption) ?_
                          case yy39 => intro w hSw; (try dsimp only at hSw); go_simp; (try with_reducible rfl)
                          simp only [List.setIfInBounds_toArray, List.set_cons_zero, List.set_cons_succ]
                          refine takeH (i := 7) (v := ?vv40) 145 rfl rfl (by kernel_rfl) (by kernel_rfl) (by kernel_rfl) (fun _ _ _ h => h) (Or.inl ⟨by kernel_rfl, ?yy40⟩) (by assumption) ?_
                          case yy40 => intro w hSw; (try dsimp only at hSw); go_simp; (try with_reducible rfl)
                          simp only [List.setIfInBounds_toArray, List.set_cons_zero, List.set_cons_succ]
                          refine takeH (i := 8) (v := ?vv41) 146 rfl rfl (by kernel_rfl) (by kernel_rfl) (by kernel_rfl) (fun _ _ _ h => h) (Or.inl ⟨by kernel_rfl, ?yy41⟩) (by assumption) ?_
                          case yy41 => intro w hSw; (try dsimp only at hSw); go_simp; (try with_reducible rfl)
                          simp only [List.setIfInBounds_toArray, List.set_cons_zero, List.set_cons_succ]
                          refine takeH (i := 9) (v := ?vv42) 147 rfl rfl (by kernel_rfl) (by kernel_rfl) (by kernel_rfl) (fun _ _ _ h => h) (Or.inl ⟨by kernel_rfl, ?yy42⟩) (by assumption) ?_
                          case yy42 => intro w hSw; (try dsimp only at hSw); go_simp; (try with_reducible rfl)
                          simp only [List.setIfInBounds_toArray, List.set_cons_zero, List.set_cons_succ]
                          refine takeH (i := 10) (v := ?vv43) 148 rfl rfl (by kernel_rfl) (by kernel_rfl) (by kernel_rfl) (fun _ _ _ h => h) (Or.inl ⟨by kernel_rfl, ?yy43⟩) (by assumption) ?_
                          case yy43 => intro w hSw; (try dsimp only at hSw); go_simp; (try with_reducible rfl)
                          simp only [List.setIfInBounds_toArray, List.set_cons_zero, List.set_cons_succ]
                          refine takeH (i := 11) (v := ?vv44) 149 rfl rfl (by kernel_rfl) (by kernel_rfl) (by kernel_rfl) (fun _ _ _ h => h) (Or.inl ⟨by kernel_rfl, ?yy44⟩) (by assumption) ?_
                          case yy44 => intro w hSw; (try dsimp only at hSw); go_simp; (try with_reducible rfl)
                          simp only [List.setIfInBounds_toArray, List.set_cons_zero, List.set_cons_succ]
                          refine takeH (i := 12) (v := ?vv45) 150 rfl rfl (by kernel_rfl) (by kernel_rfl) (by kernel_rfl) (fun _ _ _ h => h) (Or.inl ⟨by kernel_rfl, ?yy45⟩) (by assumption) ?_
                          case yy45 => intro w hSw; (try dsimp only at hSw); go_simp; (try with_reducible rfl)
                          simp only [List.setIfInBounds_toArray, List.set_cons_zero, List.set_cons_succ]
                          refine takeH (i := 13) (v := ?vv46) 151 rfl rfl (by kernel_rfl) (by kernel_rfl) (by kernel_rfl) (fun _ _ _ h => h) (Or.inl ⟨by kernel_rfl, ?yy46⟩) (by assumption) ?_
                          case yy46 => intro w hSw; (try dsimp only at hSw); go_simp; (try with_reducible rfl)
                          simp only [List.setIfInBounds_toArray, List.set_cons_zero, List.set_cons_succ]
                          refine takeH (i := 14) (v := ?vv47) 152 rfl rfl (by kernel_rfl) (by kernel_rfl) (by kernel_rfl) (fun _ _ _ h => h) (Or.inl ⟨by kernel_rfl, ?yy47⟩) (by assumption) ?_
                          case yy47 => intro w hSw; (try dsimp only at hSw); go_simp; (try with_reducible rfl)
                          simp only [List.setIfInBounds_toArray, List.set_cons_zero, List.set_cons_succ]
                          refine takeH (i := 15) (v := ?vv48) 153 rfl rfl (by kernel_rfl) (by kernel_rfl) (by kernel_rfl) (fun _ _ _ h => h) (Or.inl ⟨by kernel_rfl, ?yy48⟩) (by assumption) ?_
                          case yy48 => intro w hSw; (try dsimp only at hSw); go_simp; (try with_reducible rfl)
                          simp only [List.setIfInBounds_toArray, List.set_cons_zero, List.set_cons_succ]
                          refine takeH (i := 16) (v := ?vv49) 154 rfl rfl (by kernel_rfl) (by kernel_rfl) (by kernel_rfl) (fun _ _ _ h => h) (Or.inl ⟨by kernel_rfl, ?yy49⟩) (by assumption) ?_
                          case yy49 => intro w hSw; (try dsimp only at hSw); go_simp; (try with_reducible rfl)
                          simp only [List.setIfInBounds_toArray, List.set_cons_zero, List.set_cons_succ]
                          refine takeH (i := 17) (v := ?vv50) 155 rfl rfl (by kernel_rfl) (by kernel_rfl) (by kernel_rfl) (fun _ _ _ h => h) (Or.inl ⟨by kernel_rfl, ?yy50⟩) (by assumption) ?_
                          case yy50 => intro w hSw; (try dsimp only at hSw); go_simp; (try with_reducible rfl)
                          simp only [List.setIfInBounds_toArray, List.set_cons_zero, List.set_cons_succ]
                          refine takeH (i := 18) (v := ?vv51) 156 rfl rfl (by kernel_rfl) (by kernel_rfl) (by kernel_rfl) (fun _ _ _ h => h) (Or.inl ⟨by kernel_rfl, ?yy51⟩) (by assumption) ?_
                          case yy51 => intro w hSw; (try dsimp only at hSw); go_simp; (try with_reducible rfl)
                          simp only [List.setIfInBounds_toArray, List.set_cons_zero, List.set_cons_succ]
                          refine takeH (i := 19) (v := ?vv52) 157 rfl rfl (by kernel_rfl) (by kernel_rfl) (by kernel_rfl) (fun _ _ _ h => h) (Or.inl ⟨by kernel_rfl, ?yy52⟩) (by assumption) ?_
                          case yy52 => intro w hSw; (try dsimp only at hSw); go_simp; (try with_reducible rfl)
                          simp only [List.setIfInBounds_toArray, List.set_cons_zero, List.set_cons_succ]
                          refine takeH (i := 20) (v := ?vv53) 158 rfl rfl (by kernel_rfl) (by kernel_rfl) (by kernel_rfl) (fun _ _ _ h => h) (Or.inl ⟨by kernel_rfl, ?yy53⟩) (by assumption) ?_
                          case yy53 => intro w hSw; (try dsimp only at hSw); go_simp; (try with_reducible rfl)
                          simp only [List.setIfInBounds_toArray, List.set_cons_zero, List.set_cons_succ]
                          refine takeH (i := 21) (v := ?vv54) 159 rfl rfl (by kernel_rfl) (by kernel_rfl) (by kernel_rfl) (fun _ _ _ h => h) (Or.inl ⟨by kernel_rfl, ?yy54⟩) (by assumption) ?_
                          case yy54 => intro w hSw; (try dsimp only at hSw); go_simp; (try with_reducible rfl)
                          simp only [List.setIfInBounds_toArray, List.set_cons_zero, List.set_cons_succ]
                          refine takeH (i := 22) (v := ?vv55) 160 rfl rfl (by kernel_rfl) (by kernel_rfl) (by kernel_rfl) (fun _ _ _ h => h) (Or.inl ⟨by kernel_rfl, ?yy55⟩) (by assumption) ?_
                          case yy55 => intro w hSw; (try dsimp only at hSw); go_simp; (try with_reducible rfl)
                          simp only [List.setIfInBounds_toArray, List.set_cons_zero, List.set_cons_succ]
                          refine takeH (i := 23) (v := ?vv56) 161 rfl rfl (by kernel_rfl) (by kernel_rfl) (by kernel_rfl) (fun _ _ _ h => h) (Or.inl ⟨by kernel_rfl, ?yy56⟩) (by assumption) ?_
                          case yy56 => intro w hSw; (try dsimp only at hSw); go_simp; (try with_reducible rfl)
                          simp only [List.setIfInBounds_toArray, List.set_cons_zero, List.set_cons_succ]
                          refine takeH (i := 24) (v := ?vv57) 162 rfl rfl (by kernel_rfl) (by kernel_rfl) (by kernel_rfl) (fun _ _ _ h => h) (Or.inl ⟨by kernel_rfl, ?yy57⟩) (by assumption) ?_
                          case yy57 => intro w hSw; (try dsimp only at hSw); go_simp; (try with_reducible rfl)
                          simp only [List.setIfInBounds_toArray, List.set_cons_zero, List.set_cons_succ]
                          refine takeH (i := 25) (v := ?vv58) 163 rfl rfl (by kernel_rfl) (by kernel_rfl) (by kernel_rfl) (fun _ _ _ h => h) (Or.inl ⟨by kernel_rfl, ?yy58⟩) (by assumption) ?_
                          case yy58 => intro w hSw; (try dsimp only at hSw); go_simp; (try with_reducible rfl)
                          simp only [List.setIfInBounds_toArray, List.set_cons_zero, List.set_cons_succ]
                          refine takeH (i := 26) (v := ?vv59) 164 rfl rfl (by kernel_rfl) (by kernel_rfl) (by kernel_rfl) (fun _ _ _ h => h) (Or.inl ⟨by kernel_rfl, ?yy59⟩) (by assumption) ?_
                          case yy59 => intro w hSw; (try dsimp only at hSw); go_simp; (try with_reducible rfl)
                          simp only [List.setIfInBounds_toArray, List.set_cons_zero, List.set_cons_succ]
                          refine takeH (i := 27) (v := ?vv60) 165 rfl rfl (by kernel_rfl) (by kernel_rfl) (by kernel_rfl) (fun _ _ _ h => h) (Or.inl ⟨by kernel_rfl, ?yy60⟩) (by assumption) ?_
                          case yy60 => intro w hSw; (try dsimp only at hSw); go_simp; (try with_reducible rfl)
                          simp only [List.setIfInBounds_toArray, List.set_cons_zero, List.set_cons_succ]
                          refine takeH (i := 28) (v := ?vv61) 166 rfl rfl (by kernel_rfl) (by kernel_rfl) (by kernel_rfl) (fun _ _ _ h => h) (Or.inl ⟨by kernel_rfl, ?yy61⟩) (by assumption) ?_
                          case yy61 => intro w hSw; (try dsimp only at hSw); go_simp; (try with_reducible rfl)
                          simp only [List.setIfInBounds_toArray, List.set_cons_zero, List.set_cons_succ]
                          refine takeH (i := 29) (v := ?vv62) 167 rfl rfl (by kernel_rfl) (by kernel_rfl) (by kernel_rfl) (fun _ _ _ h => h) (Or.inl ⟨by kernel_rfl, ?yy62⟩) (by assumption) ?_
                          case yy62 => intro w hSw; (try dsimp only at hSw); go_simp; (try with_reducible rfl)
                          simp only [List.setIfInBounds_toArray, List.set_cons_zero, List.set_cons_succ]
                          refine takeH (i := 30) (v := ?vv63) 168 rfl rfl (by kernel_rfl) (by kernel_rfl) (by kernel_rfl) (fun _ _ _ h => h) (Or.inl ⟨by kernel_rfl, ?yy63⟩) (by assumption) ?_
                          case yy63 => intro w hSw; (try dsimp only at hSw); go_simp; (try with_reducible rfl)
                          simp only [List.setIfInBounds_toArray, List.set_cons_zero, List.set_cons_succ]
                          refine takeH (i := 31) (v := ?vv64) 169 rfl rfl (by kernel_rfl) (by kernel_rfl) (by kernel_rfl) (fun _ _ _ h => h) (Or.inl ⟨by kernel_rfl, ?yy64⟩) (by assumption) ?_
                          case yy64 => intro w hSw; (try dsimp only at hSw); go_simp; (try with_reducible rfl)
                          simp only [List.setIfInBounds_toArray, List.set_cons_zero, List.set_cons_succ]
                          refine takeH (i := 32) (v := ?vv65) 170 rfl rfl (by kernel_rfl) (by kernel_rfl) (by kernel_rfl) (fun _ _ _ h => h) (Or.inl ⟨by kernel_rfl, ?yy65⟩) (by assumption) ?_
                          case yy65 => intro w hSw; (try dsimp only at hSw); go_simp; (try with_reducible rfl)
                          simp only [List.setIfInBounds_toArray, List.set_cons_zero, List.set_cons_succ]
                          refine takeH (i := 33) (v := ?vv66) 15 rfl rfl (by kernel_rfl) (by kernel_rfl) (by kernel_rfl) (fun _ _ _ h => h) (Or.inl ⟨by kernel_rfl, ?yy66⟩) (by assumption) ?_
                          case yy66 => intro w hSw; (try dsimp only at hSw); go_simp; (try with_reducible rfl)
                          simp only [List.setIfInBounds_toArray, List.set_cons_zero, List.set_cons_succ]
                          refine wpAnyH_done (by kernel_rfl) ?_ _
                          clear hHeld
                          go_wp2
                          go_roundw
                          case rel => exact ⟨j + 1, by omega, by go_num, by rw [HFS.out, HMAY.out, HAT.out, HFJ.out, HEQ.out, HP.out, HL.out, Bool.false_or, Bool.false_or, Bool.true_and, Bool.true_and, Bool.true_and, Int.toNat_natCast, beq_dec], HBY.out.drew⟩
                          case measure => simp [intOf]; omega
                        · have t3 : decide (tear < 64) = false := by rw [decide_eq_false_iff_not]; exact hlt64
                          have HP := Lib.hid (show decide (0 < tear) = true by rw [decide_eq_true_iff]; exact hp); have HL := Lib.hid t3; clear hlt64
                          go_wp2_with fail
                          refine wp_region_held_drew (S := (fun w' => w'.cell? ⟨w1.heap.size, 0, none⟩ = some (.slice (some ⟨cb, coff, none⟩) c.S.length c1) ∧ w'.cell? ⟨cb, coff + k, none⟩ = some (.string (bs cs)) ∧ w'.cell? ⟨wr.heap.size, 1, none⟩ = some (.string (bs data)))) (by kernel_rfl) ?_ (fun hHeld => ?_)
                          · exact HS1.out
                          refine takeH (i := 0) (v := ?vv67) 138 rfl rfl (by kernel_rfl) (by kernel_rfl) (by kernel_rfl) (fun _ _ _ h => h) (Or.inl ⟨by kernel_rfl, ?yy67⟩) (by assumption) ?_
                          case yy67 => intro w hSw; (try dsimp only at hSw); go_simp; (try with_reducible rfl)
                          simp only [List.setIfInBounds_toArray, List.set_cons_zero, List.set_cons_succ]
                          refine takeH (i := 1) (v := ?vv68) 139 rfl rfl (by kernel_rfl) (by kernel_rfl) (by kernel_rfl) (fun _ _ _ h => h) (Or.inl ⟨by kernel_rfl, ?yy68⟩) (by assumption) ?_
                          case yy68 => intro w hSw; (try dsimp only at hSw); go_simp; (try with_reducible rfl)
                          simp only [List.setIfInBounds_toArray, List.set_cons_zero, List.set_cons_succ]
                          refine takeH (i := 2) (v := ?vv69) 140 rfl rfl (by kernel_rfl) (by kernel_rfl) (by kernel_rfl) (fun _ _ _ h => h) (Or.inl ⟨by kernel_rfl, ?yy69⟩) (by assumption) ?_
                          case yy69 => intro w hSw; (try dsimp only at hSw); go_simp; (try with_reducible rfl)
                          simp only [List.setIfInBounds_toArray, List.set_cons_zero, List.set_cons_succ]
                          refine takeH (i := 3) (v := ?vv70) 141 rfl rfl (by kernel_rfl) (by kernel_rfl) (by kernel_rfl) (fun _ _ _ h => h) (Or.inl ⟨by kernel_rfl, ?yy70⟩) (by assumption) ?_
                          case yy70 => intro w hSw; (try dsimp only at hSw); go_simp; (try with_reducible rfl)
                          simp only [List.setIfInBounds_toArray, List.set_cons_zero, List.set_cons_succ]
                          refine takeH (i := 4) (v := ?vv71) 142 rfl rfl (by kernel_rfl) (by kernel_rfl) (by kernel_rfl) (fun _ _ _ h => h) (Or.inl ⟨by kernel_rfl, ?yy71⟩) (by assumption) ?_
                          case yy71 => intro w hSw; (try dsimp only at hSw); go_simp; (try with_reducible rfl)
                          simp only [List.setIfInBounds_toArray, List.set_cons_zero, List.set_cons_succ]
                          refine takeH (i := 5) (v := ?vv72) 143 rfl rfl (by kernel_rfl) (by kernel_rfl) (by kernel_rfl) (fun _ _ _ h => h) (Or.inl ⟨by kernel_rfl, ?yy72⟩) (by assumption) ?_
                          case yy72 => intro w hSw; (try dsimp only at hSw); go_simp; (try with_reducible rfl)
                          simp only [List.setIfInBounds_toArray, List.set_cons_zero, List.set_cons_succ]
                          refine takeH (i := 6) (v := ?vv73) 144 rfl rfl (by kernel_rfl) (by kernel_rfl) (by kernel_rfl) (fun _ _ _ h => h) (Or.inl ⟨by kernel_rfl, ?yy73⟩) (by assumption) ?_
                          case yy73 => intro w hSw; (try dsimp only at hSw); go_simp; (try with_reducible rfl)
                          simp only [List.setIfInBounds_toArray, List.set_cons_zero, List.set_cons_succ]
                          refine takeH (i := 7) (v := ?vv74) 145 rfl rfl (by kernel_rfl) (by kernel_rfl) (by kernel_rfl) (fun _ _ _ h => h) (Or.inl ⟨by kernel_rfl, ?yy74⟩) (by assumption) ?_
                          case yy74 => intro w hSw; (try dsimp only at hSw); go_simp; (try with_reducible rfl)
                          simp only [List.setIfInBounds_toArray, List.set_cons_zero, List.set_cons_succ]
                          refine takeH (i := 8) (v := ?vv75) 146 rfl rfl (by kernel_rfl) (by kernel_rfl) (by kernel_rfl) (fun _ _ _ h => h) (Or.inl ⟨by kernel_rfl, ?yy75⟩) (by assumption) ?_
                          case yy75 => intro w hSw; (try dsimp only at hSw); go_simp; (try with_reducible rfl)
                          simp only [List.setIfInBounds_toArray, List.set_cons_zero, List.set_cons_succ]
                          refine takeH (i := 9) (v := ?vv76) 147 rfl rfl (by kernel_rfl) (by kernel_rfl) (by kernel_rfl) (fun _ _ _ h => h) (Or.inl ⟨by kernel_rfl, ?yy76⟩) (by assumption) ?_
                          case yy76 => intro w hSw; (try dsimp only at hSw); go_simp; (try with_reducible rfl)
                          simp only [List.setIfInBounds_toArray, List.set_cons_zero, List.set_cons_succ]
                          refine takeH (i := 10) (v := ?vv77) 148 rfl rfl (by kernel_rfl) (by kernel_rfl) (by kernel_rfl) (fun _ _ _ h => h) (Or.inl ⟨by kernel_rfl, ?yy77⟩) (by assumption) ?_
                          case yy77 => intro w hSw; (try dsimp only at hSw); go_simp; (try with_reducible rfl)
                          simp only [List.setIfInBounds_toArray, List.set_cons_zero, List.set_cons_succ]
                          refine takeH (i := 11) (v := ?vv78) 149 rfl rfl (by kernel_rfl) (by kernel_rfl) (by kernel_rfl) (fun _ _ _ h => h) (Or.inl ⟨by kernel_rfl, ?yy78⟩) (by assumption) ?_
                          case yy78 => intro w hSw; (try dsimp only at hSw); go_simp; (try with_reducible rfl)
                          simp only [List.setIfInBounds_toArray, List.set_cons_zero, List.set_cons_succ]
                          refine takeH (i := 12) (v := ?vv79) 150 rfl rfl (by kernel_rfl) (by kernel_rfl) (by kernel_rfl) (fun _ _ _ h => h) (Or.inl ⟨by kernel_rfl, ?yy79⟩) (by assumption) ?_
                          case yy79 => intro w hSw; (try dsimp only at hSw); go_simp; (try with_reducible rfl)
                          simp only [List.setIfInBounds_toArray, List.set_cons_zero, List.set_cons_succ]
                          refine takeH (i := 13) (v := ?vv80) 151 rfl rfl (by kernel_rfl) (by kernel_rfl) (by kernel_rfl) (fun _ _ _ h => h) (Or.inl ⟨by kernel_rfl, ?yy80⟩) (by assumption) ?_
                          case yy80 => intro w hSw; (try dsimp only at hSw); go_simp; (try with_reducible rfl)
                          simp only [List.setIfInBounds_toArray, List.set_cons_zero, List.set_cons_succ]
                          refine takeH (i := 14) (v := ?vv81) 152 rfl rfl (by kernel_rfl) (by kernel_rfl) (by kernel_rfl) (fun _ _ _ h => h) (Or.inl ⟨by kernel_rfl, ?yy81⟩) (by assumption) ?_
                          case yy81 => intro w hSw; (try dsimp only at hSw); go_simp; (try with_reducible rfl)
                          simp only [List.setIfInBounds_toArray, List.set_cons_zero, List.set_cons_succ]
                          refine takeH (i := 15) (v := ?vv82) 153 rfl rfl (by kernel_rfl) (by kernel_rfl) (by kernel_rfl) (fun _ _ _ h => h) (Or.inl ⟨by kernel_rfl, ?yy82⟩) (by assumption) ?_
                          case yy82 => intro w hSw; (try dsimp only at hSw); go_simp; (try with_reducible rfl)
                          simp only [List.setIfInBounds_toArray, List.set_cons_zero, List.set_cons_succ]
                          refine takeH (i := 16) (v := ?vv83) 154 rfl rfl (by kernel_rfl) (by kernel_rfl) (by kernel_rfl) (fun _ _ _ h => h) (Or.inl ⟨by kernel_rfl, ?yy83⟩) (by assumption) ?_
                          case yy83 => intro w hSw; (try dsimp only at hSw); go_simp; (try with_reducible rfl)
                          simp only [List.setIfInBounds_toArray, List.set_cons_zero, List.set_cons_succ]
                          refine takeH (i := 17) (v := ?vv84) 155 rfl rfl (by kernel_rfl) (by kernel_rfl) (by kernel_rfl) (fun _ _ _ h => h) (Or.inl ⟨by kernel_rfl, ?yy84⟩) (by assumption) ?_
                          case yy84 => intro w hSw; (try dsimp only at hSw); go_simp; (try with_reducible rfl)
                          simp only [List.setIfInBounds_toArray, List.set_cons_zero, List.set_cons_succ]
                          refine takeH (i := 18) (v := ?vv85) 156 rfl rfl (by kernel_rfl) (by kernel_rfl) (by kernel_rfl) (fun _ _ _ h => h) (Or.inl ⟨by kernel_rfl, ?yy85⟩) (by assumption) ?_
                          case yy85 => intro w hSw; (try dsimp only at hSw); go_simp; (try with_reducible rfl)
                          simp only [List.setIfInBounds_toArray, List.set_cons_zero, List.set_cons_succ]
                          refine takeH (i := 19) (v := undef) 157 rfl rfl (by kernel_rfl) (by kernel_rfl) (by kernel_rfl) (fun _ _ _ h => h) (Or.inr ⟨by kernel_rfl, rfl⟩) (by assumption) ?_
                          simp only [List.setIfInBounds_toArray, List.set_cons_zero, List.set_cons_succ]
                          refine takeH (i := 20) (v := undef) 158 rfl rfl (by kernel_rfl) (by kernel_rfl) (by kernel_rfl) (fun _ _ _ h => h) (Or.inr ⟨by kernel_rfl, rfl⟩) (by assumption) ?_
                          simp only [List.setIfInBounds_toArray, List.set_cons_zero, List.set_cons_succ]
                          refine takeH (i := 21) (v := undef) 159 rfl rfl (by kernel_rfl) (by kernel_rfl) (by kernel_rfl) (fun _ _ _ h => h) (Or.inr ⟨by kernel_rfl, rfl⟩) (by assumption) ?_
                          simp only [List.setIfInBounds_toArray, List.set_cons_zero, List.set_cons_succ]
                          refine takeH (i := 22) (v := undef) 160 rfl rfl (by kernel_rfl) (by kernel_rfl) (by kernel_rfl) (fun _ _ _ h => h) (Or.inr ⟨by kernel_rfl, rfl⟩) (by assumption) ?_
                          simp only [List.setIfInBounds_toArray, List.set_cons_zero, List.set_cons_succ]
                          refine takeH (i := 23) (v := undef) 161 rfl rfl (by kernel_rfl) (by kernel_rfl) (by kernel_rfl) (fun _ _ _ h => h) (Or.inr ⟨by kernel_rfl, rfl⟩) (by assumption) ?_
                          simp only [List.setIfInBounds_toArray, List.set_cons_zero, List.set_cons_succ]
                          refine takeH (i := 24) (v := undef) 162 rfl rfl (by kernel_rfl) (by kernel_rfl) (by kernel_rfl) (fun _ _ _ h => h) (Or.inr ⟨by kernel_rfl, rfl⟩) (by assumption) ?_
                          simp only [List.setIfInBounds_toArray, List.set_cons_zero, List.set_cons_succ]
                          refine takeH (i := 25) (v := undef) 163 rfl rfl (by kernel_rfl) (by kernel_rfl) (by kernel_rfl) (fun _ _ _ h => h) (Or.inr ⟨by kernel_rfl, rfl⟩) (by assumption) ?_
                          simp only [List.setIfInBounds_toArray, List.set_cons_zero, List.set_cons_succ]
                          refine takeH (i := 26) (v := undef) 164 rfl rfl (by kernel_rfl) (by kernel_rfl) (by kernel_rfl) (fun _ _ _ h => h) (Or.inr ⟨by kernel_rfl, rfl⟩) (by assumption) ?_
                          simp only [List.setIfInBounds_toArray, List.set_cons_zero, List.set_cons_succ]
                          refine takeH (i := 27) (v := undef) 165 rfl rfl (by kernel_rfl) (by kernel_rfl) (by kernel_rfl) (fun _ _ _ h => h) (Or.inr ⟨by kernel_rfl, rfl⟩) (by assumption) ?_
                          simp only [List.setIfInBounds_toArray, List.set_cons_zero, List.set_cons_succ]
                          refine takeH (i := 28) (v := undef) 166 rfl rfl (by kernel_rfl) (by kernel_rfl) (by kernel_rfl) (fun _ _ _ h => h) (Or.inr ⟨by kernel_rfl, rfl⟩) (by assumption) ?_
                          simp only [List.setIfInBounds_toArray, List.set_cons_zero, List.set_cons_succ]
                          refine takeH (i := 29) (v := undef) 167 rfl rfl (by kernel_rfl) (by kernel_rfl) (by kernel_rfl) (fun _ _ _ h => h) (Or.inr ⟨by kernel_rfl, rfl⟩) (by assumption) ?_
                          simp only [List.setIfInBounds_toArray, List.set_cons_zero, List.set_cons_succ]
                          refine takeH (i := 30) (v := undef) 168 rfl rfl (by kernel_rfl) (by kernel_rfl) (by kernel_rfl) (fun _ _ _ h => h) (Or.inr ⟨by kernel_rfl, rfl⟩) (by assumption) ?_
                          simp only [List.setIfInBounds_toArray, List.set_cons_zero, List.set_cons_succ]
                          refine takeH (i := 31) (v := ?vv86) 169 rfl rfl (by kernel_rfl) (by kernel_rfl) (by kernel_rfl) (fun _ _ _ h => h) (Or.inl ⟨by kernel_rfl, ?yy86⟩) (by assumption) ?_
                          case yy86 => intro w hSw; (try dsimp only at hSw); go_simp; (try with_reducible rfl)
                          simp only [List.setIfInBounds_toArray, List.set_cons_zero, List.set_cons_succ]
                          refine takeH (i := 32) (v := ?vv87) 170 rfl rfl (by kernel_rfl) (by kernel_rfl) (by kernel_rfl) (fun _ _ _ h => h) (Or.inl ⟨by kernel_rfl, ?yy87⟩) (by assumption) ?_
                          case yy87 => intro w hSw; (try dsimp only at hSw); go_simp; (try with_reducible rfl)
                          simp only [List.setIfInBounds_toArray, List.set_cons_zero, List.set_cons_succ]
                          refine takeH (i := 33) (v := ?vv88) 15 rfl rfl (by kernel_rfl) (by kernel_rfl) (by kernel_rfl) (fun _ _ _ h => h) (Or.inl ⟨by kernel_rfl, ?yy88⟩) (by assumption) ?_
                          case yy88 => intro w hSw; (try dsimp only at hSw); go_simp; (try with_reducible rfl)
                          simp only [List.setIfInBounds_toArray, List.set_cons_zero, List.set_cons_succ]
                          refine wpAnyH_done (by kernel_rfl) ?_ _
                          clear hHeld
                          go_wp2
                          go_roundw
                          case rel => exact ⟨j + 1, by omega, by go_num, by rw [HFS.out, HMAY.out, HAT.out, HFJ.out, HEQ.out, HP.out, HL.out]; rfl, HBY.out.drew⟩
                          case measure => simp [intOf]; omega
                      · have t3 : decide (0 < tear) = false := by rw [decide_eq_false_iff_not]; exact hp
                        have HP := Lib.hid t3; clear hp
                        go_wp2_with fail
                        refine wp_region_held_drew (S := (fun w' => w'.cell? ⟨w1.heap.size, 0, none⟩ = some (.slice (some ⟨cb, coff, none⟩) c.S.length c1) ∧ w'.cell? ⟨cb, coff + k, none⟩ = some (.string (bs cs)) ∧ w'.cell? ⟨wr.heap.size, 1, none⟩ = some (.string (bs data)))) (by kernel_rfl) ?_ (fun hHeld => ?_)
                        · exact HS1.out
                        refine takeH (i := 0) (v := ?vv89) 138 rfl rfl (by kernel_rfl) (by kernel_rfl) (by kernel_rfl) (fun _ _ _ h => h) (Or.inl ⟨by kernel_rfl, ?yy89⟩) (by assumption) ?_
                        case yy89 => intro w hSw; (try dsimp only at hSw); go_simp; (try with_reducible rfl)
                        simp only [List.setIfInBounds_toArray, List.set_cons_zero, List.set_cons_succ]
                        refine takeH (i := 1) (v := ?vv90) 139 rfl rfl (by kernel_rfl) (by kernel_rfl) (by kernel_rfl) (fun _ _ _ h => h) (Or.inl ⟨by kernel_rfl, ?yy90⟩) (by assumption) ?_
                        case yy90 => intro w hSw; (try dsimp only at hSw); go_simp; (try with_reducible rfl)
                        simp only [List.setIfInBounds_toArray, List.set_cons_zero, List.set_cons_succ]
                        refine takeH (i := 2) (v := ?vv91) 140 rfl rfl (by kernel_rfl) (by kernel_rfl) (by kernel_rfl) (fun _ _ _ h => h) (Or.inl ⟨by kernel_rfl, ?yy91⟩) (by assumption) ?_
                        case yy91 => intro w hSw; (try dsimp only at hSw); go_simp; (try with_reducible rfl)
                        simp only [List.setIfInBounds_toArray, List.set_cons_zero, List.set_cons_succ]
                        refine takeH (i := 3) (v := ?vv92) 141 rfl rfl (by kernel_rfl) (by kernel_rfl) (by kernel_rfl) (fun _ _ _ h => h) (Or.inl ⟨by kernel_rfl, ?yy92⟩) (by assumption) ?_
                        case yy92 => intro w hSw; (try dsimp only at hSw); go_simp; (try with_reducible rfl)
                        simp only [List.setIfInBounds_toArray, List.set_cons_zero, List.set_cons_succ]
                        refine takeH (i := 4) (v := ?vv93) 142 rfl rfl (by kernel_rfl) (by kernel_rfl) (by kernel_rfl) (fun _ _ _ h => h) (Or.inl ⟨by kernel_rfl, ?yy93⟩) (by assumption) ?_
                        case yy93 => intro w hSw; (try dsimp only at hSw); go_simp; (try with_reducible rfl)
                        simp only [List.setIfInBounds_toArray, List.set_cons_zero, List.set_cons_succ]
                        refine takeH (i := 5) (v := ?vv94) 143 rfl rfl (by kernel_rfl) (by kernel_rfl) (by kernel_rfl) (fun _ _ _ h => h) (Or.inl ⟨by kernel_rfl, ?yy94⟩) (by assumption) ?_
                        case yy94 => intro w hSw; (try dsimp only at hSw); go_simp; (try with_reducible rfl)
                        simp only [List.setIfInBounds_toArray, List.set_cons_zero, List.set_cons_succ]
                        refine takeH (i := 6) (v := ?vv95) 144 rfl rfl (by kernel_rfl) (by kernel_rfl) (by kernel_rfl) (fun _ _ _ h => h) (Or.inl ⟨by kernel_rfl, ?yy95⟩) (by assumption) ?_
                        case yy95 => intro w hSw; (try dsimp only at hSw); go_simp; (try with_reducible rfl)
                        simp only [List.setIfInBounds_toArray, List.set_cons_zero, List.set_cons_succ]
                        refine takeH (i := 7) (v := ?vv96) 145 rfl rfl (by kernel_rfl) (by kernel_rfl) (by kernel_rfl) (fun _ _ _ h => h) (Or.inl ⟨by kernel_rfl, ?yy96⟩) (by assumption) ?_
                        case yy96 => intro w hSw; (try dsimp only at hSw); go_simp; (try with_reducible rfl)
                        simp only [List.setIfInBounds_toArray, List.set_cons_zero, List.set_cons_succ]
                        refine takeH (i := 8) (v := ?vv97) 146 rfl rfl (by kernel_rfl) (by kernel_rfl) (by kernel_rfl) (fun _ _ _ h => h) (Or.inl ⟨by kernel_rfl, ?yy97⟩) (by assumption) ?_
                        case yy97 => intro w hSw; (try dsimp only at hSw); go_simp; (try with_reducible rfl)
                        simp only [List.setIfInBounds_toArray, List.set_cons_zero, List.set_cons_succ]
                        refine takeH (i := 9) (v := ?vv98) 147 rfl rfl (by kernel_rfl) (by kernel_rfl) (by kernel_rfl) (fun _ _ _ h => h) (Or.inl ⟨by kernel_rfl, ?yy98⟩) (by assumption) ?_
                        case yy98 => intro w hSw; (try dsimp only at hSw); go_simp; (try with_reducible rfl)
                        simp only [List.setIfInBounds_toArray, List.set_cons_zero, List.set_cons_succ]
                        refine takeH (i := 10) (v := ?vv99) 148 rfl rfl (by kernel_rfl) (by kernel_rfl) (by kernel_rfl) (fun _ _ _ h => h) (Or.inl ⟨by kernel_rfl, ?yy99⟩) (by assumption) ?_
                        case yy99 => intro w hSw; (try dsimp only at hSw); go_simp; (try with_reducible rfl)
                        simp only [List.setIfInBounds_toArray, List.set_cons_zero, List.set_cons_succ]
                        refine takeH (i := 11) (v := ?vv100) 149 rfl rfl (by kernel_rfl) (by kernel_rfl) (by kernel_rfl) (fun _ _ _ h => h) (Or.inl ⟨by kernel_rfl, ?yy100⟩) (by assumption) ?_
                        case yy100 => intro w hSw; (try dsimp only at hSw); go_simp; (try with_reducible rfl)
                        simp only [List.setIfInBounds_toArray, List.set_cons_zero, List.set_cons_succ]
                        refine takeH (i := 12) (v := ?vv101) 150 rfl rfl (by kernel_rfl) (by kernel_rfl) (by kernel_rfl) (fun _ _ _ h => h) (Or.inl ⟨by kernel_rfl, ?yy101⟩) (by assumption) ?_
                        case yy101 => intro w hSw; (try dsimp only at hSw); go_simp; (try with_reducible rfl)
                        simp only [List.setIfInBounds_toArray, List.set_cons_zero, List.set_cons_succ]
                        refine takeH (i := 13) (v := ?vv102) 151 rfl rfl (by kernel_rfl) (by kernel_rfl) (by kernel_rfl) (fun _ _ _ h => h) (Or.inl ⟨by kernel_rfl, ?yy102⟩) (by assumption) ?_
                        case yy102 => intro w hSw; (try dsimp only at hSw); go_simp; (try with_reducible rfl)
                        simp only [List.setIfInBounds_toArray, List.set_cons_zero, List.set_cons_succ]
                        refine takeH (i := 14) (v := ?vv103) 152 rfl rfl (by kernel_rfl) (by kernel_rfl) (by kernel_rfl) (fun _ _ _ h => h) (Or.inl ⟨by kernel_rfl, ?yy103⟩) (by assumption) ?_
                        case yy103 => intro w hSw; (try dsimp only at hSw); go_simp; (try with_reducible rfl)
                        simp only [List.setIfInBounds_toArray, List.set_cons_zero, List.set_cons_succ]
                        refine takeH (i := 15) (v := undef) 153 rfl rfl (by kernel_rfl) (by kernel_rfl) (by kernel_rfl) (fun _ _ _ h => h) (Or.inr ⟨by kernel_rfl, rfl⟩) (by assumption) ?_
                        simp only [List.setIfInBounds_toArray, List.set_cons_zero, List.set_cons_succ]
                        refine takeH (i := 16) (v := undef) 154 rfl rfl (by kernel_rfl) (by kernel_rfl) (by kernel_rfl) (fun _ _ _ h => h) (Or.inr ⟨by kernel_rfl, rfl⟩) (by assumption) ?_
                        simp only [List.setIfInBounds_toArray, List.set_cons_zero, List.set_cons_succ]
                        refine takeH (i := 17) (v := ?vv104) 155 rfl rfl (by kernel_rfl) (by kernel_rfl) (by kernel_rfl) (fun _ _ _ h => h) (Or.inl ⟨by kernel_rfl, ?yy104⟩) (by assumption) ?_
                        case yy104 => intro w hSw; (try dsimp only at hSw); go_simp; (try with_reducible rfl)
                        simp only [List.setIfInBounds_toArray, List.set_cons_zero, List.set_cons_succ]
                        refine takeH (i := 18) (v := ?vv105) 156 rfl rfl (by kernel_rfl) (by kernel_rfl) (by kernel_rfl) (fun _ _ _ h => h) (Or.inl ⟨by kernel_rfl, ?yy105⟩) (by assumption) ?_
                        case yy105 => intro w hSw; (try dsimp only at hSw); go_simp; (try with_reducible rfl)
                        simp only [List.setIfInBounds_toArray, List.set_cons_zero, List.set_cons_succ]
                        refine takeH (i := 19) (v := undef) 157 rfl rfl (by kernel_rfl) (by kernel_rfl) (by kernel_rfl) (fun _ _ _ h => h) (Or.inr ⟨by kernel_rfl, rfl⟩) (by assumption) ?_
                        simp only [List.setIfInBounds_toArray, List.set_cons_zero, List.set_cons_succ]
                        refine takeH (i := 20) (v := undef) 158 rfl rfl (by kernel_rfl) (by kernel_rfl) (by kernel_rfl) (fun _ _ _ h => h) (Or.inr ⟨by kernel_rfl, rfl⟩) (by assumption) ?_
                        simp only [List.setIfInBounds_toArray, List.set_cons_zero, List.set_cons_succ]
                        refine takeH (i := 21) (v := undef) 159 rfl rfl (by kernel_rfl) (by kernel_rfl) (by kernel_rfl) (fun _ _ _ h => h) (Or.inr ⟨by kernel_rfl, rfl⟩) (by assumption) ?_
                        simp only [List.setIfInBounds_toArray, List.set_cons_zero, List.set_cons_succ]
                        refine takeH (i := 22) (v := undef) 160 rfl rfl (by kernel_rfl) (by kernel_rfl) (by kernel_rfl) (fun _ _ _ h => h) (Or.inr ⟨by kernel_rfl, rfl⟩) (by assumption) ?_
                        simp only [List.setIfInBounds_toArray, List.set_cons_zero, List.set_cons_succ]
                        refine takeH (i := 23) (v := undef) 161 rfl rfl (by kernel_rfl) (by kernel_rfl) (by kernel_rfl) (fun _ _ _ h => h) (Or.inr ⟨by kernel_rfl, rfl⟩) (by assumption) ?_
                        simp only [List.setIfInBounds_toArray, List.set_cons_zero, List.set_cons_succ]
                        refine takeH (i := 24) (v := undef) 162 rfl rfl (by kernel_rfl) (by kernel_rfl) (by kernel_rfl) (fun _ _ _ h => h) (Or.inr ⟨by kernel_rfl, rfl⟩) (by assumption) ?_
                        simp only [List.setIfInBounds_toArray, List.set_cons_zero, List.set_cons_succ]
                        refine takeH (i := 25) (v := undef) 163 rfl rfl (by kernel_rfl) (by kernel_rfl) (by kernel_rfl) (fun _ _ _ h => h) (Or.inr ⟨by kernel_rfl, rfl⟩) (by assumption) ?_
                        simp only [List.setIfInBounds_toArray, List.set_cons_zero, List.set_cons_succ]
                        refine takeH (i := 26) (v := undef) 164 rfl rfl (by kernel_rfl) (by kernel_rfl) (by kernel_rfl) (fun _ _ _ h => h) (Or.inr ⟨by kernel_rfl, rfl⟩) (by assumption) ?_
                        simp only [List.setIfInBounds_toArray, List.set_cons_zero, List.set_cons_succ]
                        refine takeH (i := 27) (v := undef) 165 rfl rfl (by kernel_rfl) (by kernel_rfl) (by kernel_rfl) (fun _ _ _ h => h) (Or.inr ⟨by kernel_rfl, rfl⟩) (by assumption) ?_
                        simp only [List.setIfInBounds_toArray, List.set_cons_zero, List.set_cons_succ]
                        refine takeH (i := 28) (v := undef) 166 rfl rfl (by kernel_rfl) (by kernel_rfl) (by kernel_rfl) (fun _ _ _ h => h) (Or.inr ⟨by kernel_rfl, rfl⟩) (by assumption) ?_
                        simp only [List.setIfInBounds_toArray, List.set_cons_zero, List.set_cons_succ]
                        refine takeH (i := 29) (v := undef) 167 rfl rfl (by kernel_rfl) (by kernel_rfl) (by kernel_rfl) (fun _ _ _ h => h) (Or.inr ⟨by kernel_rfl, rfl⟩) (by assumption) ?_
                        simp only [List.setIfInBounds_toArray, List.set_cons_zero, List.set_cons_succ]
                        refine takeH (i := 30) (v := undef) 168 rfl rfl (by kernel_rfl) (by kernel_rfl) (by kernel_rfl) (fun _ _ _ h => h) (Or.inr ⟨by kernel_rfl, rfl⟩) (by assumption) ?_
                        simp only [List.setIfInBounds_toArray, List.set_cons_zero, List.set_cons_succ]
                        refine takeH (i := 31) (v := ?vv106) 169 rfl rfl (by kernel_rfl) (by kernel_rfl) (by kernel_rfl) (fun _ _ _ h => h) (Or.inl ⟨by kernel_rfl, ?yy106⟩) (by assumption) ?_
                        case yy106 => intro w hSw; (try dsimp only at hSw); go_simp; (try with_reducible rfl)
                        simp only [List.setIfInBounds_toArray, List.set_cons_zero, List.set_cons_succ]
                        refine takeH (i := 32) (v := ?vv107) 170 rfl rfl (by kernel_rfl) (by kernel_rfl) (by kernel_rfl) (fun _ _ _ h => h) (Or.inl ⟨by kernel_rfl, ?yy107⟩) (by assumption) ?_
                        case yy107 => intro w hSw; (try dsimp only at hSw); go_simp; (try with_reducible rfl)
                        simp only [List.setIfInBounds_toArray, List.set_cons_zero, List.set_cons_succ]
                        refine takeH (i := 33) (v := ?vv108) 15 rfl rfl (by kernel_rfl) (by kernel_rfl) (by kernel_rfl) (fun _ _ _ h => h) (Or.inl ⟨by kernel_rfl, ?yy108⟩) (by assumption) ?_
                        case yy108 => intro w hSw; (try dsimp only at hSw); go_simp; (try with_reducible rfl)
                        simp only [List.setIfInBounds_toArray, List.set_cons_zero, List.set_cons_succ]
                        refine wpAnyH_done (by kernel_rfl) ?_ _
                        clear hHeld
                        go_wp2
                        go_roundw
                        case rel => exact ⟨j + 1, by omega, by go_num, by rw [HFS.out, HMAY.out, HAT.out, HFJ.out, HEQ.out, HP.out]; rfl, HBY.out.drew⟩
                        case measure => simp [intOf]; omega
                · have t1 : (n != (k : Int)) = true := by rw [bne_iff_ne]; exact hat
                  have HAT := Lib.hid (show decide (n = (k : Int)) = false by rw [decide_eq_false_iff_not]; exact hat); clear hat
                  go_wp2
                  go_roundw
                  case rel => exact ⟨j + 1, by omega, by go_num, by rw [HFS.out, HMAY.out, HAT.out, Bool.false_and, Bool.or_false], HBY.out⟩
                  case measure => simp [intOf]; omega
              · obtain rfl : j = d.P.length := by omega
                have hfin := fnd_crash HV.out kb tear k hlt
                rw [HCG.out] at hfin
                rw [hfin]
                have KF := Lib.hid (btrans HBQ.out HBQ.out.size KX.out)
                clear hfin hjl hj HBX KX
                go_wp2
                go_roundw
                case rel => exact ⟨k + 1, by omega, by go_num, KF.out⟩
                case measure => simp [intOf]; omega
          · obtain rfl : k = d.S.length := by omega
            clear hlt hk
            go_wp2_with fail
            refine (examples_any _).mono ?_
            rintro e w9 ⟨rfl, hb9⟩
            have K9 := Lib.hid hb9; clear hb9
            go_wp2_with fail
            go_ret
            exact ⟨rfl, btrans HBw.out HBw.out.size K9.out⟩

theorem crashesLaw (sa : Option Addr) (sc : Nat) (pa : Option Addr) (pc : Nat) (d : Dk) {w0 : World} (h1 : StrS w0 (.slice sa d.S.length sc) d.S) (h2 : WrS w0 (.slice pa d.P.length pc) d.P) (h3 : d.P.length ≤ 5864062014805) (h4 : d.S.length ≤ 9000000000000)
    (ka : Option Addr) (kc : Nat) (kb : List Bool) (hS : BoS w0.heap.size w0 (.slice ka kb.length kc) kb) (_hkl : kb.length ≤ 140737488355328) (tear : Int) (_wl : (Lit.int .i64 tear).wf = true) (w : World) (hw : w0 = w := by rfl) :
    Calls Try.prog 10 #[.agg #[.slice sa d.S.length sc, .slice pa d.P.length pc, .int .i64 d.fuse, .int .i64 d.ops, .bool d.dead], .slice ka kb.length kc, .int .i64 tear] w fun e w' => e = .returned (.bool true) ∧ Below w.heap.size w w' := by
  subst hw; exact crashesWalk sa pa ka sc pc kc d kb tear w0 (disk_bounds h1 h2 h3 h4) hS
end Go.Proofs.Ytnghdolpmmdknaa
