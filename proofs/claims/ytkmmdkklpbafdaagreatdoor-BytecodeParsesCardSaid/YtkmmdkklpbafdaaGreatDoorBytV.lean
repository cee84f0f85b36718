/- The walk of the examples of layer 16's laws, and of BytecodeNames. No conditions. -/
import Derived.Test.YtkmmdkklpbafdaaGreatDoorBytO
namespace Go.Proofs.YtkmmdkklpbafdaaGreatDoor
open Go.RowKit

def livS : List UInt8 := [112, 97, 114, 97, 109, 115, 32, 105, 110, 116, 10, 115, 108, 111, 116, 115, 32, 49, 10, 48, 32, 116, 105, 99, 107, 10, 49, 32, 105, 110, 116, 32, 49, 10, 50, 32, 108, 111, 97, 100, 32, 48, 10, 51, 32, 111, 112, 32, 97, 100, 100, 10, 52, 32, 101, 109, 105, 116, 10, 53, 32, 101, 110, 100, 10]
def livL : List Ins := [⟨14, 0, 0, 0, []⟩, ⟨1, 0, 0, 1, []⟩, ⟨3, 0, 0, 0, []⟩, ⟨5, 4, 0, 0, []⟩, ⟨10, 0, 0, 0, []⟩, ⟨13, 0, 0, 0, []⟩]
def livC : Cd := ⟨[1], 1, livL⟩
def badL : List Ins := [⟨1, 0, 0, 0, []⟩, ⟨13, 0, 0, 0, []⟩]
theorem lv1 : parC livS = (livC, 0, 0) := by decide +kernel
theorem lv2 : valC livC = 0 := by decide +kernel
theorem lv3 : fmtC livC = livS := by decide +kernel
theorem lv4 : valC ⟨[], 0, []⟩ = 23 := by decide +kernel
theorem lv5 : valC ⟨[], 0, badL⟩ = 23 := by decide +kernel
theorem livR : ∀ x ∈ livL, InsR x := by
  intro x hx
  simp only [livL, List.mem_cons, List.not_mem_nil, or_false] at hx
  rcases hx with rfl | rfl | rfl | rfl | rfl | rfl <;> exact ⟨⟨by decide, by decide⟩, ⟨by decide, by decide⟩, ⟨by decide, by decide⟩, by decide⟩
theorem cellsAt_box {W : World} {b n c : Nat} {xs : List Value} {T : TypeId} (h : Bx b xs.toArray T W) : CellsAt W (.slice (some ⟨b, 0, none⟩) n c) n xs := by
  refine ⟨_, _, rfl, fun _ => ⟨_, _, rfl, fun j y hj => ?_⟩⟩
  rw [Nat.zero_add, h.cell j, List.getElem?_toArray]; exact hj
theorem cellsAt_nil (W : World) (n c : Nat) : CellsAt W (.slice none n c) n [] := ⟨_, _, rfl, fun h => absurd rfl h⟩
theorem boxes3 (w : World) (A : Array Value) (S : TypeId) (B : Array Value) (T : TypeId) (C : Array Value) (U : TypeId) : ∃ v0, ((w.alloc (.cells A S)).alloc (.cells B T)).alloc (.cells C U) = v0 ∧ Below w.heap.size w v0 ∧ Bx w.heap.size A S v0 ∧ Bx (w.heap.size + 1) B T v0 ∧ Bx (w.heap.size + 2) C U v0 := by
  obtain ⟨v1, h1, h2, h3, h4⟩ := boxes2 w A S B T
  refine ⟨_, rfl, ?_, ?_, ?_, ?_⟩
  · rw [h1]; exact h2.alloc (h2.size) _
  · rw [h1]; exact h3.alloc _
  · rw [h1]; exact h4.alloc _
  · have h := Bx.new ((w.alloc (.cells A S)).alloc (.cells B T)) C U
    have e : ((w.alloc (.cells A S)).alloc (.cells B T)).heap.size = w.heap.size + 2 := by simp
    rw [e] at h
    exact h

set_option maxRecDepth 100000 in
set_option maxHeartbeats 16000000 in
theorem lives16 (w : World) (hB : LaidB w) :
    Calls Tryz.prog 11 #[] w fun e w' => e = .returned (.bool true) ∧ Below w.heap.size w w' := by
  have HLB := Lib.hid hB; clear hB
  obtain ⟨v0, hW0, hb0, h1, h2, h3⟩ := boxes3 w (intsL [1]).toArray 3 (insLs livL).toArray 39 #[.slice (some ⟨w.heap.size, 0, none⟩) 1 1, .int .i64 1, .slice (some ⟨w.heap.size + 1, 0, none⟩) 6 6] 25
  have HW := Lib.hid hW0; have HB := Lib.hid hb0; have H1 := Lib.hid h1; have H2 := Lib.hid h2; have HC := Lib.hid h3; clear hW0 hb0 h1 h2 h3
  go_enter Tryz.func11, Tryz.ntmps11
  go_upto_region 3 with (fail)
  have hw := HW.out
  rw [show (((w.alloc (.cells #[.int .i64 1] 3)).alloc (.cells #[.int .i64 14, .int .i64 0, .int .i64 0, .int .i64 0, .string ⟨#[]⟩, .int .i64 1, .int .i64 0, .int .i64 0, .int .i64 1, .string ⟨#[]⟩, .int .i64 3, .int .i64 0, .int .i64 0, .int .i64 0, .string ⟨#[]⟩, .int .i64 5, .int .i64 4, .int .i64 0, .int .i64 0, .string ⟨#[]⟩, .int .i64 10, .int .i64 0, .int .i64 0, .int .i64 0, .string ⟨#[]⟩, .int .i64 13, .int .i64 0, .int .i64 0, .int .i64 0, .string ⟨#[]⟩] 39)).alloc (.cells #[.slice (some ⟨w.heap.size, 0, none⟩) 1 1, .int .i64 1, .slice (some ⟨w.heap.size + 1, 0, none⟩) 6 6] 25)) = v0 from hw]
  clear HW hw
  go_wp2_with fail
  refine (CParse_any livS _ (by decide) (HLB.out.below HB.out)).mono ?_
  rw [lv1]
  rintro er w1 ⟨qa, qc, ja, jc, rfl, hq1, hq2, hb1⟩
  simp only [livC] at hq1 hq2
  have HB := Lib.hid (btrans HB.out HB.out.size hb1); have H1 := Lib.hid (H1.out.call hb1); have H2 := Lib.hid (H2.out.call hb1); have HC := Lib.hid (HC.out.call hb1); clear hb1
  have hal := (Below.refl w1.heap.size w1).alloc (Nat.le_refl _) (.cells #[.slice qa 1 qc, .int .i64 1, .slice ja 6 jc] 25)
  have HD := Lib.hid (Bx.new w1 #[.slice qa 1 qc, .int .i64 1, .slice ja 6 jc] 25)
  have HQ1 := Lib.hid (hq1.below hal); have HQ2 := Lib.hid (hq2.below hal); clear hq1 hq2
  have hb2 := hal; clear hal
  have HB := Lib.hid (btrans HB.out HB.out.size hb2); have H1 := Lib.hid (H1.out.call hb2); have H2 := Lib.hid (H2.out.call hb2); have HC := Lib.hid (HC.out.call hb2); clear hb2
  go_upto_region 4 with (fail)
  skip
  (try rw [show livC.p.length = 1 from rfl])
  (try rw [show livC.l.length = 6 from rfl])
  (try rw [show livC.sl = 1 from rfl])
  generalize hW : w1.alloc (.cells #[.slice qa 1 qc, .int .i64 1, .slice ja 6 jc] 25) = v2 at HD HQ1 HQ2 HB H1 H2 HC ⊢
  clear hW
  obtain ⟨c0, c1, c2⟩ := HC.out.c3
  obtain ⟨d0, d1, d2⟩ := HD.out.c3
  go_wp2_with fail
  refine (Validate_any (some ⟨w.heap.size, 0, none⟩) (some ⟨w.heap.size + 1, 0, none⟩) 1 6 [1] 1 livL _ (cellsAt_box H1.out) (cellsAt_box H2.out) (by decide) (by decide) (HLB.out.below HB.out)).mono ?_
  rw [show valC ⟨[1], 1, livL⟩ = 0 from lv2]
  rintro er w3 ⟨rfl, hb3⟩
  clear c0 c1 c2 d0 d1 d2
  have HB := Lib.hid (btrans HB.out HB.out.size hb3); have H1 := Lib.hid (H1.out.call hb3); have H2 := Lib.hid (H2.out.call hb3); have HC := Lib.hid (HC.out.call hb3); have HD := Lib.hid (HD.out.call hb3); have HQ1 := Lib.hid (HQ1.out.below hb3); have HQ2 := Lib.hid (HQ2.out.below hb3); clear hb3
  obtain ⟨c0, c1, c2⟩ := HC.out.c3
  obtain ⟨d0, d1, d2⟩ := HD.out.c3
  go_wp2_with fail
  refine (CFormat_any (some ⟨w.heap.size, 0, none⟩) (some ⟨w.heap.size + 1, 0, none⟩) 1 6 [1] 1 livL _ (cellsAt_box H1.out) (cellsAt_box H2.out) (by decide) livR (by decide) (HLB.out.below HB.out)).mono ?_
  rw [show fmtC ⟨[1], 1, livL⟩ = livS from lv3]
  rintro er w4 ⟨rfl, hb4⟩
  clear c0 c1 c2 d0 d1 d2
  have HB := Lib.hid (btrans HB.out HB.out.size hb4); have H1 := Lib.hid (H1.out.call hb4); have H2 := Lib.hid (H2.out.call hb4); have HC := Lib.hid (HC.out.call hb4); have HD := Lib.hid (HD.out.call hb4); have HQ1 := Lib.hid (HQ1.out.below hb4); have HQ2 := Lib.hid (HQ2.out.below hb4); clear hb4
  obtain ⟨c0, c1, c2⟩ := HC.out.c3
  obtain ⟨d0, d1, d2⟩ := HD.out.c3
  have tS : (livS == livS) = true := beq_self_eq_true _
  go_wp2_with fail
  refine (REqual_any (some ⟨w.heap.size, 0, none⟩) (some ⟨w.heap.size + 1, 0, none⟩) qa ja 1 6 qc jc [1] [1] 1 1 livL livL _ (cellsAt_box H1.out) (cellsAt_box H2.out) HQ1.out HQ2.out (by decide) (by decide)).mono ?_
  rw [decide_eq_true rfl]
  rintro er w5 ⟨rfl, hb5⟩
  clear c0 c1 c2 d0 d1 d2
  have HB := Lib.hid (btrans HB.out HB.out.size hb5); have H1 := Lib.hid (H1.out.call hb5); have H2 := Lib.hid (H2.out.call hb5); have HC := Lib.hid (HC.out.call hb5); have HD := Lib.hid (HD.out.call hb5); have HQ1 := Lib.hid (HQ1.out.below hb5); have HQ2 := Lib.hid (HQ2.out.below hb5); clear hb5
  obtain ⟨c0, c1, c2⟩ := HC.out.c3
  obtain ⟨d0, d1, d2⟩ := HD.out.c3
  go_wp2_with fail
  refine (Validate_any none none 0 0 [] 0 [] _ (cellsAt_nil _ _ _) (cellsAt_nil _ _ _) (by decide) (by simp) (HLB.out.below HB.out)).mono ?_
  rw [lv4]
  rintro er w6 ⟨rfl, hb6⟩
  clear c0 c1 c2 d0 d1 d2
  have HB := Lib.hid (btrans HB.out HB.out.size hb6); have H1 := Lib.hid (H1.out.call hb6); have H2 := Lib.hid (H2.out.call hb6); have HC := Lib.hid (HC.out.call hb6); have HD := Lib.hid (HD.out.call hb6); have HQ1 := Lib.hid (HQ1.out.below hb6); have HQ2 := Lib.hid (HQ2.out.below hb6); clear hb6
  obtain ⟨c0, c1, c2⟩ := HC.out.c3
  obtain ⟨d0, d1, d2⟩ := HD.out.c3
  clear c0 c1 c2 d0 d1 d2
  have hal := (Below.refl w6.heap.size w6).alloc (Nat.le_refl _) (.cells (insLs badL).toArray 39)
  have HE := Lib.hid (Bx.new w6 (insLs badL).toArray 39)
  have HB := Lib.hid (btrans HB.out HB.out.size hal); clear hal
  go_wp2_with fail
  refine (Validate_any none (some ⟨w6.heap.size, 0, none⟩) 0 2 [] 0 badL (w6.alloc (.cells (insLs badL).toArray 39)) (cellsAt_nil _ _ _) (cellsAt_box HE.out) (by decide) (by decide) (HLB.out.below HB.out)).mono ?_
  rw [lv5]
  rintro er w7 ⟨rfl, hb7⟩
  go_wp2
  go_ret
  exact ⟨rfl, btrans HB.out HB.out.size hb7⟩
set_option maxRecDepth 100000 in
set_option maxHeartbeats 8000000 in
theorem namesWalk (op : Int) (_ : (Lit.int .i64 op).wf = true) (w : World) (hB : LaidB w) :
    Calls Tryz.prog 4 #[.int .i64 op] w fun e w' => e = .returned (.bool true) ∧ Below w.heap.size w w' := by
  have HLB := Lib.hid hB; clear hB
  obtain ⟨nm, hnm⟩ : ∃ x, nameS op = x := ⟨_, rfl⟩
  have HN := Lib.hid hnm; clear hnm
  have q1 : (nm == nm) = true := beq_self_eq_true _
  have HB := Lib.hid (Below.refl w.heap.size w)
  go_enter Tryz.func4, Tryz.ntmps4
  go_wp2_with fail
  refine (Name_any op _ (HLB.out.below HB.out)).mono ?_
  rw [HN.out]
  rintro er w1 ⟨rfl, hb1⟩
  have HB := Lib.hid (btrans HB.out HB.out.size hb1); clear hb1
  go_wp2_with fail
  refine (RName_any op _).mono ?_
  rw [HN.out]
  rintro er w2 ⟨rfl, hb1⟩
  have HB := Lib.hid (btrans HB.out HB.out.size hb1); clear hb1
  go_wp2_with fail
  refine (lives16 _ (HLB.out.below HB.out)).mono ?_
  rintro er w3 ⟨rfl, hb1⟩
  have HB := Lib.hid (btrans HB.out HB.out.size hb1); clear hb1
  go_wp2
  go_ret
  exact ⟨rfl, HB.out⟩
end Go.Proofs.YtkmmdkklpbafdaaGreatDoor
