/- The walks of the laws of layer 1 (num). The library's variables are as the program's start lays them (Laid). -/
import Derived.Test.YtmcenojiapjcoaaDoorNumParse2
namespace Go.Proofs.YtmcenojiapjcoaaDoor
open Go.RowKit

def I64 (a : Int) : Prop := -9223372036854775808 ≤ a ∧ a ≤ 9223372036854775807
theorem of_wf {a : Int} (h : (Lit.int .i64 a).wf = true) : I64 a := by
  simp only [Lit.wf, IntKind.min, IntKind.max, IntKind.signed, IntKind.bits, Bool.and_eq_true, decide_eq_true_eq, if_true] at h
  unfold I64; omega
theorem i64_fits {a : Int} : I64 a ↔ fits a = true := (fits_iff a).symm
theorem addS_bd (a b : Int) : I64 (addS a b).1 := by unfold addS; split <;> (rename_i h; first | exact i64_fits.2 h | (unfold I64; simp))
theorem subS_bd (a b : Int) : I64 (subS a b).1 := by unfold subS; split <;> (rename_i h; first | exact i64_fits.2 h | (unfold I64; simp))
theorem mulS_bd (a b : Int) : I64 (mulS a b).1 := by unfold mulS; split <;> (rename_i h; first | exact i64_fits.2 h | (unfold I64; simp))
theorem parseS_bd (l : List UInt8) : I64 (parseS l).1 := by
  unfold parseS
  split
  · split
    · rename_i h; exact i64_fits.2 h
    · unfold I64; simp
  · unfold I64; simp
theorem add_err (a b : Int) : (addS a b).2 = 0 ∨ (addS a b).2 = 3 := by unfold addS; split <;> simp
theorem mul_err (a b : Int) : (mulS a b).2 = 0 ∨ (mulS a b).2 = 3 := by unfold mulS; split <;> simp
theorem add_inv {a b x : Int} (h : addS a b = (x, 0)) : x = a + b ∧ fits (a + b) = true := by
  unfold addS at h
  split at h
  · simp at h; exact ⟨h.symm, by assumption⟩
  · simp at h
theorem mul_inv {a b x : Int} (h : mulS a b = (x, 0)) : x = a * b ∧ fits (a * b) = true := by
  unfold mulS at h
  split at h
  · simp at h; exact ⟨h.symm, by assumption⟩
  · simp at h
theorem itoa12 : Lib.itoa (-12) = [45, 49, 50] := by
  unfold Lib.itoa
  rw [if_pos (by decide), show (-12 : Int).natAbs = 12 from rfl, Lib.decDigits_two (by decide) (by decide)]
  rfl

set_option maxRecDepth 100000 in
set_option maxHeartbeats 2000000 in
theorem lives_any (w : World) (hL : Laid w) : Calls Tryd.prog 13 #[] w fun e w' => e = .returned (.bool true) ∧ Below w.heap.size w w' := by
  have H1 := Lib.hid (show addS 2 3 = (5, 0) by decide +kernel)
  have H2 := Lib.hid (show divS (-7) 2 = (-4, 0) by decide +kernel)
  have H3 := Lib.hid (show modS (-7) 2 = (1, 0) by decide +kernel)
  have H4 := Lib.hid (show parseS [45, 49, 50] = (-12, 0) by decide +kernel)
  have H5 := Lib.hid (show parseS [57, 50, 50, 51, 51, 55, 50, 48, 51, 54, 56, 53, 52, 55, 55, 53, 56, 48, 56] = (0, 3) by decide +kernel)
  have H6 := Lib.hid itoa12
  go_enter Tryd.func13, Tryd.ntmps13
  go_wp2_with fail
  refine (Add_any 2 3 _ (by omega) (by omega) (by omega) (by omega)).mono ?_
  rw [H1.out]; rintro e w' ⟨rfl, rfl⟩
  go_wp2_with fail
  refine (Div_any (-7) 2 _ (by omega) (by omega) (by omega) (by omega)).mono ?_
  rw [H2.out]; rintro e w' ⟨rfl, rfl⟩
  go_wp2_with fail
  refine (Mod_any (-7) 2 _ (by omega) (by omega) (by omega) (by omega)).mono ?_
  rw [H3.out]; rintro e w' ⟨rfl, rfl⟩
  go_wp2_with fail
  refine (Parse_any [45, 49, 50] _ (by decide) hL).mono ?_
  rw [H4.out]; rintro e w1 ⟨rfl, hb1⟩
  have hL1 := hL.below hb1
  go_wp2_with fail
  refine (Parse_any [57, 50, 50, 51, 51, 55, 50, 48, 51, 54, 56, 53, 52, 55, 55, 53, 56, 48, 56] _ (by decide) hL1).mono ?_
  rw [H5.out]; rintro e w2 ⟨rfl, hb2⟩
  have hL2 := hL1.below hb2
  have hb3 := btrans hb1 hb1.size hb2
  clear hb1 hb2 hL1 hL
  go_wp2_with fail
  refine (Format_any (-12) _ (by omega) (by omega) hL2).mono ?_
  rw [H6.out]; rintro e w3 ⟨rfl, hb4⟩
  go_wp2
  go_ret
  exact ⟨rfl, btrans hb3 hb3.size hb4⟩

set_option maxRecDepth 100000 in
set_option maxHeartbeats 2000000 in
theorem addsLaw (a : Int) (wa : (Lit.int .i64 a).wf = true) (b : Int) (wb : (Lit.int .i64 b).wf = true) (w : World) (hL : Laid w) :
    Calls Tryd.prog 8 #[.int .i64 a, .int .i64 b] w fun e w' => e = .returned (.bool true) ∧ Below w.heap.size w w' := by
  obtain ⟨a1, a2⟩ := of_wf wa
  obtain ⟨b1, b2⟩ := of_wf wb
  clear wa wb
  obtain ⟨⟨x, e⟩, hx⟩ : ∃ q, addS a b = q := ⟨_, rfl⟩
  obtain ⟨⟨y, f⟩, hy⟩ : ∃ q, subS a b = q := ⟨_, rfl⟩
  obtain ⟨⟨z, g⟩, hz⟩ : ∃ q, negS a = q := ⟨_, rfl⟩
  have HX := Lib.hid hx; clear hx
  have HY := Lib.hid hy; clear hy
  have HZ := Lib.hid hz; clear hz
  go_enter Tryd.func8, Tryd.ntmps8
  go_wp2_with fail
  refine (Add_any a b _ a1 a2 b1 b2).mono ?_
  rw [HX.out]; rintro e w' ⟨rfl, rfl⟩
  go_wp2_with fail
  refine (RAdd_any a b _ a1 a2 b1 b2).mono ?_
  rw [HX.out]; rintro e w' ⟨rfl, rfl⟩
  go_wp2_with fail
  refine (Sub_any a b _ a1 a2 b1 b2).mono ?_
  rw [HY.out]; rintro e w' ⟨rfl, rfl⟩
  go_wp2_with fail
  refine (RSub_any a b _ a1 a2 b1 b2).mono ?_
  rw [HY.out]; rintro e w' ⟨rfl, rfl⟩
  go_wp2_with fail
  refine (Neg_any a _ a1 a2).mono ?_
  rw [HZ.out]; rintro e w' ⟨rfl, rfl⟩
  go_wp2_with fail
  refine (RNeg_any a _ a1 a2).mono ?_
  rw [HZ.out]; rintro e w' ⟨rfl, rfl⟩
  go_wp2_with (go_at_call 13; refine (lives_any _ hL).mono ?_; rintro e w5 ⟨rfl, hb⟩)
  go_ret
  exact ⟨rfl, hb⟩

set_option maxRecDepth 100000 in
set_option maxHeartbeats 2000000 in
theorem multipliesLaw (a : Int) (wa : (Lit.int .i64 a).wf = true) (b : Int) (wb : (Lit.int .i64 b).wf = true) (w : World) (hL : Laid w) :
    Calls Tryd.prog 9 #[.int .i64 a, .int .i64 b] w fun e w' => e = .returned (.bool true) ∧ Below w.heap.size w w' := by
  obtain ⟨a1, a2⟩ := of_wf wa
  obtain ⟨b1, b2⟩ := of_wf wb
  clear wa wb
  obtain ⟨⟨x, e⟩, hx⟩ : ∃ q, mulS a b = q := ⟨_, rfl⟩
  have HX := Lib.hid hx; clear hx
  go_enter Tryd.func9, Tryd.ntmps9
  go_wp2_with fail
  refine (Mul_any a b _ a1 a2 b1 b2).mono ?_
  rw [HX.out]; rintro e w' ⟨rfl, rfl⟩
  go_wp2_with fail
  refine (RMul_any a b _ a1 a2 b1 b2).mono ?_
  rw [HX.out]; rintro e w' ⟨rfl, rfl⟩
  go_wp2_with (go_at_call 13; refine (lives_any _ hL).mono ?_; rintro e w5 ⟨rfl, hb⟩)
  go_ret
  exact ⟨rfl, hb⟩

set_option maxRecDepth 100000 in
set_option maxHeartbeats 2000000 in
theorem quotientsLaw (a : Int) (wa : (Lit.int .i64 a).wf = true) (b : Int) (wb : (Lit.int .i64 b).wf = true) (w : World) (hL : Laid w) :
    Calls Tryd.prog 4 #[.int .i64 a, .int .i64 b] w fun e w' => e = .returned (.bool true) ∧ Below w.heap.size w w' := by
  obtain ⟨a1, a2⟩ := of_wf wa
  obtain ⟨b1, b2⟩ := of_wf wb
  clear wa wb
  obtain ⟨⟨x, e⟩, hx⟩ : ∃ q, divS a b = q := ⟨_, rfl⟩
  obtain ⟨⟨y, f⟩, hy⟩ : ∃ q, modS a b = q := ⟨_, rfl⟩
  have HX := Lib.hid hx; clear hx
  have HY := Lib.hid hy; clear hy
  go_enter Tryd.func4, Tryd.ntmps4
  go_wp2_with fail
  refine (Div_any a b _ a1 a2 b1 b2).mono ?_
  rw [HX.out]; rintro e w' ⟨rfl, rfl⟩
  go_wp2_with fail
  refine (RDiv_any a b _ a1 a2 b1 b2).mono ?_
  rw [HX.out]; rintro e w' ⟨rfl, rfl⟩
  go_wp2_with fail
  refine (Mod_any a b _ a1 a2 b1 b2).mono ?_
  rw [HY.out]; rintro e w' ⟨rfl, rfl⟩
  go_wp2_with fail
  refine (RMod_any a b _ a1 a2 b1 b2).mono ?_
  rw [HY.out]; rintro e w' ⟨rfl, rfl⟩
  go_wp2_with (go_at_call 13; refine (lives_any _ hL).mono ?_; rintro e w5 ⟨rfl, hb⟩)
  go_ret
  exact ⟨rfl, hb⟩

set_option maxRecDepth 100000 in
set_option maxHeartbeats 2000000 in
theorem formatsLaw (a : Int) (wa : (Lit.int .i64 a).wf = true) (w : World) (hL : Laid w) :
    Calls Tryd.prog 5 #[.int .i64 a] w fun e w' => e = .returned (.bool true) ∧ Below w.heap.size w w' := by
  obtain ⟨a1, a2⟩ := of_wf wa
  clear wa
  obtain ⟨l, hl⟩ : ∃ l, Lib.itoa a = l := ⟨_, rfl⟩
  have HX := Lib.hid hl; clear hl
  have q1 : (l == l) = true := by simp
  go_enter Tryd.func5, Tryd.ntmps5
  go_wp2_with fail
  refine (Format_any a _ a1 a2 hL).mono ?_
  rw [HX.out]; rintro e w1 ⟨rfl, hb1⟩
  have hL1 := hL.below hb1
  go_wp2_with fail
  refine (RFormat_any a _ a1 a2).mono ?_
  rw [HX.out]; rintro e w2 ⟨rfl, hb2⟩
  have hL2 := hL1.below hb2
  have hb3 := btrans hb1 hb1.size hb2
  clear hb1 hb2 hL1 hL
  go_wp2_with (go_at_call 13; refine (lives_any _ hL2).mono ?_; rintro e w5 ⟨rfl, hb⟩)
  go_ret
  exact ⟨rfl, btrans hb3 hb3.size hb⟩

set_option maxRecDepth 100000 in
set_option maxHeartbeats 2000000 in
theorem parsesLaw (l : List UInt8) (hl : l.length ≤ 140737488351232) (w : World) (hL : Laid w) :
    Calls Tryd.prog 6 #[.string (bs l)] w fun e w' => e = .returned (.bool true) ∧ Below w.heap.size w w' := by
  by_cases h200 : 200 < l.length
  · go_enter Tryd.func6, Tryd.ntmps6
    go_wp2_with (go_at_call 13; refine (lives_any _ hL).mono ?_; rintro e w5 ⟨rfl, hb⟩)
    go_ret
    exact ⟨rfl, hb⟩
  · obtain ⟨⟨x, e⟩, hx⟩ : ∃ q, parseS l = q := ⟨_, rfl⟩
    have HX := Lib.hid hx; clear hx
    go_enter Tryd.func6, Tryd.ntmps6
    go_wp2_with fail
    refine (Parse_any l _ (by omega) hL).mono ?_
    rw [HX.out]; rintro e w1 ⟨rfl, hb1⟩
    have hL1 := hL.below hb1
    go_wp2_with fail
    refine (RParse_any l _ (by omega)).mono ?_
    rw [HX.out]; rintro e w' ⟨rfl, rfl⟩
    go_wp2_with (go_at_call 13; refine (lives_any _ hL1).mono ?_; rintro e w5 ⟨rfl, hb⟩)
    go_ret
    exact ⟨rfl, btrans hb1 hb1.size hb⟩

set_option maxRecDepth 100000 in
set_option maxHeartbeats 2000000 in
theorem roundTripsLaw (n : Int) (wn : (Lit.int .i64 n).wf = true) (s : List UInt8) (hs : s.length ≤ 140737488351232) (w : World) (hL : Laid w) :
    Calls Tryd.prog 7 #[.int .i64 n, .string (bs s)] w fun e w' => e = .returned (.bool true) ∧ Below w.heap.size w w' := by
  obtain ⟨n1, n2⟩ := of_wf wn
  clear wn
  have hp := parse_itoa n (fits_mk n1 n2)
  have hll := Lib.itoa_length_le n n1 n2
  obtain ⟨l, hl⟩ : ∃ l, Lib.itoa n = l := ⟨_, rfl⟩
  rw [hl] at hp hll
  have HX := Lib.hid hl; clear hl
  have HP := Lib.hid hp; clear hp
  go_enter Tryd.func7, Tryd.ntmps7
  go_wp2_with fail
  refine (Format_any n _ n1 n2 hL).mono ?_
  rw [HX.out]; rintro e w1 ⟨rfl, hb1⟩
  have hL1 := hL.below hb1
  clear hL
  go_wp2_with fail
  refine (Parse_any l _ (by omega) hL1).mono ?_
  rw [HP.out]; rintro e w2 ⟨rfl, hb2⟩
  have hL2 := hL1.below hb2
  have hb3 := btrans hb1 hb1.size hb2
  clear hb1 hb2 hL1
  by_cases h200 : 200 < s.length
  · go_wp2_with (go_at_call 13; refine (lives_any _ hL2).mono ?_; rintro e w5 ⟨rfl, hb⟩)
    go_ret
    exact ⟨rfl, btrans hb3 hb3.size hb⟩
  · obtain ⟨⟨y, f⟩, hy⟩ : ∃ q, parseS s = q := ⟨_, rfl⟩
    have hyb := parseS_bd s
    rw [hy] at hyb
    obtain ⟨y1, y2⟩ := hyb
    by_cases hf : f = 0
    · subst hf
      have hback := itoa_parse s y hy
      have HB := Lib.hid hback
      have HY := Lib.hid hy
      have q1 : (s == s) = true := by simp
      clear hy hback
      go_wp2_with fail
      refine (Parse_any s _ (by omega) hL2).mono ?_
      rw [HY.out]; rintro e w3 ⟨rfl, hb4⟩
      have hL3 := hL2.below hb4
      have hb5 := btrans hb3 hb3.size hb4
      clear hb3 hb4 hL2
      go_wp2_with fail
      refine (Format_any y _ y1 y2 hL3).mono ?_
      rw [HB.out]; rintro e w4 ⟨rfl, hb6⟩
      have hL4 := hL3.below hb6
      have hb7 := btrans hb5 hb5.size hb6
      clear hb5 hb6 hL3
      go_wp2_with (go_at_call 13; refine (lives_any _ hL4).mono ?_; rintro e w5 ⟨rfl, hb⟩)
      go_ret
      exact ⟨rfl, btrans hb7 hb7.size hb⟩
    · have hfn : (f != 0) = true := by rw [bne_iff_ne]; exact hf
      have HY := Lib.hid hy
      clear hy hf
      go_wp2_with fail
      refine (Parse_any s _ (by omega) hL2).mono ?_
      rw [HY.out]; rintro e w3 ⟨rfl, hb4⟩
      have hL3 := hL2.below hb4
      have hb5 := btrans hb3 hb3.size hb4
      clear hb3 hb4 hL2
      go_wp2_with (go_at_call 13; refine (lives_any _ hL3).mono ?_; rintro e w5 ⟨rfl, hb⟩)
      go_ret
      exact ⟨rfl, btrans hb5 hb5.size hb⟩
end Go.Proofs.YtmcenojiapjcoaaDoor
