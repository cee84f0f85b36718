/- The walk of layer 16's Format. No conditions. -/
import Derived.Test.YtkmmdkklpbafdaaGreatDoorBytI
namespace Go.Proofs.YtkmmdkklpbafdaaGreatDoor
open Go.RowKit

theorem take_1 {α : Type} (M : List α) (k : Nat) (h : k < M.length) : M.take (k + 1) = M.take k ++ [M[k]] := by rw [List.take_add_one, List.getElem?_eq_getElem h]; rfl
def InsR (x : Ins) : Prop := (-9223372036854775808 ≤ x.a ∧ x.a ≤ 9223372036854775807) ∧ (-9223372036854775808 ≤ x.b ∧ x.b ≤ 9223372036854775807) ∧ (-9223372036854775808 ≤ x.n ∧ x.n ≤ 9223372036854775807) ∧ x.s.length ≤ 9223372036854775807
theorem ins_facts {sl n : Int} {x : Ins} (h : insS sl n x = true) : 1 ≤ x.op ∧ x.op ≤ 14 ∧ (x.op = 5 → 4 ≤ x.a ∧ x.a ≤ 24) ∧ x.s.length ≤ 64 ∧ x.s.all okc = true := by
  unfold insS at h
  simp only [Bool.and_eq_true, decide_eq_true_eq] at h
  obtain ⟨⟨h1, h2⟩, hu, h⟩ := h
  refine ⟨h1, h2, fun h5 => ?_, ?_⟩
  · rw [if_neg (by omega), if_neg (by omega), if_pos h5] at h
    exact arS_rng (by simpa using h)
  · by_cases e : x.op = 2
    · rw [if_pos e] at h
      unfold plainS at h
      simp only [Bool.and_eq_true, decide_eq_true_eq] at h
      exact ⟨h.2, h.1⟩
    · unfold unuS at hu
      simp only [Bool.and_eq_true, Bool.or_eq_true, decide_eq_true_eq] at hu
      have : x.s = [] := by
        rcases hu.2.2.2 with q | q
        · unfold uS at q; simp [e] at q
        · exact q
      rw [this]; simp
theorem linesT_snoc : ∀ (l : List Ins) (i : Nat) (x : Ins), linesT i (l ++ [x]) = linesT i l ++ (lineT (i + l.length) x ++ [10])
  | [], i, x => by simp [linesT]
  | y :: r, i, x => by
    have ih := linesT_snoc r (i + 1) x
    show lineT i y ++ (10 :: linesT (i + 1) (r ++ [x])) = _
    rw [ih]
    show _ = (lineT i y ++ (10 :: linesT (i + 1) r)) ++ (lineT (i + (r.length + 1)) x ++ [10])
    rw [show i + 1 + r.length = i + (r.length + 1) by omega]; simp
theorem lines_step {l : List Ins} {k : Nat} (hk : k < l.length) : linesT 0 (l.take (k + 1)) = linesT 0 (l.take k) ++ (lineT k l[k] ++ [10]) := by
  rw [take_1 l k hk, linesT_snoc, List.length_take, Nat.min_eq_left (by omega), Nat.zero_add]
theorem fldT_len {x : Ins} (ha : -9223372036854775808 ≤ x.a ∧ x.a ≤ 9223372036854775807) (hb : -9223372036854775808 ≤ x.b ∧ x.b ≤ 9223372036854775807) (hn : -9223372036854775808 ≤ x.n ∧ x.n ≤ 9223372036854775807) (h1 : 1 ≤ x.op) (h2 : x.op ≤ 14) (h5 : x.op = 5 → 4 ≤ x.a ∧ x.a ≤ 24) (hs : x.s.length ≤ 64) (hsp : x.s.all okc = true) : (fldT x).length ≤ 200 := by
  have la := Lib.itoa_length_le x.a ha.1 ha.2
  have lb := Lib.itoa_length_le x.b hb.1 hb.2
  have ln := Lib.itoa_length_le x.n hn.1 hn.2
  have lq : (quoL x.s).1.length ≤ 130 := by
    rw [quoL_ok2 hs hsp]; unfold quoS
    have := esc_len2 x.s
    simp only [List.length_cons, List.length_append, List.length_nil]; omega
  rcases grp_any h1 h2 with h | h | h | h | h
  · rw [fldT_n (grp_5 (by simp [h])) h.2.1 h.2.2.1 h.2.2.2.1 h.2.2.2.2]; simp only [List.length_cons]; omega
  · rw [fldT_s (grp_5 (by simp [h])) h.2.1 h.2.2.1 h.2.2.2.1 h.2.2.2.2]; simp only [List.length_cons]; omega
  · rw [fldT_abn (grp_5 (by simp [h])) h.2.1 h.2.2.1 h.2.2.2.1 h.2.2.2.2]; simp only [List.length_cons, List.length_append]; omega
  · by_cases e : x.op = 5
    · rw [fldT_5 e]
      have := OPR_len (x.a - 4).toNat (by have := h5 e; omega)
      simp only [List.length_cons]; omega
    · rw [fldT_a e h.2.1 h.2.2.1 h.2.2.2.1 h.2.2.2.2]; simp only [List.length_cons]; omega
  · rw [fldT_0 (grp_5 (by simp [h])) h.2.1 h.2.2.1 h.2.2.2.1 h.2.2.2.2]; simp
theorem lineT_len {i : Nat} (hi : i ≤ 100000) {x : Ins} (ha : -9223372036854775808 ≤ x.a ∧ x.a ≤ 9223372036854775807) (hb : -9223372036854775808 ≤ x.b ∧ x.b ≤ 9223372036854775807) (hn : -9223372036854775808 ≤ x.n ∧ x.n ≤ 9223372036854775807) (h1 : 1 ≤ x.op) (h2 : x.op ≤ 14) (h5 : x.op = 5 → 4 ≤ x.a ∧ x.a ≤ 24) (hs : x.s.length ≤ 64) (hsp : x.s.all okc = true) : (lineT i x).length ≤ 249 := by
  have := fldT_len ha hb hn h1 h2 h5 hs hsp
  have li := Lib.itoa_length_le (i : Int) (by omega) (by omega)
  have := nameS_len x.op
  unfold lineT; simp only [List.length_cons, List.length_append]; omega
theorem linesT_len {sl n : Int} : ∀ (l : List Ins) (i : Nat), i + l.length ≤ 100000 → (∀ x ∈ l, InsR x ∧ insS sl n x = true) → (linesT i l).length ≤ 250 * l.length
  | [], _, _, _ => by simp [linesT]
  | x :: r, i, hi, h => by
    have ih := linesT_len r (i + 1) (by simp only [List.length_cons] at hi; omega) (fun y hy => h y (by simp [hy]))
    obtain ⟨⟨ha, hb, hn, _⟩, hv⟩ := h x (by simp)
    obtain ⟨f1, f2, f3, f4, f5⟩ := ins_facts hv
    have := lineT_len (i := i) (by simp only [List.length_cons] at hi; omega) ha hb hn f1 f2 f3 f4 f5
    show (lineT i x ++ (10 :: linesT (i + 1) r)).length ≤ _
    simp only [List.length_cons, List.length_append]; omega
theorem tyT_len : ∀ l : List Int, (l.flatMap tyT).length ≤ 4 * l.length
  | [] => by simp
  | t :: r => by
    have ih := tyT_len r
    have : (tyT t).length = 4 := by unfold tyT; split <;> rfl
    rw [List.flatMap_cons, List.length_append, List.length_cons]; omega
theorem ty_step {P : List Int} {k : Nat} (hk : k < P.length) : (P.take (k + 1)).flatMap tyT = (P.take k).flatMap tyT ++ tyT P[k] := by
  rw [take_1 P k hk, List.flatMap_append]; simp

set_option maxRecDepth 100000 in
set_option maxHeartbeats 16000000 in
theorem CFormat_any (pa ia : Option Addr) (pc ic : Nat) (P : List Int) (sl : Int) (l : List Ins) (w : World) (hP : CellsAt w (.slice pa P.length pc) P.length (intsL P)) (hI : CellsAt w (.slice ia l.length ic) l.length (insLs l)) (hp : P.length ≤ 9223372036854775806) (hs : ∀ x ∈ l, InsR x) (hll : l.length ≤ 1500) (hB : LaidB w) :
    Calls Tryz.prog 12 #[.agg #[.slice pa P.length pc, .int .i64 sl, .slice ia l.length ic]] w fun e w' => e = .returned (.string (bs (fmtC ⟨P, sl, l⟩))) ∧ Below w.heap.size w w' := by
  obtain ⟨V, hV⟩ : ∃ V, valC ⟨P, sl, l⟩ = V := ⟨_, rfl⟩
  obtain ⟨FT, hFT⟩ : ∃ F, fmtC ⟨P, sl, l⟩ = F := ⟨_, rfl⟩
  rw [hFT]
  have HV := Lib.hid hV; have HFT := Lib.hid hFT; have HPA := Lib.hid hP; have HIA := Lib.hid hI; have HS := Lib.hid hs; have HLB := Lib.hid hB; clear hV hFT hP hI hs hB
  obtain ⟨v0, hW0, hb0, hc0⟩ := boxes1 w #[.slice pa P.length pc, .int .i64 sl, .slice ia l.length ic] 25
  have HW := Lib.hid hW0; have HB := Lib.hid hb0; have HC := Lib.hid hc0; clear hW0 hb0 hc0
  go_enter Tryz.func12, Tryz.ntmps12
  go_upto_region 1 with (fail)
  rw [HW.out]
  clear HW
  obtain ⟨c0, c1, c2⟩ := HC.out.c3
  go_wp2_with fail
  refine (Validate_any pa ia pc ic P sl l _ (HPA.out.below HB.out) (HIA.out.below HB.out) hp (fun x hx => (HS.out x hx).2.2.2) (HLB.out.below HB.out)).mono ?_
  rw [HV.out]
  rintro er w1 ⟨rfl, hb1⟩
  clear c0 c1 c2
  have HB := Lib.hid (btrans HB.out HB.out.size hb1); have HC := Lib.hid (HC.out.call hb1); clear hb1
  by_cases hV0 : V = 0
  rotate_left
  · have tv : (V != 0) = true := by rw [bne_iff_ne]; exact hV0
    have HF := Lib.hid (show FT = [] by rw [← HFT.out]; unfold fmtC; rw [if_neg (by rw [HV.out]; exact hV0)])
    clear hV0
    go_wp2
    go_ret
    exact ⟨by rw [HF.out] <;> rfl, HB.out⟩
  have tv : (V != 0) = false := by rw [hV0]; rfl
  have HVV := Lib.hid (HV.out.trans hV0)
  have HF := Lib.hid (show FT = textC ⟨P, sl, l⟩ by rw [← HFT.out]; unfold fmtC; rw [if_pos HVV.out])
  clear hV0
  obtain ⟨_, hsl, _, hpl, hins, _⟩ := valC_parts HVV.out
  simp only at hsl hpl hins
  have hpl2 : P.length ≤ 64 := by omega
  have hsl0 : 0 ≤ sl := by omega
  have HINS := Lib.hid hins; clear hins hpl
  have hal := (Below.refl w1.heap.size w1).alloc (Nat.le_refl _) (.cells #[.pointer none, .slice none 0 0] 47)
  have HD := Lib.hid (Bd.new w1); have hwb := HB.out.size; have hcb := HC.out.lt; have HB := Lib.hid (btrans HB.out HB.out.size hal); have HC := Lib.hid (HC.out.call hal); clear hal
  obtain ⟨b, hb⟩ : ∃ b, w1.heap.size = b := ⟨_, rfl⟩
  go_upto_region 4 with (fail)
  generalize hW : w1.alloc (.cells #[.pointer none, .slice none 0 0] 47) = v1 at HB HC HD ⊢
  clear hW
  rw [hb] at HD hwb hcb
  (try rw [hb])
  clear hb
  go_wp2_with fail
  refine (Bd.writeS b [] ([112, 97, 114, 97, 109, 115]) _ HD.out (Nat.zero_le _) (by decide)).mono ?_
  rintro er y11 ⟨rfl, hD11, hb11⟩
  (try clear c0 c1 c2)
  have HC := Lib.hid (HC.out.below hb11 hcb); have HB := Lib.hid (HB.out.trans (hb11.mono hwb)); have HD := Lib.hid hD11; clear hb11 hD11
  obtain ⟨c0, c1, c2⟩ := HC.out.c3
  rw [List.nil_append] at HD
  go_wp2
  go_loopw [15] (fun i wr => ∃ k : Nat, k ≤ P.length ∧ i = .int .i64 k ∧ Hid (Bd b ([112, 97, 114, 97, 109, 115] ++ (P.take k).flatMap tyT) wr) ∧ Hid (Bx w.heap.size #[.slice pa P.length pc, .int .i64 sl, .slice ia l.length ic] 25 wr) ∧ Below w.heap.size w wr) (fun i _ => P.length - (intOf i).toNat)
  case atStart => exact ⟨0, Nat.zero_le _, rfl, HD, HC, HB.out⟩
  case round =>
    clear c0 c1 c2 HB HC HD
    obtain ⟨k, hk, rfl, HD, HC, hB⟩ := hrel
    have HB := Lib.hid hB; clear hB
    obtain ⟨T0, hT0⟩ : ∃ T, [112, 97, 114, 97, 109, 115] ++ (P.take k).flatMap tyT = T := ⟨_, rfl⟩
    have hTl : T0.length ≤ 1000 := by rw [← hT0]; have := tyT_len (P.take k); rw [List.length_take] at this; simp only [List.length_append, List.length_cons, List.length_nil]; omega
    rw [hT0] at HD
    have HT0 := Lib.hid hT0; clear hT0
    by_cases hlt : k < P.length
    · have hlt' : (k : Int) < (P.length : Int) := by omega
      have hw1 : IntKind.i64.wrap ((k : Int) + 1) = (k : Int) + 1 := by rw [IntKind.wrap_i64]; omega
      obtain ⟨ba, oa, rfl, p0⟩ := int_cells (HPA.out.below HB.out) hlt
      obtain ⟨t, ht⟩ : ∃ t, P[k] = t := ⟨_, rfl⟩
      rw [ht] at p0
      have HT := Lib.hid ht; clear ht
      by_cases e1 : t = 1
      · have t1 : (t == 1) = true := by rw [e1]; rfl
        have E1 := Lib.hid (show tyT t = [32, 105, 110, 116] by unfold tyT; rw [if_pos e1]); clear e1
        have HS1 := Lib.hid (show [112, 97, 114, 97, 109, 115] ++ (P.take (k + 1)).flatMap tyT = T0 ++ [32, 105, 110, 116] by rw [ty_step hlt, HT.out, ← HT0.out, E1.out]; simp)
        go_wp2_with fail
        refine (Bd.writeS b T0 ([32, 105, 110, 116]) _ HD.out (by omega) (by decide)).mono ?_
        rintro er y12 ⟨rfl, hD12, hb12⟩
        (try clear c0 c1 c2)
        have HC := Lib.hid (HC.out.below hb12 hcb); have HB := Lib.hid (HB.out.trans (hb12.mono hwb)); have HD := Lib.hid hD12; clear hb12 hD12
        go_wp2
        go_roundw
        case rel => exact ⟨k + 1, by omega, by go_num, by rw [HS1.out]; exact HD, HC, HB.out⟩
        case measure => simp [intOf]; omega
      have t1 : (t == 1) = false := by rw [beq_eq_false_iff_ne]; exact e1
      have E1 := Lib.hid (show tyT t = [32, 115, 116, 114] by unfold tyT; rw [if_neg e1]); clear e1
      have HS1 := Lib.hid (show [112, 97, 114, 97, 109, 115] ++ (P.take (k + 1)).flatMap tyT = T0 ++ [32, 115, 116, 114] by rw [ty_step hlt, HT.out, ← HT0.out, E1.out]; simp)
      go_wp2_with fail
      refine (Bd.writeS b T0 ([32, 115, 116, 114]) _ HD.out (by omega) (by decide)).mono ?_
      rintro er y13 ⟨rfl, hD13, hb13⟩
      (try clear c0 c1 c2)
      have HC := Lib.hid (HC.out.below hb13 hcb); have HB := Lib.hid (HB.out.trans (hb13.mono hwb)); have HD := Lib.hid hD13; clear hb13 hD13
      go_wp2
      go_roundw
      case rel => exact ⟨k + 1, by omega, by go_num, by rw [HS1.out]; exact HD, HC, HB.out⟩
      case measure => simp [intOf]; omega
    · have hlt' : ¬ (k : Int) < (P.length : Int) := by omega
      have hk2 : P.take k = P := List.take_of_length_le (by omega)
      have HT0 := Lib.hid (show T0 = [112, 97, 114, 97, 109, 115] ++ P.flatMap tyT by rw [← HT0.out, hk2])
      clear hlt hk hk2
      obtain ⟨J, hJ⟩ : ∃ J, Lib.itoa sl = J := ⟨_, rfl⟩
      have hJl : J.length ≤ 1000 := by rw [← hJ]; have := Lib.itoa_length_le sl (by omega) (by omega); omega
      have hz1 : ¬ 9223372036854775807 < 7 + J.length := by omega
      have hz2 : ¬ 9223372036854775807 < 7 + J.length + 1 := by omega
      have hz3 : ¬ 9223372036854775807 < J.length + 7 + 1 := by omega
      have HJ := Lib.hid hJ; clear hJ
      obtain ⟨c0, c1, c2⟩ := HC.out.c3
      go_wp2_with fail
      refine (Format_any sl _ (by omega) (by omega) (HLB.out.below HB.out).1).mono ?_
      rw [HJ.out]
      rintro er w4 ⟨rfl, hb4⟩
      clear c0 c1 c2
      have HD := Lib.hid (HD.out.below hb4); have HC := Lib.hid (HC.out.call hb4); have HB := Lib.hid (btrans HB.out HB.out.size hb4); clear hb4
      go_wp2_with fail
      refine (Bd.writeS b T0 ([10, 115, 108, 111, 116, 115, 32] ++ J ++ [10]) _ HD.out (by omega) (by simp only [List.length_append, List.length_cons, List.length_nil]; omega)).mono ?_
      rintro er y14 ⟨rfl, hD14, hb14⟩
      (try clear c0 c1 c2)
      have HC := Lib.hid (HC.out.below hb14 hcb); have HB := Lib.hid (HB.out.trans (hb14.mono hwb)); have HD := Lib.hid hD14; clear hb14 hD14
      clear hz1 hz2 hz3
      obtain ⟨T1, hT1⟩ : ∃ T, T0 ++ ([10, 115, 108, 111, 116, 115, 32] ++ J ++ [10]) = T := ⟨_, rfl⟩
      rw [hT1] at HD
      have hT1l : T1.length ≤ 3000 := by rw [← hT1]; simp only [List.length_append, List.length_cons, List.length_nil]; omega
      have HH := Lib.hid (show headT ⟨P, sl, l⟩ = T1 by unfold headT; rw [← hT1, HT0.out]; show _ = _; rw [HJ.out]; simp)
      clear hT1 hTl hJl
      obtain ⟨c0, c1, c2⟩ := HC.out.c3
      go_wp2
      go_loopw [33] (fun i wr => ∃ k : Nat, k ≤ l.length ∧ i = .int .i64 k ∧ Hid (Bd b (T1 ++ linesT 0 (l.take k)) wr) ∧ Hid (Bx w.heap.size #[.slice pa P.length pc, .int .i64 sl, .slice ia l.length ic] 25 wr) ∧ Below w.heap.size w wr) (fun i _ => l.length - (intOf i).toNat)
      case atStart => exact ⟨0, Nat.zero_le _, rfl, by rw [List.take_zero]; show Hid (Bd b (T1 ++ []) _); rw [List.append_nil]; exact HD, HC, HB.out⟩
      case round =>
        clear c0 c1 c2 HB HC HD
        obtain ⟨k, hk, rfl, HD, HC, hB⟩ := hrel
        have HB := Lib.hid hB; clear hB
        have HLL := Lib.hid (linesT_len (sl := sl) (n := (l.length : Int)) (l.take k) 0 (by rw [List.length_take]; omega) (fun x hx => ⟨HS.out x (List.mem_of_mem_take hx), List.all_eq_true.1 HINS.out x (List.mem_of_mem_take hx)⟩))
        obtain ⟨T2, hT2⟩ : ∃ T, T1 ++ linesT 0 (l.take k) = T := ⟨_, rfl⟩
        have hT2l : T2.length ≤ 400000 := by rw [← hT2]; have := HLL.out; rw [List.length_take] at this; rw [List.length_append]; omega
        rw [hT2] at HD
        have HT2 := Lib.hid hT2; clear hT2 HLL
        by_cases hlt : k < l.length
        · have hlt' : (k : Int) < (l.length : Int) := by omega
          have hw1 : IntKind.i64.wrap ((k : Int) + 1) = (k : Int) + 1 := by rw [IntKind.wrap_i64]; omega
          obtain ⟨ba, oa, rfl, p0, p1, p2, p3, p4⟩ := ins_cells (HIA.out.below HB.out) hlt
          have hxr := HS.out _ (List.getElem_mem hlt)
          have hxi := ins_facts (List.all_eq_true.1 HINS.out _ (List.getElem_mem hlt))
          obtain ⟨⟨op, a, b1, n, s⟩, hxe⟩ : ∃ x, l[k] = x := ⟨_, rfl⟩
          rw [hxe] at p0 p1 p2 p3 p4 hxr hxi
          simp only at p0 p1 p2 p3 p4 hxi
          have HXR := Lib.hid hxr; have HXI := Lib.hid hxi; have HXE := Lib.hid hxe; clear hxe hxr hxi
          have hal := (Below.refl wr.heap.size wr).alloc (Nat.le_refl _) (.cells #[.int .i64 op, .int .i64 a, .int .i64 b1, .int .i64 n, .string (bs s)] 39)
          have HX := Lib.hid (Bx.new wr #[.int .i64 op, .int .i64 a, .int .i64 b1, .int .i64 n, .string (bs s)] 39); have HD := Lib.hid (HD.out.below hal); have HB := Lib.hid (btrans HB.out HB.out.size hal); have HC := Lib.hid (HC.out.call hal); clear hal
          go_upto_region 16 with (fail)
          clear p0 p1 p2 p3 p4
          generalize hW : wr.alloc (.cells #[.int .i64 op, .int .i64 a, .int .i64 b1, .int .i64 n, .string (bs s)] 39) = v5 at HX HB HC HD ⊢
          clear hW
          obtain ⟨x0, x1, x2, x3, x4⟩ := HX.out.c5
          go_wp2_with fail
          refine (write_any w HLB.out b k op a b1 n s T2 v5 HB.out hwb HD.out (by omega) (by omega) HXI.out.1 HXI.out.2.1 HXI.out.2.2.1 HXR.out.1 HXR.out.2.1 HXR.out.2.2.1 HXI.out.2.2.2.1 HXI.out.2.2.2.2).mono ?_
          rintro er w6 ⟨rfl, hD6, hb6⟩
          clear x0 x1 x2 x3 x4 HX
          have HC := Lib.hid (HC.out.below hb6 hcb); have HB := Lib.hid (HB.out.trans (hb6.mono hwb)); clear hb6 HD
          have HN := Lib.hid (show Bd b (T1 ++ linesT 0 (l.take (k + 1))) w6 by rw [lines_step hlt, HXE.out, ← List.append_assoc, HT2.out]; exact hD6); clear hD6
          go_wp2
          go_roundw
          case rel => exact ⟨k + 1, by omega, by go_num, HN, HC, HB.out⟩
          case measure => simp [intOf]; omega
        · have hlt' : ¬ (k : Int) < (l.length : Int) := by omega
          have hk2 : l.take k = l := List.take_of_length_le (by omega)
          have HT2 := Lib.hid (show FT = T2 by rw [HF.out, ← HT2.out, hk2]; unfold textC; rw [HH.out])
          clear hlt hk hk2
          go_wp2_with fail
          refine (Bd.string b T2 _ HD.out (by have := HD.out.lt; omega)).mono ?_
          rintro er w7 ⟨rfl, hb7⟩
          have HB := Lib.hid (HB.out.trans (hb7.mono hwb))
          go_wp2
          go_ret
          exact ⟨by rw [HT2.out] <;> rfl, HB.out⟩
end Go.Proofs.YtkmmdkklpbafdaaGreatDoor
