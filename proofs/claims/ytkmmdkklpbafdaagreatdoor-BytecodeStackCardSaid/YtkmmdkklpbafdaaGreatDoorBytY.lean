/- The walk of BytecodeStack. No conditions. -/
import Derived.Test.YtkmmdkklpbafdaaGreatDoorBytW
import Derived.Test.YtkmmdkklpbafdaaGreatDoorBytS
import Derived.Test.YtkmmdkklpbafdaaGreatDoorBytG
namespace Go.Proofs.YtkmmdkklpbafdaaGreatDoor
open Go.RowKit

def boosL (B : List Bool) : List Value := B.map fun q => .bool q
theorem boo_cells {W : World} {ad : Option Addr} {n cap : Nat} {M : List Bool} (h : CellsAt W (.slice ad n cap) n (boosL M)) {k : Nat} (hk : k < M.length) : ∃ b off, ad = some ⟨b, off, none⟩ ∧ W.cell? ⟨b, off + k, none⟩ = some (.bool M[k]) := by
  obtain ⟨a, c, hs, hc⟩ := h
  obtain ⟨b, off, ha, hcell⟩ := hc (by intro e; have : (boosL M).length = M.length := by simp [boosL]
                                       rw [e] at this; simp at this; omega)
  cases hs
  exact ⟨b, off, ha, hcell k _ (by unfold boosL; rw [List.getElem?_map, List.getElem?_eq_getElem hk]; rfl)⟩
def dAt (c : Cd) (k : Nat) : Int := (depth0 c).getD k 0
theorem dAt_zero (c : Cd) : dAt c 0 = 0 := depR_zero c
theorem step_at {P : List Int} {sl : Int} {l : List Ins} (h : valC ⟨P, sl, l⟩ = 0) {k : Nat} {x : Ins} (hk : k < l.length) (hx : l[k] = x) :
    takeI x ≤ dAt ⟨P, sl, l⟩ k ∧ behI (dAt ⟨P, sl, l⟩ k) x ≤ 64 ∧ (leaI x = true ∨ x.op = 7 → behI (dAt ⟨P, sl, l⟩ k) x = 0) ∧
    (jmpI x = true → 0 ≤ x.a ∧ x.a < (l.length : Int) ∧ dAt ⟨P, sl, l⟩ x.a.toNat = 0) ∧
    (leaI x = false → k + 1 < l.length ∧ dAt ⟨P, sl, l⟩ (k + 1) = behI (dAt ⟨P, sl, l⟩ k) x) := by
  have hg : l.getD k ins0 = x := by rw [List.getD_eq_getElem?_getD, List.getElem?_eq_getElem hk, Option.getD_some, hx]
  have := step_ok h (k := k) hk
  simp only at this
  rw [hg] at this
  exact this
theorem lea_six {a b n : Int} {s : List UInt8} : leaI ⟨6, a, b, n, s⟩ = true := rfl
theorem rem_nat (a b : Nat) : Int.tmod (a : Int) (b : Int) = ((a % b : Nat) : Int) := by rw [Int.tmod_eq_emod_of_nonneg (by omega)]; rfl

set_option maxRecDepth 100000 in
set_option maxHeartbeats 16000000 in
theorem stackWalk16 (pa ia : Option Addr) (pc ic : Nat) (P : List Int) (sl : Int) (l : List Ins) {w : World} (hP : CellsAt w (.slice pa P.length pc) P.length (intsL P)) (hI : CellsAt w (.slice ia l.length ic) l.length (insLs l)) (hN : ∀ x ∈ l, InsN x) (ja : Option Addr) (jc : Nat) (B : List Bool) (hJ : CellsAt w (.slice ja B.length jc) B.length (boosL B)) (hB : LaidB w) :
    Calls Tryz.prog 7 #[.agg #[.slice pa P.length pc, .int .i64 sl, .slice ia l.length ic], .slice ja B.length jc] w fun e w' => e = .returned (.bool true) ∧ Below w.heap.size w w' := by
  obtain ⟨fv, hfv⟩ : ∃ t, fewS ⟨P, sl, l⟩ = t := ⟨_, rfl⟩
  obtain ⟨vl, hvl⟩ : ∃ t, valC ⟨P, sl, l⟩ = t := ⟨_, rfl⟩
  have HFV := Lib.hid hfv; have HVL := Lib.hid hvl; have HPA := Lib.hid hP; have HIA := Lib.hid hI; have HJA := Lib.hid hJ; have HN := Lib.hid hN; have HLB := Lib.hid hB; clear hfv hvl hP hI hJ hN hB
  obtain ⟨v0, hW0, hb0, hc0⟩ := boxes1 w #[.slice pa P.length pc, .int .i64 sl, .slice ia l.length ic] 25
  have HW := Lib.hid hW0; have HB := Lib.hid hb0; have HC := Lib.hid hc0; clear hW0 hb0 hc0
  go_enter Tryz.func7, Tryz.ntmps7
  go_upto_region 1 with (fail)
  rw [HW.out]
  clear HW
  obtain ⟨c0, c1, c2⟩ := HC.out.c3
  go_wp2_with fail
  refine (Few_any pa ia pc ic P sl l _ (HIA.out.below HB.out)).mono ?_
  rw [HFV.out]
  rintro er w1 ⟨rfl, hb1⟩
  clear c0 c1 c2
  have HC := Lib.hid (HC.out.call hb1); have HB := Lib.hid (btrans HB.out HB.out.size hb1); clear hb1
  cases fv with
  | false =>
    go_wp2_with fail
    refine (lives16 _ (HLB.out.below HB.out)).mono ?_
    rintro er wl ⟨rfl, hbl⟩
    have HB := Lib.hid (btrans HB.out HB.out.size hbl)
    go_wp2
    go_ret
    exact ⟨rfl, HB.out⟩
  | true =>
    obtain ⟨hl80, hp80, hls⟩ := few_parts HFV.out
    simp only at hl80 hp80 hls
    have HLS := Lib.hid hls; clear hls
    by_cases h50 : (50 : Int) < (B.length : Int)
    · skip
      go_wp2_with fail
      refine (lives16 _ (HLB.out.below HB.out)).mono ?_
      rintro er wl ⟨rfl, hbl⟩
      have HB := Lib.hid (btrans HB.out HB.out.size hbl)
      go_wp2
      go_ret
      exact ⟨rfl, HB.out⟩
    obtain ⟨c0, c1, c2⟩ := HC.out.c3
    go_wp2_with fail
    refine (Validate_any pa ia pc ic P sl l _ (HPA.out.below HB.out) (HIA.out.below HB.out) (by omega) (fun x hx => by have := HLS.out x hx; omega) (HLB.out.below HB.out)).mono ?_
    rw [HVL.out]
    rintro er w2 ⟨rfl, hb2⟩
    clear c0 c1 c2
    have HC := Lib.hid (HC.out.call hb2); have HB := Lib.hid (btrans HB.out HB.out.size hb2); clear hb2
    by_cases hv0 : vl = 0
    rotate_left
    · have tv : (vl != 0) = true := by rw [bne_iff_ne]; exact hv0
      go_wp2_with fail
      refine (lives16 _ (HLB.out.below HB.out)).mono ?_
      rintro er wl ⟨rfl, hbl⟩
      have HB := Lib.hid (btrans HB.out HB.out.size hbl)
      go_wp2
      go_ret
      exact ⟨rfl, HB.out⟩
    have tv : (vl != 0) = false := by rw [hv0]; rfl
    have HOK := Lib.hid (HVL.out.trans hv0); clear hv0
    have hl0 : 0 < l.length := by have := valC_parts HOK.out; simp only at this; omega
    obtain ⟨dz, hdz⟩ : ∃ t, dAt ⟨P, sl, l⟩ 0 = t := ⟨_, rfl⟩
    have hdz0 : dz = 0 := hdz.symm.trans (dAt_zero _)
    go_wp2
    go_loopw [5, 6, 7, 8] (fun s5 s6 s7 s8 wr => ∃ (n k q : Nat) (d : Int), n ≤ 200 ∧ k < l.length ∧ q ≤ n ∧ -1 ≤ d ∧ d ≤ 64 ∧ s5 = .int .i64 d ∧ s6 = .int .i64 k ∧ s7 = .int .i64 q ∧ s8 = .int .i64 n ∧ Hid (dAt ⟨P, sl, l⟩ k = d) ∧ Hid (Bx w.heap.size #[.slice pa P.length pc, .int .i64 sl, .slice ia l.length ic] 25 wr) ∧ Below w.heap.size w wr) (fun _ _ _ n _ => 200 - (intOf n).toNat)
    case atStart => exact ⟨0, 0, 0, 0, by omega, hl0, by omega, by omega, by omega, rfl, rfl, rfl, rfl, Lib.hid (dAt_zero _), HC, HB.out⟩
    case round =>
      clear HB HC hdz hdz0
      obtain ⟨t, k, q, d, ht, hlt, hq, hd0, hd1, rfl, rfl, rfl, rfl, HD, HC, hB⟩ := hrel
      have HB := Lib.hid hB; clear hB
      obtain ⟨c0, c1, c2⟩ := HC.out.c3
      by_cases ht2 : (t : Int) < 200
      · have hlt' : (k : Int) < (l.length : Int) := by omega
        have hk0 : ¬ (k : Int) < 0 := by omega
        have hlt'' : decide ((l.length : Int) ≤ (k : Int)) = false := decide_eq_false (by omega)
        have hwt : IntKind.i64.wrap ((t : Int) + 1) = (t : Int) + 1 := by rw [IntKind.wrap_i64]; omega
        have hwk : IntKind.i64.wrap ((k : Int) + 1) = (k : Int) + 1 := by rw [IntKind.wrap_i64]; omega
        have hwq : IntKind.i64.wrap ((q : Int) + 1) = (q : Int) + 1 := by rw [IntKind.wrap_i64]; omega
        have HST := Lib.hid (fun x hx => step_at HOK.out (x := x) hlt hx)
        obtain ⟨ba, oa, rfl, p0, p1, p2, p3, p4⟩ := ins_cells (HIA.out.below HB.out) hlt
        obtain ⟨⟨op, a, b, n, s⟩, hxe⟩ : ∃ x, l[k] = x := ⟨_, rfl⟩
        rw [hxe] at p0 p1 p2 p3 p4
        simp only at p0 p1 p2 p3 p4
        have hst := HST.out _ hxe
        rw [HD.out] at hst
        clear HST hxe
        obtain ⟨tk, htk⟩ : ∃ t, takeI ⟨op, a, b, n, s⟩ = t := ⟨_, rfl⟩
        obtain ⟨d2, hd2⟩ : ∃ t, behI d ⟨op, a, b, n, s⟩ = t := ⟨_, rfl⟩
        rw [htk, hd2] at hst
        obtain ⟨s1, s2, s3, s4, s5⟩ := hst
        have hr1 := takeI_rng ⟨op, a, b, n, s⟩
        have hr2 := putI_rng ⟨op, a, b, n, s⟩
        rw [htk] at hr1
        have hd3 : -1 ≤ d2 := by rw [← hd2]; unfold behI; rw [htk]; omega
        have HTK := Lib.hid htk; have HBE := Lib.hid hd2; have HS3 := Lib.hid s3; have HS4 := Lib.hid s4; have HS5 := Lib.hid s5; clear htk hd2 s3 s4 s5
        have n1 : ¬ d < tk := by omega
        have n2 : ¬ 64 < d2 := by omega
        clear hr1 hr2
        have hal := (Below.refl wr.heap.size wr).alloc (Nat.le_refl _) (.cells #[.int .i64 op, .int .i64 a, .int .i64 b, .int .i64 n, .string (bs s)] 39)
        have HX := Lib.hid (Bx.new wr #[.int .i64 op, .int .i64 a, .int .i64 b, .int .i64 n, .string (bs s)] 39); have HB := Lib.hid (btrans HB.out HB.out.size hal); have HC := Lib.hid (HC.out.call hal); clear hal
        go_upto_region 12 with (fail)
        clear p0 p1 p2 p3 p4 c0 c1 c2
        generalize hW : wr.alloc (.cells #[.int .i64 op, .int .i64 a, .int .i64 b, .int .i64 n, .string (bs s)] 39) = v1 at HX HB HC ⊢
        clear hW
        obtain ⟨x0, x1, x2, x3, x4⟩ := HX.out.c5
        go_wp2_with fail
        refine (Takes_any op a b n s _).mono ?_
        rw [HTK.out]
        rintro er w3 ⟨rfl, hb3⟩
        clear x0 x1 x2 x3 x4
        have HX := Lib.hid (HX.out.call hb3); have HC := Lib.hid (HC.out.call hb3); have HB := Lib.hid (btrans HB.out HB.out.size hb3); clear hb3
        obtain ⟨x0, x1, x2, x3, x4⟩ := HX.out.c5
        go_wp2_with fail
        refine (Step_any d op a b n s _ (by omega) (by omega)).mono ?_
        rw [HBE.out]
        rintro er w4 ⟨rfl, hb4⟩
        clear x0 x1 x2 x3 x4
        have HX := Lib.hid (HX.out.call hb4); have HC := Lib.hid (HC.out.call hb4); have HB := Lib.hid (btrans HB.out HB.out.size hb4); clear hb4
        obtain ⟨x0, x1, x2, x3, x4⟩ := HX.out.c5
        by_cases e13 : op = 13
        · have t13 : (op == 13) = true := by rw [e13]; rfl
          have hz : d2 = 0 := HS3.out (.inl (by rw [e13]; rfl))
          have tz : (d2 == 0) = true := by rw [hz]; rfl
          clear e13 hz
          go_wp2_with fail
          refine (lives16 _ (HLB.out.below HB.out)).mono ?_
          rintro er wl ⟨rfl, hbl⟩
          have HB := Lib.hid (btrans HB.out HB.out.size hbl)
          go_wp2
          go_ret
          exact ⟨rfl, HB.out⟩
        have t13 : (op == 13) = false := by rw [beq_eq_false_iff_ne]; exact e13
        by_cases e11 : op = 11
        · have t11 : (op == 11) = true := by rw [e11]; rfl
          have hz : d2 = 0 := HS3.out (.inl (by rw [e11]; rfl))
          have tz : (d2 == 0) = true := by rw [hz]; rfl
          clear e11 hz
          go_wp2_with fail
          refine (lives16 _ (HLB.out.below HB.out)).mono ?_
          rintro er wl ⟨rfl, hbl⟩
          have HB := Lib.hid (btrans HB.out HB.out.size hbl)
          go_wp2
          go_ret
          exact ⟨rfl, HB.out⟩
        have t11 : (op == 11) = false := by rw [beq_eq_false_iff_ne]; exact e11
        by_cases e6 : op = 6
        · have t6 : (op == 6) = true := by rw [e6]; rfl
          have t7 : (op == 7) = false := by rw [e6]; rfl
          obtain ⟨ha0, ha1, hda⟩ := HS4.out (by unfold jmpI; simp [e6])
          change 0 ≤ a at ha0
          change a < _ at ha1
          change dAt _ a.toNat = 0 at hda
          obtain ⟨j, rfl⟩ : ∃ j : Nat, a = (j : Int) := ⟨a.toNat, by omega⟩
          have hj : j < l.length := by omega
          have HDA := Lib.hid hda; clear ha0 ha1 hda
          have hz : d2 = 0 := HS3.out (.inl (by unfold leaI; simp [e6]))
          have tz : (d2 != 0) = false := by rw [hz]; rfl
          have HZ := Lib.hid hz; clear hz e6
          have HN := Lib.hid (show dAt ⟨P, sl, l⟩ j = d2 from by rw [HZ.out]; exact HDA.out)
          go_wp2
          go_roundw
          case rel => exact ⟨t + 1, j, q, d2, by omega, hj, by omega, by omega, by omega, rfl, rfl, by go_num, by go_num, HN, HC, HB.out⟩
          case measure => simp [intOf]; omega
        have t6 : (op == 6) = false := by rw [beq_eq_false_iff_ne]; exact e6
        by_cases e7 : op = 7
        rotate_left
        · have t7 : (op == 7) = false := by rw [beq_eq_false_iff_ne]; exact e7
          obtain ⟨hk1, hdk⟩ := HS5.out (by unfold leaI; simp [e6, e11, e13])
          have HDK := Lib.hid hdk; clear hdk
          have HN := Lib.hid (show dAt ⟨P, sl, l⟩ (k + 1) = d2 from HDK.out)
          go_wp2
          go_roundw
          case rel => exact ⟨t + 1, (k + 1), q, d2, by omega, hk1, by omega, by omega, by omega, rfl, by go_num, by go_num, by go_num, HN, HC, HB.out⟩
          case measure => simp [intOf]; omega
        have t7 : (op == 7) = true := by rw [e7]; rfl
        by_cases hB0 : (0 : Int) < (B.length : Int)
        rotate_left
        · skip
          obtain ⟨hk1, hdk⟩ := HS5.out (by unfold leaI; simp [e6, e11, e13])
          have HDK := Lib.hid hdk; clear hdk
          have HN := Lib.hid (show dAt ⟨P, sl, l⟩ (k + 1) = d2 from HDK.out)
          go_wp2
          go_roundw
          case rel => exact ⟨t + 1, (k + 1), q, d2, by omega, hk1, by omega, by omega, by omega, rfl, by go_num, by go_num, by go_num, HN, HC, HB.out⟩
          case measure => simp [intOf]; omega
        have hB1 : ¬ (B.length : Int) = 0 := by omega
        have hrm := rem_nat q B.length
        have hqb : q % B.length < B.length := Nat.mod_lt _ (by omega)
        obtain ⟨u, hu⟩ : ∃ u, q % B.length = u := ⟨_, rfl⟩
        rw [hu] at hrm hqb
        clear hu
        have hwu : IntKind.i64.wrap (u : Int) = (u : Int) := by rw [IntKind.wrap_i64]; omega
        have hub : (0 : Int) ≤ (u : Int) ∧ (u : Int) < (B.length : Int) := ⟨by omega, by omega⟩
        obtain ⟨bj, oj, hje, j0⟩ := boo_cells (HJA.out.below HB.out) hqb
        cases hje
        obtain ⟨bb, hbb⟩ : ∃ t, B[u] = t := ⟨_, rfl⟩
        rw [hbb] at j0
        clear hbb
        cases bb with
        | true =>
          obtain ⟨ha0, ha1, hda⟩ := HS4.out (by unfold jmpI; simp [e7])
          change 0 ≤ a at ha0
          change a < _ at ha1
          change dAt _ a.toNat = 0 at hda
          obtain ⟨j, rfl⟩ : ∃ j : Nat, a = (j : Int) := ⟨a.toNat, by omega⟩
          have hj : j < l.length := by omega
          have HDA := Lib.hid hda; clear ha0 ha1 hda
          have hz : d2 = 0 := HS3.out (.inr e7)
          have tz : (d2 != 0) = false := by rw [hz]; rfl
          have HZ := Lib.hid hz; clear hz e7
          have HN := Lib.hid (show dAt ⟨P, sl, l⟩ j = d2 from by rw [HZ.out]; exact HDA.out)
          go_wp2
          go_roundw
          case rel => exact ⟨t + 1, j, (q + 1), d2, by omega, hj, by omega, by omega, by omega, rfl, rfl, by go_num, by go_num, HN, HC, HB.out⟩
          case measure => simp [intOf]; omega
        | false =>
          obtain ⟨hk1, hdk⟩ := HS5.out (by unfold leaI; simp [e6, e11, e13])
          have HDK := Lib.hid hdk; clear hdk
          have HN := Lib.hid (show dAt ⟨P, sl, l⟩ (k + 1) = d2 from HDK.out)
          go_wp2
          go_roundw
          case rel => exact ⟨t + 1, (k + 1), (q + 1), d2, by omega, hk1, by omega, by omega, by omega, rfl, by go_num, by go_num, by go_num, HN, HC, HB.out⟩
          case measure => simp [intOf]; omega
      · skip
        go_wp2_with fail
        refine (lives16 _ (HLB.out.below HB.out)).mono ?_
        rintro er wl ⟨rfl, hbl⟩
        have HB := Lib.hid (btrans HB.out HB.out.size hbl)
        go_wp2
        go_ret
        exact ⟨rfl, HB.out⟩
end Go.Proofs.YtkmmdkklpbafdaaGreatDoor
