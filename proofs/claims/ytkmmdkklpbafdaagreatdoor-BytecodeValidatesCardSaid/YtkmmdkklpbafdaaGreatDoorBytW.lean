/- The walks of BytecodeRoundTrips and BytecodeTexts. No conditions. -/
import Derived.Test.YtkmmdkklpbafdaaGreatDoorBytV
import Derived.Test.YtkmmdkklpbafdaaGreatDoorBytArgs
namespace Go.Proofs.YtkmmdkklpbafdaaGreatDoor
open Go.RowKit

theorem insR_of {c : Cd} (h : fewS c = true) (hn : ∀ x ∈ c.l, InsN x) : ∀ x ∈ c.l, InsR x := fun x hx => ⟨(hn x hx).1, (hn x hx).2.1, (hn x hx).2.2, by have := (few_parts h).2.2 x hx; omega⟩
theorem fits_of {x : Ins} (h : InsR x) : fits x.n = true := (fits_iff x.n).2 ⟨by have := h.2.2.1.1; omega, by have := h.2.2.1.2; omega⟩
theorem text_len {c : Cd} (hv : valC c = 0) (hr : ∀ x ∈ c.l, InsR x) (hl : c.l.length ≤ 10000) : (textC c).length ≤ 400 + 250 * c.l.length := by
  obtain ⟨_, hsl, _, hpl, hins, _⟩ := valC_parts hv
  have h1 := linesT_len (sl := c.sl) (n := (c.l.length : Int)) c.l 0 (by omega) (fun x hx => ⟨hr x hx, List.all_eq_true.1 hins x hx⟩)
  have h2 := tyT_len c.p
  have h3 := Lib.itoa_length_le c.sl (by omega) (by omega)
  unfold textC headT
  simp only [List.length_append, List.length_cons, List.length_nil]
  omega
theorem trip_any {c : Cd} (hv : valC c = 0) (hr : ∀ x ∈ c.l, InsR x) : parC (textC c) = (c, 0, 0) := trip_code (fun x hx => fits_of (hr x hx)) hv
theorem fmt_ok {c : Cd} (hv : valC c = 0) : fmtC c = textC c := by unfold fmtC; rw [if_pos hv]
theorem fmt_no {c : Cd} (hv : valC c ≠ 0) : fmtC c = [] := by unfold fmtC; rw [if_neg hv]
-- what is read
theorem parse_fits (l : List UInt8) : fits (parseS l).1 = true := by
  unfold parseS
  split
  · split
    · rename_i h; exact h
    · rfl
  · rfl
theorem numG_fits : ∀ (L : List (List UInt8)) (A : List Int), (∀ v ∈ A, fits v = true) → ∀ v ∈ (numG A L).1, fits v = true
  | [], A, h => h
  | w :: r, A, h => by
    unfold numG
    split
    · refine numG_fits r _ ?_
      intro v hv
      rcases List.mem_append.1 hv with hv | hv
      · exact h v hv
      · rw [List.mem_singleton] at hv; rw [hv]; exact parse_fits w
    · intro v hv; simp at hv
theorem layN_n {op : Int} {N : List Int} {x : Ins} (h : layN op N = some x) (hf : ∀ v ∈ N, fits v = true) : fits x.n = true := by
  unfold layN at h
  split at h
  · cases h; rfl
  · cases h; rfl
  · cases h; exact hf _ (by simp)
  · cases h; exact hf _ (by simp)
  · cases h
theorem insP_n {i : Nat} {s : List UInt8} {x : Ins} (h : insP i s = some x) : fits x.n = true := by
  unfold insP at h
  split at h
  · simp only at h
    split at h
    · split at h
      · split at h
        · cases h; rfl
        · cases h
      · split at h
        · split at h
          · cases h; rfl
          · cases h
        · split at h
          · split at h
            · cases h; rfl
            · cases h
          · unfold numsI at h
            split at h
            · exact layN_n h (numG_fits _ [] (by simp))
            · cases h
    · cases h
  · cases h
theorem itoa_pos2 (n : Int) : 1 ≤ (Lib.itoa n).length := by
  unfold Lib.itoa
  split
  · simp
  · have := List.length_pos_iff.2 (decDigits_ne n.toNat)
    omega
theorem cutX_all (x : UInt8) (s : List UInt8) : (cutX x s).1.length ≤ s.length := cutX_fst_len s
theorem OPN_two : ∀ k, k < 14 → 2 ≤ (OPN.getD k []).length := by decide
theorem idx_mem {L : List (List UInt8)} {x : List UInt8} (h : L.idxOf x < L.length) : L.getD (L.idxOf x) [] = x := by
  rw [List.getD_eq_getElem?_getD, List.getElem?_eq_getElem h, Option.getD_some]
  exact List.getElem_idxOf h
theorem insP_min {i : Nat} {s : List UInt8} {x : Ins} (h : insP i s = some x) : 4 ≤ s.length := by
  unfold insP at h
  split at h
  · rename_i hp
    simp only at h
    split at h
    · rename_i hk
      have h1 := (List.isPrefixOf_iff_prefix.1 hp).length_le
      have h2 := idx_mem (L := OPN) (x := (cutX 32 (s.drop (Lib.itoa (i : Int) ++ [32]).length)).1) hk
      have h3 := OPN_two _ hk
      rw [h2] at h3
      have h4 := cutX_all 32 (s.drop (Lib.itoa (i : Int) ++ [32]).length)
      rw [List.length_drop] at h4
      have h5 := itoa_pos2 (i : Int)
      have h6 : (Lib.itoa (i : Int) ++ [32]).length = (Lib.itoa (i : Int)).length + 1 := by rw [List.length_append, List.length_singleton]
      omega
    · cases h
  · cases h
theorem linG_all : ∀ (t : List (List UInt8)) (A : List Ins) (k : Nat) (P : Ins → Prop), (∀ x ∈ A, P x) → (∀ i w x, w ∈ t → insP i w = some x → P x) → ∀ x ∈ (linG A k t).1, P x
  | [], A, _, P, hA, _ => hA
  | w :: r, A, k, P, hA, ht => by
    unfold linG
    split
    · intro x hx; simp at hx
    · rename_i y hy
      refine linG_all r _ _ P ?_ (fun i w2 x hw hx => ht i w2 x (List.mem_cons_of_mem _ hw) hx)
      intro x hx
      rcases List.mem_append.1 hx with hx | hx
      · exact hA x hx
      · rw [List.mem_singleton] at hx; rw [hx]; exact ht k w y (by simp) hy
def sumL : List (List UInt8) → Nat
  | [] => 0
  | w :: r => w.length + 1 + sumL r
theorem linG_sum : ∀ (t : List (List UInt8)) (A : List Ins) (k : Nat), 5 * (linG A k t).1.length ≤ 5 * A.length + sumL t
  | [], A, _ => by simp [linG, sumL]
  | w :: r, A, k => by
    unfold linG
    split
    · simp
    · rename_i y hy
      have h1 := linG_sum r (A ++ [y]) (k + 1)
      have h2 := insP_min hy
      rw [List.length_append, List.length_singleton] at h1
      show _ ≤ 5 * A.length + (w.length + 1 + sumL r)
      omega
theorem splX_sum (x : UInt8) : ∀ s : List UInt8, sumL (splX x s) = s.length + 1
  | [] => by simp [splX, sumL]
  | c :: r => by
    have ih := splX_sum x r
    by_cases h : c = x
    · rw [show splX x (c :: r) = [] :: splX x r by rw [splX, if_pos h]]
      show 0 + 1 + sumL (splX x r) = _
      rw [ih]; simp only [List.length_cons]; omega
    · obtain ⟨a, t, h1, h2⟩ := splX_cons_ne h r
      rw [h2]; rw [h1] at ih
      show a.length + 1 + 1 + sumL t = _
      have : a.length + 1 + sumL t = r.length + 1 := ih
      simp only [List.length_cons]; omega
theorem sum_chop (L : List (List UInt8)) : sumL (chop L) ≤ sumL L := by
  unfold chop
  split
  · have key : ∀ M : List (List UInt8), sumL M.dropLast ≤ sumL M := by
      intro M
      induction M with
      | nil => exact Nat.le_refl _
      | cons a r ih =>
        cases r with
        | nil => exact Nat.zero_le _
        | cons b t =>
          show a.length + 1 + sumL (b :: t).dropLast ≤ a.length + 1 + sumL (b :: t)
          omega
    exact key L
  · exact Nat.le_refl _
theorem ins_ab {sl n : Int} {x : Ins} (hsl : sl ≤ 64) (hn : n ≤ 4096) (h : insS sl n x = true) : (-9223372036854775808 ≤ x.a ∧ x.a ≤ 9223372036854775807) ∧ (-9223372036854775808 ≤ x.b ∧ x.b ≤ 9223372036854775807) := by
  obtain ⟨op, a, b, m, s⟩ := x
  obtain ⟨h1, h2, h5, _⟩ := ins_facts h
  simp only at h1 h2 h5 ⊢
  unfold insS at h
  simp only [Bool.and_eq_true] at h
  obtain ⟨_, hu, h⟩ := h
  unfold unuS at hu
  have hop : op = 1 ∨ op = 2 ∨ op = 3 ∨ op = 4 ∨ op = 5 ∨ op = 6 ∨ op = 7 ∨ op = 8 ∨ op = 9 ∨ op = 10 ∨ op = 11 ∨ op = 12 ∨ op = 13 ∨ op = 14 := by omega
  rcases hop with rfl | rfl | rfl | rfl | rfl | rfl | rfl | rfl | rfl | rfl | rfl | rfl | rfl | rfl <;> simp [uA, uB, uN, uS] at hu <;> simp [inR] at h <;> first | omega | (have := h5 rfl; omega)
/-- what valid code that was read is like -/
theorem par_good {s : List UInt8} {c : Cd} {n : Int} (hs : s.length ≤ 1500) (h : parC s = (c, n, 0)) : (∀ x ∈ c.l, InsR x) ∧ c.l.length ≤ 301 := by
  obtain ⟨hv, _⟩ := par_valid h
  obtain ⟨_, hsl, _, hpl, hins, _⟩ := valC_parts hv
  unfold parC at h
  have hsum : sumL (chop (splX 10 s)) ≤ 1501 := Nat.le_trans (sum_chop _) (by rw [splX_sum]; omega)
  generalize chop (splX 10 s) = L at h hsum
  have hcl : (∃ t, c.l = (linG [] 0 t).1 ∧ sumL t ≤ 1501) := by
    rcases L with _ | ⟨p, _ | ⟨q, t⟩⟩
    · exact absurd (show (5 : Int) = 0 from congrArg (fun x => x.2.2) h) (by decide)
    · by_cases hp : (parP p).2 = false
      · rw [parL_p hp] at h; exact absurd (show (5 : Int) = 0 from congrArg (fun x => x.2.2) h) (by decide)
      · rw [parL_1 (by simpa using hp)] at h; exact absurd (show (5 : Int) = 0 from congrArg (fun x => x.2.2) h) (by decide)
    · refine ⟨t, ?_, by
        have : sumL (p :: q :: t) = p.length + 1 + (q.length + 1 + sumL t) := rfl
        omega⟩
      by_cases hp : (parP p).2 = false
      · rw [parL_p hp] at h; exact absurd (show (5 : Int) = 0 from congrArg (fun x => x.2.2) h) (by decide)
      · by_cases hq : [115, 108, 111, 116, 115, 32].isPrefixOf q = true ∧ (parseS (q.drop 6)).2 = 0
        · cases hg : (linG [] 0 t).2 with
          | some i =>
            rw [parL_l (by simpa using hp) hq.1 hq.2 hg] at h
            exact absurd (show (5 : Int) = 0 from congrArg (fun x => x.2.2) h) (by decide)
          | none =>
            have h2 := parL_v (P := (parP p).1) (sl := (parseS (q.drop 6)).1) (A := (linG [] 0 t).1) (q := q) (Prod.ext rfl (by simpa using hp)) hq.1 (Prod.ext rfl hq.2) (Prod.ext rfl hg) rfl
            rw [h2] at h
            split at h
            · have := congrArg (fun x => x.1.l) h; exact this.symm
            · rename_i e0
              exact absurd (congrArg (fun x => x.2.2) h) e0
        · rw [parL_s (by simpa using hp) hq] at h; exact absurd (show (5 : Int) = 0 from congrArg (fun x => x.2.2) h) (by decide)
  obtain ⟨t, hct, hts⟩ := hcl
  have hn : ∀ x ∈ c.l, fits x.n = true := by
    rw [hct]
    exact linG_all t [] 0 (fun x => fits x.n = true) (by simp) (fun i w x _ hx => insP_n hx)
  have hlen := linG_sum t [] 0
  rw [← hct] at hlen
  refine ⟨fun x hx => ?_, by simp only [List.length_nil] at hlen; omega⟩
  have hi := List.all_eq_true.1 hins x hx
  obtain ⟨f1, f2, f3, f4, f5⟩ := ins_facts hi
  have hf := (fits_iff x.n).1 (hn x hx)
  have hab := ins_ab hsl (show (c.l.length : Int) ≤ 4096 by omega) hi
  exact ⟨hab.1, hab.2, ⟨by omega, by omega⟩, by omega⟩


set_option maxRecDepth 100000 in
set_option maxHeartbeats 16000000 in
theorem tripWalk16 (pa ia : Option Addr) (pc ic : Nat) (P : List Int) (sl : Int) (l : List Ins) {w : World} (hP : CellsAt w (.slice pa P.length pc) P.length (intsL P)) (hI : CellsAt w (.slice ia l.length ic) l.length (insLs l)) (hN : ∀ x ∈ l, InsN x) (hB : LaidB w) :
    Calls Tryz.prog 3 #[.agg #[.slice pa P.length pc, .int .i64 sl, .slice ia l.length ic]] w fun e w' => e = .returned (.bool true) ∧ Below w.heap.size w w' := by
  obtain ⟨fv, hfv⟩ : ∃ t, fewS ⟨P, sl, l⟩ = t := ⟨_, rfl⟩
  have HFV := Lib.hid hfv; clear hfv
  have HPA := Lib.hid hP; have HIA := Lib.hid hI; have HN := Lib.hid hN; have HLB := Lib.hid hB; clear hP hI hN hB
  obtain ⟨v0, hW0, hb0, hc0⟩ := boxes1 w #[.slice pa P.length pc, .int .i64 sl, .slice ia l.length ic] 25
  have HW := Lib.hid hW0; have HB := Lib.hid hb0; have HC := Lib.hid hc0; clear hW0 hb0 hc0
  go_enter Tryz.func3, Tryz.ntmps3
  go_upto_region 1 with (fail)
  rw [HW.out]
  clear HW
  obtain ⟨c0, c1, c2⟩ := HC.out.c3
  go_wp2_with fail
  refine (Few_any pa ia pc ic P sl l _ (HIA.out.below HB.out)).mono ?_
  rw [HFV.out]
  rintro er w1 ⟨rfl, hb1⟩
  clear c0 c1 c2
  have HC := Lib.hid (HC.out.call hb1); have HB := Lib.hid (btrans HB.out HB.out.size hb1); clear hb1
  cases fv with
  | false =>
    go_wp2_with fail
    refine (lives16 _ (HLB.out.below HB.out)).mono ?_
    rintro er wl1 ⟨rfl, hbl⟩
    have HB := Lib.hid (btrans HB.out HB.out.size hbl)
    go_wp2
    go_ret
    exact ⟨rfl, HB.out⟩
  | true =>
    have HR := Lib.hid (insR_of HFV.out HN.out)
    obtain ⟨hl80, hp80, _⟩ := few_parts HFV.out
    simp only at hl80 hp80
    obtain ⟨F, hF⟩ : ∃ t, fmtC ⟨P, sl, l⟩ = t := ⟨_, rfl⟩
    have HF := Lib.hid hF; clear hF
    obtain ⟨V, hV⟩ : ∃ t, valC ⟨P, sl, l⟩ = t := ⟨_, rfl⟩
    have HV := Lib.hid hV; clear hV
    obtain ⟨c0, c1, c2⟩ := HC.out.c3
    go_wp2_with fail
    refine (CFormat_any pa ia pc ic P sl l _ (HPA.out.below HB.out) (HIA.out.below HB.out) (by omega) HR.out (by omega) (HLB.out.below HB.out)).mono ?_
    rw [HF.out]
    rintro er w2 ⟨rfl, hb2⟩
    clear c0 c1 c2
    have HC := Lib.hid (HC.out.call hb2); have HB := Lib.hid (btrans HB.out HB.out.size hb2); clear hb2
    obtain ⟨c0, c1, c2⟩ := HC.out.c3
    go_wp2_with fail
    refine (Validate_any pa ia pc ic P sl l _ (HPA.out.below HB.out) (HIA.out.below HB.out) (by omega) (fun x hx => (HR.out x hx).2.2.2) (HLB.out.below HB.out)).mono ?_
    rw [HV.out]
    rintro er w3 ⟨rfl, hb3⟩
    clear c0 c1 c2
    have HC := Lib.hid (HC.out.call hb3); have HB := Lib.hid (btrans HB.out HB.out.size hb3); clear hb3
    by_cases e0 : V = 0
    rotate_left
    · have tv : (V != 0) = true := by rw [bne_iff_ne]; exact e0
      have hF0 : F = [] := HF.out.symm.trans (fmt_no (by rw [HV.out]; exact e0))
      subst hF0
      clear e0
      go_wp2_with fail
      refine (lives16 _ (HLB.out.below HB.out)).mono ?_
      rintro er wl2 ⟨rfl, hbl⟩
      have HB := Lib.hid (btrans HB.out HB.out.size hbl)
      go_wp2
      go_ret
      exact ⟨rfl, HB.out⟩
    have tv : (V != 0) = false := by rw [e0]; rfl
    have HVV := Lib.hid (HV.out.trans e0)
    have hFT := HF.out.symm.trans (fmt_ok HVV.out)
    have hFl : F.length ≤ 90000 := by have := text_len HVV.out HR.out (show l.length ≤ 10000 by omega); rw [← hFT] at this; have h2 : (⟨P, sl, l⟩ : Cd).l.length ≤ 80 := hl80; omega
    have HPR := Lib.hid (show parC F = (⟨P, sl, l⟩, 0, 0) by rw [hFT]; exact trip_any HVV.out HR.out)
    clear e0 hFT
    go_wp2_with fail
    refine (CParse_any F _ hFl (HLB.out.below HB.out)).mono ?_
    rw [HPR.out]
    rintro er w4 ⟨qa, qc, ja, jc, rfl, hq1, hq2, hb4⟩
    simp only at hq1 hq2
    have HC := Lib.hid (HC.out.call hb4); have HB := Lib.hid (btrans HB.out HB.out.size hb4); clear hb4
    have hal := (Below.refl w4.heap.size w4).alloc (Nat.le_refl _) (.cells #[.slice qa P.length qc, .int .i64 sl, .slice ja l.length jc] 25)
    have HD := Lib.hid (Bx.new w4 #[.slice qa P.length qc, .int .i64 sl, .slice ja l.length jc] 25)
    have HQ1 := Lib.hid (hq1.below hal); have HQ2 := Lib.hid (hq2.below hal); have HC := Lib.hid (HC.out.call hal); have HB := Lib.hid (btrans HB.out HB.out.size hal); clear hq1 hq2 hal
    go_upto_region 7 with (fail)
    generalize hW : w4.alloc (.cells #[.slice qa P.length qc, .int .i64 sl, .slice ja l.length jc] 25) = v4 at HD HQ1 HQ2 HC HB ⊢
    clear hW
    obtain ⟨c0, c1, c2⟩ := HC.out.c3
    obtain ⟨d0, d1, d2⟩ := HD.out.c3
    go_wp2_with fail
    refine (REqual_any pa ia qa ja pc ic qc jc P P sl sl l l _ (HPA.out.below HB.out) (HIA.out.below HB.out) HQ1.out HQ2.out (by omega) (by omega)).mono ?_
    rw [decide_eq_true rfl]
    rintro er w5 ⟨rfl, hb5⟩
    clear c0 c1 c2 d0 d1 d2
    have HB := Lib.hid (btrans HB.out HB.out.size hb5); clear hb5
    go_wp2_with fail
    refine (lives16 _ (HLB.out.below HB.out)).mono ?_
    rintro er wl3 ⟨rfl, hbl⟩
    have HB := Lib.hid (btrans HB.out HB.out.size hbl)
    go_wp2
    go_ret
    exact ⟨rfl, HB.out⟩
set_option maxRecDepth 100000 in
set_option maxHeartbeats 16000000 in
theorem textsWalk16 (s : List UInt8) (_ : s.length ≤ 140737488351232) (w : World) (hB : LaidB w) :
    Calls Tryz.prog 6 #[.string (bs s)] w fun e w' => e = .returned (.bool true) ∧ Below w.heap.size w w' := by
  have HLB := Lib.hid hB; clear hB
  have HB := Lib.hid (Below.refl w.heap.size w)
  by_cases h15 : (1500 : Int) < (s.length : Int)
  · go_enter Tryz.func6, Tryz.ntmps6
    go_wp2_with fail
    refine (lives16 _ (HLB.out.below HB.out)).mono ?_
    rintro er wl1 ⟨rfl, hbl⟩
    have HB := Lib.hid (btrans HB.out HB.out.size hbl)
    go_wp2
    go_ret
    exact ⟨rfl, HB.out⟩
  have hs15 : s.length ≤ 1500 := by omega
  obtain ⟨⟨⟨P, sl, l⟩, n, e⟩, hp⟩ : ∃ r, parC s = r := ⟨_, rfl⟩
  have HP := Lib.hid hp; clear hp
  go_enter Tryz.func6, Tryz.ntmps6
  go_wp2_with fail
  refine (CParse_any s _ (by omega) (HLB.out.below HB.out)).mono ?_
  rw [HP.out]
  rintro er w1 ⟨pa, pc, ia, ic, rfl, hq1, hq2, hb1⟩
  simp only at hq1 hq2
  have HB := Lib.hid (btrans HB.out HB.out.size hb1); clear hb1
  have hal := (Below.refl w1.heap.size w1).alloc (Nat.le_refl _) (.cells #[.slice pa P.length pc, .int .i64 sl, .slice ia l.length ic] 25)
  have HC := Lib.hid (Bx.new w1 #[.slice pa P.length pc, .int .i64 sl, .slice ia l.length ic] 25)
  have HPA := Lib.hid (hq1.below hal); have HIA := Lib.hid (hq2.below hal); have HB := Lib.hid (btrans HB.out HB.out.size hal); clear hq1 hq2 hal
  go_upto_region 4 with (fail)
  generalize hW : w1.alloc (.cells #[.slice pa P.length pc, .int .i64 sl, .slice ia l.length ic] 25) = v1 at HC HPA HIA HB ⊢
  clear hW
  by_cases e0 : e = 0
  rotate_left
  · have t0 : (e != 0) = true := by rw [bne_iff_ne]; exact e0
    have hc0 : (⟨P, sl, l⟩ : Cd) = cd0 := par_err HP.out e0
    have hl0 : l = [] := congrArg Cd.l hc0
    subst hl0
    have tl : (((([] : List Ins).length : Nat) : Int) == 0) = true := rfl
    simp only [List.length_nil] at tl HC ⊢
    clear e0 hc0
    obtain ⟨c0, c1, c2⟩ := HC.out.c3
    go_wp2_with fail
    refine (lives16 _ (HLB.out.below HB.out)).mono ?_
    rintro er wl2 ⟨rfl, hbl⟩
    have HB := Lib.hid (btrans HB.out HB.out.size hbl)
    go_wp2
    go_ret
    exact ⟨rfl, HB.out⟩
  have t0 : (e != 0) = false := by rw [e0]; rfl
  subst e0
  have HV := Lib.hid (par_valid HP.out).1
  have HG := Lib.hid (par_good hs15 HP.out)
  have hl3 : l.length ≤ 301 := HG.out.2
  have hpl : P.length ≤ 64 := by have := (valC_parts HV.out).2.1; have := (valC_parts HV.out).2.2.2.1; simp only at *; omega
  obtain ⟨F, hF⟩ : ∃ t, fmtC ⟨P, sl, l⟩ = t := ⟨_, rfl⟩
  have hFT := hF.symm.trans (fmt_ok HV.out)
  have hFl : F.length ≤ 90000 := by have := text_len HV.out HG.out.1 (show l.length ≤ 10000 by omega); rw [← hFT] at this; have h2 : (⟨P, sl, l⟩ : Cd).l.length ≤ 301 := hl3; omega
  have HPR := Lib.hid (show parC F = (⟨P, sl, l⟩, 0, 0) by rw [hFT]; exact trip_any HV.out HG.out.1)
  have HF := Lib.hid hF; clear hF hFT
  obtain ⟨c0, c1, c2⟩ := HC.out.c3
  go_wp2_with fail
  refine (CFormat_any pa ia pc ic P sl l _ HPA.out HIA.out (by omega) HG.out.1 (by omega) (HLB.out.below HB.out)).mono ?_
  rw [HF.out]
  rintro er w2 ⟨rfl, hb2⟩
  clear c0 c1 c2
  have HC := Lib.hid (HC.out.call hb2); have HPA := Lib.hid (HPA.out.below hb2); have HIA := Lib.hid (HIA.out.below hb2); have HB := Lib.hid (btrans HB.out HB.out.size hb2); clear hb2
  go_wp2_with fail
  refine (CParse_any F _ hFl (HLB.out.below HB.out)).mono ?_
  rw [HPR.out]
  rintro er w4 ⟨qa, qc, ja, jc, rfl, hq1, hq2, hb4⟩
  simp only at hq1 hq2
  have HC := Lib.hid (HC.out.call hb4); have HPA := Lib.hid (HPA.out.below hb4); have HIA := Lib.hid (HIA.out.below hb4); have HB := Lib.hid (btrans HB.out HB.out.size hb4); clear hb4
  have hb5 := (Below.refl w4.heap.size w4).alloc (Nat.le_refl _) (.cells #[.slice qa P.length qc, .int .i64 sl, .slice ja l.length jc] 25)
  have HD := Lib.hid (Bx.new w4 #[.slice qa P.length qc, .int .i64 sl, .slice ja l.length jc] 25)
  have HQ1 := Lib.hid (hq1.below hb5); have HQ2 := Lib.hid (hq2.below hb5); clear hq1 hq2
  have HC := Lib.hid (HC.out.call hb5); have HPA := Lib.hid (HPA.out.below hb5); have HIA := Lib.hid (HIA.out.below hb5); have HB := Lib.hid (btrans HB.out HB.out.size hb5); clear hb5
  go_upto_region 7 with (fail)
  generalize hW : w4.alloc (.cells #[.slice qa P.length qc, .int .i64 sl, .slice ja l.length jc] 25) = v4 at HD HQ1 HQ2 HC HPA HIA HB ⊢
  clear hW
  obtain ⟨c0, c1, c2⟩ := HC.out.c3
  obtain ⟨d0, d1, d2⟩ := HD.out.c3
  go_wp2_with fail
  refine (Validate_any pa ia pc ic P sl l _ HPA.out HIA.out (by omega) (fun x hx => (HG.out.1 x hx).2.2.2) (HLB.out.below HB.out)).mono ?_
  rw [HV.out]
  rintro er w5 ⟨rfl, hb6⟩
  clear c0 c1 c2 d0 d1 d2
  have HD := Lib.hid (HD.out.call hb6); have HQ1 := Lib.hid (HQ1.out.below hb6); have HQ2 := Lib.hid (HQ2.out.below hb6)
  have HC := Lib.hid (HC.out.call hb6); have HPA := Lib.hid (HPA.out.below hb6); have HIA := Lib.hid (HIA.out.below hb6); have HB := Lib.hid (btrans HB.out HB.out.size hb6); clear hb6
  obtain ⟨c0, c1, c2⟩ := HC.out.c3
  obtain ⟨d0, d1, d2⟩ := HD.out.c3
  go_wp2_with fail
  refine (REqual_any pa ia qa ja pc ic qc jc P P sl sl l l _ HPA.out HIA.out HQ1.out HQ2.out (by omega) (by omega)).mono ?_
  rw [decide_eq_true rfl]
  rintro er w6 ⟨rfl, hb7⟩
  clear c0 c1 c2 d0 d1 d2
  have HB := Lib.hid (btrans HB.out HB.out.size hb7); clear hb7
  go_wp2_with fail
  refine (lives16 _ (HLB.out.below HB.out)).mono ?_
  rintro er wl3 ⟨rfl, hbl⟩
  have HB := Lib.hid (btrans HB.out HB.out.size hbl)
  go_wp2
  go_ret
  exact ⟨rfl, HB.out⟩
end Go.Proofs.YtkmmdkklpbafdaaGreatDoor
