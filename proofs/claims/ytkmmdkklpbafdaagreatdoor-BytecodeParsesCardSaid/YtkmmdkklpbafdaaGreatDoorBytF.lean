/- The walk of layer 16's Validate. No conditions. -/
import Derived.Test.YtkmmdkklpbafdaaGreatDoorBytE
import Derived.Test.YtkmmdkklpbafdaaGreatDoorBytS
namespace Go.Proofs.YtkmmdkklpbafdaaGreatDoor
open Go.RowKit

theorem all_no {α : Type} {p : α → Bool} {l : List α} {k : Nat} (hk : k < l.length) (h : p l[k] = false) : l.all p = false := by
  rw [← Bool.not_eq_true]; intro e; rw [List.all_eq_true] at e; rw [e _ (List.getElem_mem hk)] at h; cases h
theorem all_tk {α : Type} {p : α → Bool} {l : List α} {k : Nat} (hk : k < l.length) (h : (l.take k).all p = true) (h2 : p l[k] = true) : (l.take (k + 1)).all p = true := by
  rw [List.take_add_one, List.getElem?_eq_getElem hk, List.all_append, h]; simp [h2]
theorem all_full {α : Type} {p : α → Bool} {l : List α} {k : Nat} (hk : ¬ k < l.length) (h : (l.take k).all p = true) : l.all p = true := by
  rw [List.take_of_length_le (by omega)] at h; exact h
theorem depG_len : ∀ (l : List Ins) (A : List Int) (d : Int), (depG A d l).2 = true → (depG A d l).1.length = A.length + l.length
  | [], A, d, _ => rfl
  | x :: r, A, d, h => by
    unfold depG at h ⊢
    split at h
    · cases h
    · split at h
      · cases h
      · rename_i h1 h2
        rw [if_neg h1, if_neg h2, depG_len r _ _ h, List.length_append]; simp only [List.length_cons, List.length_nil]; omega
theorem val_lim {c : Cd} (h : 4096 < c.l.length ∨ 64 < c.sl) : valC c = 2 := by unfold valC; rw [if_pos h]
theorem val_bad {c : Cd} (h1 : ¬ (4096 < c.l.length ∨ 64 < c.sl)) (h : c.p.all tyB = false ∨ (c.sl < (c.p.length : Int) ∨ c.l.length = 0) ∨ c.l.all (insS c.sl (c.l.length : Int)) = false ∨ ((depG [] 0 c.l).2 = false ∨ leaI (lastI c.l) = false) ∨ c.l.all (jokS (depG [] 0 c.l).1) = false) : valC c = 23 := by
  unfold valC
  rw [if_neg h1]
  split
  · rfl
  · rename_i h2
    split
    · rfl
    · rename_i h3
      split
      · rfl
      · rename_i h4
        split
        · rfl
        · rename_i h5
          split
          · rfl
          · rename_i h6
            rcases h with h | h | h | h | h
            · exact absurd h h2
            · exact absurd h h3
            · exact absurd h h4
            · exact absurd h h5
            · exact absurd h h6
theorem val_ok {c : Cd} (h1 : ¬ (4096 < c.l.length ∨ 64 < c.sl)) (h2 : c.p.all tyB = true) (h3 : ¬ (c.sl < (c.p.length : Int) ∨ c.l.length = 0)) (h4 : c.l.all (insS c.sl (c.l.length : Int)) = true) (h5 : (depG [] 0 c.l).2 = true) (h6 : leaI (lastI c.l) = true) (h7 : c.l.all (jokS (depG [] 0 c.l).1) = true) : valC c = 0 := by
  unfold valC
  rw [if_neg h1, if_neg (by simp [h2]), if_neg h3, if_neg (by simp [h4]), if_neg (by simp [h5, h6]), if_neg (by simp [h7])]
theorem ins_tgt {sl n : Int} {x : Ins} (h : insS sl n x = true) (hj : jmpI x = true) : 0 ≤ x.a ∧ x.a < n := by
  unfold insS at h
  simp only [Bool.and_eq_true] at h
  obtain ⟨_, _, h⟩ := h
  unfold jmpI at hj
  simp only [Bool.or_eq_true, decide_eq_true_eq] at hj
  rw [if_neg (by omega), if_neg (by omega), if_neg (by omega), if_pos hj] at h
  unfold inR at h
  simpa using h
theorem jok_no {D : List Int} {x : Ins} (h : jmpI x = false) : jokS D x = true := by unfold jokS; rw [h]; rfl
theorem jok_yes {D : List Int} {x : Ins} {k : Nat} {v : Int} (h : jmpI x = true) (ha : x.a = (k : Int)) (hk : k < D.length) (hv : D[k] = v) : jokS D x = decide (v = 0) := by
  unfold jokS; rw [h, ha, Int.toNat_natCast, List.getD_eq_getElem?_getD, List.getElem?_eq_getElem hk, Option.getD_some, hv]; rfl

set_option maxRecDepth 100000 in
set_option maxHeartbeats 16000000 in
theorem Validate_any (pa ia : Option Addr) (pc ic : Nat) (P : List Int) (sl : Int) (l : List Ins) (w : World) (hP : CellsAt w (.slice pa P.length pc) P.length (intsL P)) (hI : CellsAt w (.slice ia l.length ic) l.length (insLs l)) (hp : P.length ≤ 9223372036854775806) (hs : ∀ x ∈ l, x.s.length ≤ 9223372036854775807) (hB : LaidB w) :
    Calls Tryz.prog 13 #[.agg #[.slice pa P.length pc, .int .i64 sl, .slice ia l.length ic]] w fun e w' => e = .returned (.int .i64 (valC ⟨P, sl, l⟩)) ∧ Below w.heap.size w w' := by
  obtain ⟨V, hV⟩ : ∃ V, valC ⟨P, sl, l⟩ = V := ⟨_, rfl⟩
  rw [hV]
  have HV := Lib.hid hV; clear hV
  have HPA := Lib.hid hP; have HIA := Lib.hid hI; have HS := Lib.hid hs; have HLB := Lib.hid hB; clear hP hI hs hB
  obtain ⟨v0, hW0, hb0, hc0⟩ := boxes1 w #[.slice pa P.length pc, .int .i64 sl, .slice ia l.length ic] 25
  have HW := Lib.hid hW0; have HB := Lib.hid hb0; have HC := Lib.hid hc0; clear hW0 hb0 hc0
  go_enter Tryz.func13, Tryz.ntmps13
  go_upto_region 1 with (fail)
  rw [HW.out]
  clear HW
  obtain ⟨c0, c1, c2⟩ := HC.out.c3
  by_cases h1 : 4096 < l.length
  · have h1' : (4096 : Int) < (l.length : Int) := by omega
    have hF : V = 2 := HV.out.symm.trans (val_lim (.inl h1))
    have HF := Lib.hid hF; clear hF
    go_wp2
    go_ret
    exact ⟨by rw [HF.out] <;> rfl, HB.out⟩
  have h1' : ¬ (4096 : Int) < (l.length : Int) := by omega
  by_cases h2 : 64 < sl
  · skip
    have hF : V = 2 := HV.out.symm.trans (val_lim (.inr h2))
    have HF := Lib.hid hF; clear hF
    go_wp2
    go_ret
    exact ⟨by rw [HF.out] <;> rfl, HB.out⟩
  have HL := Lib.hid (show ¬ (4096 < (⟨P, sl, l⟩ : Cd).l.length ∨ 64 < (⟨P, sl, l⟩ : Cd).sl) from fun h => h.elim h1 h2)
  have hll : l.length ≤ 4096 := by omega
  clear h1
  go_wp2
  go_loopw [23] (fun i wr => ∃ k : Nat, k ≤ P.length ∧ i = .int .i64 k ∧ wr = v0 ∧ Hid ((P.take k).all tyB = true)) (fun i _ => P.length - (intOf i).toNat)
  case atStart => exact ⟨0, Nat.zero_le _, rfl, rfl, Lib.hid rfl⟩
  case round =>
    obtain ⟨k, hk, rfl, rfl, HQ⟩ := hrel
    by_cases hlt : k < P.length
    · have hlt' : (k : Int) < (P.length : Int) := by omega
      have hw1 : IntKind.i64.wrap ((k : Int) + 1) = (k : Int) + 1 := by rw [IntKind.wrap_i64]; omega
      obtain ⟨ba, oa, rfl, p0⟩ := int_cells (HPA.out.below HB.out) hlt
      obtain ⟨t, ht⟩ : ∃ t, P[k] = t := ⟨_, rfl⟩
      rw [ht] at p0
      have HT := Lib.hid ht; clear ht
      by_cases e1 : t = 1
      · have t1 : (t != 1) = false := by rw [e1]; rfl
        have H1 := Lib.hid e1; clear e1
        have HN := Lib.hid (all_tk hlt HQ.out (by rw [HT.out]; exact by rw [H1.out]; rfl))
        go_wp2
        go_roundw
        case rel => exact ⟨k + 1, by omega, by go_num, by first | exact True.intro | rfl, HN⟩
        case measure => simp [intOf]; omega
      have t1 : (t != 1) = true := by rw [bne_iff_ne]; exact e1
      by_cases e2 : t = 2
      · have t2 : (t != 2) = false := by rw [e2]; rfl
        have H1 := Lib.hid e2; clear e1 e2
        have HN := Lib.hid (all_tk hlt HQ.out (by rw [HT.out]; exact by rw [H1.out]; rfl))
        go_wp2
        go_roundw
        case rel => exact ⟨k + 1, by omega, by go_num, by first | exact True.intro | rfl, HN⟩
        case measure => simp [intOf]; omega
      have t2 : (t != 2) = true := by rw [bne_iff_ne]; exact e2
      have HE := Lib.hid (show tyB t = false by unfold tyB; rw [decide_eq_false e1, decide_eq_false e2]; rfl); clear e1 e2
      have hF : V = 23 := HV.out.symm.trans (val_bad HL.out (.inl (all_no hlt (by rw [HT.out]; exact HE.out))))
      have HF := Lib.hid hF; clear hF
      go_wp2
      go_ret
      exact ⟨by rw [HF.out] <;> rfl, HB.out⟩
    · have hlt' : ¬ (k : Int) < (P.length : Int) := by omega
      have HTY := Lib.hid (all_full hlt HQ.out); clear HQ
      by_cases h3 : sl < (P.length : Int)
      · skip
        have hF : V = 23 := HV.out.symm.trans (val_bad HL.out (.inr (.inl (.inl h3))))
        have HF := Lib.hid hF; clear hF
        go_wp2
        go_ret
        exact ⟨by rw [HF.out] <;> rfl, HB.out⟩
      by_cases h4 : l.length = 0
      · have h4' : ((l.length : Int) == 0) = true := by rw [beq_iff_eq]; omega
        have H4 := Lib.hid h4; clear h4
        have hF : V = 23 := HV.out.symm.trans (val_bad HL.out (.inr (.inl (.inr H4.out))))
        have HF := Lib.hid hF; clear hF
        go_wp2
        go_ret
        exact ⟨by rw [HF.out] <;> rfl, HB.out⟩
      have h4' : ((l.length : Int) == 0) = false := by rw [beq_eq_false_iff_ne]; omega
      have H34 := Lib.hid (show ¬ ((⟨P, sl, l⟩ : Cd).sl < ((⟨P, sl, l⟩ : Cd).p.length : Int) ∨ (⟨P, sl, l⟩ : Cd).l.length = 0) from fun h => h.elim h3 h4)
      have hpos : 0 < l.length := by omega
      clear hlt hk
      go_upto_region 11 with (fail)
      clear h4
      go_wp2
      go_loopw [49] (fun i wr => ∃ k : Nat, k ≤ l.length ∧ i = .int .i64 k ∧ Hid ((l.take k).all (insS sl (l.length : Int)) = true) ∧ Hid (Bx w.heap.size #[.slice pa P.length pc, .int .i64 sl, .slice ia l.length ic] 25 wr) ∧ Below w.heap.size w wr) (fun i _ => l.length - (intOf i).toNat)
      case atStart => exact ⟨0, Nat.zero_le _, rfl, Lib.hid rfl, HC, HB.out⟩
      case round =>
        clear c0 c1 c2 HB HC
        obtain ⟨k, hk, rfl, HQ, HC, hB⟩ := hrel
        have HB := Lib.hid hB; clear hB
        by_cases hlt : k < l.length
        · have hlt' : (k : Int) < (l.length : Int) := by omega
          have hw1 : IntKind.i64.wrap ((k : Int) + 1) = (k : Int) + 1 := by rw [IntKind.wrap_i64]; omega
          obtain ⟨ba, oa, rfl, p0, p1, p2, p3, p4⟩ := ins_cells (HIA.out.below HB.out) hlt
          have hxs := HS.out _ (List.getElem_mem hlt)
          obtain ⟨⟨op, a, b, n, s⟩, hxe⟩ : ∃ x, l[k] = x := ⟨_, rfl⟩
          rw [hxe] at p0 p1 p2 p3 p4 hxs
          simp only at p0 p1 p2 p3 p4 hxs
          have HXE := Lib.hid hxe; clear hxe
          have hal := (Below.refl wr.heap.size wr).alloc (Nat.le_refl _) (.cells #[.int .i64 op, .int .i64 a, .int .i64 b, .int .i64 n, .string (bs s)] 39)
          have HX := Lib.hid (Bx.new wr #[.int .i64 op, .int .i64 a, .int .i64 b, .int .i64 n, .string (bs s)] 39); have HB := Lib.hid (btrans HB.out HB.out.size hal); have HC := Lib.hid (HC.out.call hal); clear hal
          go_upto_region 14 with (fail)
          clear p0 p1 p2 p3 p4
          generalize hW : wr.alloc (.cells #[.int .i64 op, .int .i64 a, .int .i64 b, .int .i64 n, .string (bs s)] 39) = v1 at HX HB HC  ⊢
          clear hW
          obtain ⟨c0, c1, c2⟩ := HC.out.c3
          obtain ⟨x0, x1, x2, x3, x4⟩ := HX.out.c5
          obtain ⟨iv, hiv⟩ : ∃ t, insS sl (l.length : Int) ⟨op, a, b, n, s⟩ = t := ⟨_, rfl⟩
          have HIV := Lib.hid hiv; clear hiv
          go_wp2_with fail
          have hcl := validInstr_any pa (some ⟨ba, oa, none⟩) P.length pc l.length ic sl ⟨op, a, b, n, s⟩ hxs v1 (HLB.out.below HB.out)
          simp only [insV] at hcl
          refine hcl.mono ?_
          rw [HIV.out]
          clear hcl
          rintro er w2 ⟨rfl, hb1⟩
          clear c0 c1 c2 x0 x1 x2 x3 x4
          have HB := Lib.hid (btrans HB.out HB.out.size hb1); have HC := Lib.hid (HC.out.call hb1); clear hb1 HX
          cases iv with
          | false =>
            have hF : V = 23 := HV.out.symm.trans (val_bad HL.out (.inr (.inr (.inl (all_no hlt (by rw [HXE.out]; exact HIV.out))))))
            have HF := Lib.hid hF; clear hF
            go_wp2
            go_ret
            exact ⟨by rw [HF.out] <;> rfl, HB.out⟩
          | true =>
            have HN := Lib.hid (all_tk hlt HQ.out (by rw [HXE.out]; exact HIV.out))
            go_wp2
            go_roundw
            case rel => exact ⟨k + 1, by omega, by go_num, HN, HC, HB.out⟩
            case measure => simp [intOf]; omega
        · have hlt' : ¬ (k : Int) < (l.length : Int) := by omega
          have HINS := Lib.hid (all_full hlt HQ.out); clear HQ hlt hk
          obtain ⟨c0, c1, c2⟩ := HC.out.c3
          obtain ⟨⟨D, g⟩, hD⟩ : ∃ R, depG [] 0 l = R := ⟨_, rfl⟩
          have HD := Lib.hid hD; clear hD
          go_wp2_with fail
          refine (depths_any _ l _ (HIA.out.below HB.out) hll).mono ?_
          rw [HD.out]
          rintro er w3 ⟨v3, rfl, hcd, hb1⟩
          simp only at hcd
          clear c0 c1 c2
          have HB := Lib.hid (btrans HB.out HB.out.size hb1); have HC := Lib.hid (HC.out.call hb1); have HDC := Lib.hid hcd; clear hb1 hcd
          obtain ⟨c0, c1, c2⟩ := HC.out.c3
          cases g with
          | false =>
            have HE := Lib.hid (show (depG [] 0 l).2 = false by rw [HD.out])
            have hF : V = 23 := HV.out.symm.trans (val_bad HL.out (.inr (.inr (.inr (.inl (.inl HE.out))))))
            have HF := Lib.hid hF; clear hF
            go_wp2
            go_ret
            exact ⟨by rw [HF.out] <;> rfl, HB.out⟩
          | true =>
            have hDl : D.length = l.length := by have := depG_len l [] 0 (by rw [HD.out]); rw [HD.out] at this; simpa using this
            have HE := Lib.hid (show (depG [] 0 l).2 = true by rw [HD.out])
            have HDl := Lib.hid hDl; clear hDl
            have hkm : l.length - 1 < l.length := by omega
            have hwm : IntKind.i64.wrap ((l.length : Int) - 1) = ((l.length - 1 : Nat) : Int) := by rw [IntKind.wrap_i64]; omega
            obtain ⟨bm, om, hiam, p0, p1, p2, p3, p4⟩ := ins_cells (HIA.out.below HB.out) hkm
            obtain ⟨m, hm⟩ : ∃ m, l.length - 1 = m := ⟨_, rfl⟩
            have hkm2 : m < l.length := by omega
            have hkm3 : (m : Int) < (l.length : Int) := by omega
            obtain ⟨⟨op, a, b, n, s⟩, hxe⟩ : ∃ x, l[m] = x := ⟨_, rfl⟩
            have hla : lastI l = ⟨op, a, b, n, s⟩ := by rw [last_get (k := m) (by omega), ← hxe, List.getD_eq_getElem?_getD, List.getElem?_eq_getElem hkm2]; rfl
            simp only [hm, hxe] at p0 p1 p2 p3 p4 hwm
            have HLA := Lib.hid hla; have HIAM := Lib.hid hiam; clear hla hkm hm hxe hiam
            have hiam2 := HIAM.out
            subst hiam2
            clear HIAM
            obtain ⟨lv, hlv⟩ : ∃ t, leaI ⟨op, a, b, n, s⟩ = t := ⟨_, rfl⟩
            have HLV := Lib.hid hlv; clear hlv
            go_wp2_with fail
            have hcl := leaves_any ⟨op, a, b, n, s⟩
            simp only [insV] at hcl
            refine (hcl _).mono ?_
            rw [HLV.out]
            clear hcl
            rintro er w4 ⟨rfl, hb1⟩
            clear p0 p1 p2 p3 p4 c0 c1 c2
            have HB := Lib.hid (btrans HB.out HB.out.size hb1); have HC := Lib.hid (HC.out.call hb1); have HDC := Lib.hid (HDC.out.below hb1); clear hb1
            obtain ⟨c0, c1, c2⟩ := HC.out.c3
            cases lv with
            | false =>
              have hF : V = 23 := HV.out.symm.trans (val_bad HL.out (.inr (.inr (.inr (.inl (.inr (by rw [show lastI (⟨P, sl, l⟩ : Cd).l = _ from HLA.out]; exact HLV.out)))))))
              have HF := Lib.hid hF; clear hF
              go_wp2
              go_ret
              exact ⟨by rw [HF.out] <;> rfl, HB.out⟩
            | true =>
              have HLL := Lib.hid (show leaI (lastI l) = true by rw [HLA.out]; exact HLV.out); clear HLA HLV hkm2 hkm3 hwm
              go_wp2
              go_loopw [81] (fun i wr => ∃ k : Nat, k ≤ l.length ∧ i = .int .i64 k ∧ Hid ((l.take k).all (jokS D) = true) ∧ Hid (Bx w.heap.size #[.slice pa P.length pc, .int .i64 sl, .slice (some ⟨bm, om, none⟩) l.length ic] 25 wr) ∧ Hid (CellsAt wr v3 D.length (intsL D)) ∧ Below w.heap.size w wr) (fun i _ => l.length - (intOf i).toNat)
              case atStart => exact ⟨0, Nat.zero_le _, rfl, Lib.hid rfl, HC, HDC, HB.out⟩
              case round =>
                clear c0 c1 c2 HB HC HDC
                obtain ⟨k, hk, rfl, HQ, HC, HDC, hB⟩ := hrel
                have HB := Lib.hid hB; clear hB
                by_cases hlt : k < l.length
                · have hlt' : (k : Int) < (l.length : Int) := by omega
                  have hw1 : IntKind.i64.wrap ((k : Int) + 1) = (k : Int) + 1 := by rw [IntKind.wrap_i64]; omega
                  obtain ⟨pb, po, hpe, p0, p1, p2, p3, p4⟩ := ins_cells (HIA.out.below HB.out) hlt
                  cases hpe
                  have hiv := List.all_eq_true.1 HINS.out _ (List.getElem_mem hlt)
                  obtain ⟨⟨jop, ja, jb, jn, js⟩, hxe⟩ : ∃ x, l[k] = x := ⟨_, rfl⟩
                  rw [hxe] at p0 p1 p2 p3 p4 hiv
                  simp only at p0 p1 p2 p3 p4
                  have HXE := Lib.hid hxe; have HIV := Lib.hid hiv; clear hxe hiv
                  have hal := (Below.refl wr.heap.size wr).alloc (Nat.le_refl _) (.cells #[.int .i64 jop, .int .i64 ja, .int .i64 jb, .int .i64 jn, .string (bs js)] 39)
                  have HX := Lib.hid (Bx.new wr #[.int .i64 jop, .int .i64 ja, .int .i64 jb, .int .i64 jn, .string (bs js)] 39); have HB := Lib.hid (btrans HB.out HB.out.size hal); have HC := Lib.hid (HC.out.call hal); have HDC := Lib.hid (HDC.out.below hal); clear hal
                  go_upto_region 23 with (fail)
                  clear p0 p1 p2 p3 p4
                  generalize hW : wr.alloc (.cells #[.int .i64 jop, .int .i64 ja, .int .i64 jb, .int .i64 jn, .string (bs js)] 39) = v5 at HX HB HC HDC ⊢
                  clear hW
                  obtain ⟨x0, x1, x2, x3, x4⟩ := HX.out.c5
                  obtain ⟨jv, hjv⟩ : ∃ t, jmpI ⟨jop, ja, jb, jn, js⟩ = t := ⟨_, rfl⟩
                  have HJV := Lib.hid hjv; clear hjv
                  go_wp2_with fail
                  have hcl := jumps_any ⟨jop, ja, jb, jn, js⟩
                  simp only [insV] at hcl
                  refine (hcl _).mono ?_
                  rw [HJV.out]
                  clear hcl
                  rintro er w6 ⟨rfl, hb1⟩
                  clear x0 x1 x2 x3 x4
                  have HB := Lib.hid (btrans HB.out HB.out.size hb1); have HC := Lib.hid (HC.out.call hb1); have HDC := Lib.hid (HDC.out.below hb1); have HX := Lib.hid (HX.out.call hb1); clear hb1
                  obtain ⟨x0, x1, x2, x3, x4⟩ := HX.out.c5
                  cases jv with
                  | false =>
                    have HN := Lib.hid (all_tk hlt HQ.out (by rw [HXE.out]; exact jok_no HJV.out))
                    go_wp2
                    go_roundw
                    case rel => exact ⟨k + 1, by omega, by go_num, HN, HC, HDC, HB.out⟩
                    case measure => simp [intOf]; omega
                  | true =>
                    obtain ⟨ha0, ha1⟩ := ins_tgt HIV.out HJV.out
                    simp only at ha0 ha1
                    obtain ⟨j, rfl⟩ : ∃ j : Nat, ja = (j : Int) := ⟨ja.toNat, by omega⟩
                    have hj1 : j < D.length := by rw [HDl.out]; omega
                    have hj2 : (j : Int) < (D.length : Int) := by omega
                    obtain ⟨ad, cap, hve, -⟩ := id HDC.out
                    subst hve
                    obtain ⟨bd, od, rfl, d0⟩ := int_cells HDC.out hj1
                    obtain ⟨dv, hdv⟩ : ∃ t, D[j] = t := ⟨_, rfl⟩
                    rw [hdv] at d0
                    have HDV := Lib.hid hdv; clear hdv ha0 ha1
                    by_cases h0 : dv = 0
                    · have t0 : (dv != 0) = false := by rw [h0]; rfl
                      have H0 := Lib.hid h0; clear h0
                      have HN := Lib.hid (all_tk hlt HQ.out (by rw [HXE.out]; exact (jok_yes HJV.out rfl hj1 HDV.out).trans (by rw [H0.out]; rfl)))
                      go_wp2
                      go_roundw
                      case rel => exact ⟨k + 1, by omega, by go_num, HN, HC, HDC, HB.out⟩
                      case measure => simp [intOf]; omega
                    have t0 : (dv != 0) = true := by rw [bne_iff_ne]; exact h0
                    have HE2 := Lib.hid (show (depG [] 0 l).1 = D by rw [HD.out])
                    have H0 := Lib.hid h0; clear h0
                    have hF : V = 23 := HV.out.symm.trans (val_bad HL.out (.inr (.inr (.inr (.inr (all_no hlt (by rw [HXE.out, show (depG [] 0 (⟨P, sl, l⟩ : Cd).l).1 = D from HE2.out]; exact (jok_yes HJV.out rfl hj1 HDV.out).trans (decide_eq_false H0.out))))))))
                    have HF := Lib.hid hF; clear hF
                    go_wp2
                    go_ret
                    exact ⟨by rw [HF.out] <;> rfl, HB.out⟩
                · have hlt' : ¬ (k : Int) < (l.length : Int) := by omega
                  have HJ := Lib.hid (all_full hlt HQ.out)
                  have HE2 := Lib.hid (show (depG [] 0 l).1 = D by rw [HD.out])
                  have hF : V = 0 := HV.out.symm.trans (val_ok HL.out HTY.out H34.out HINS.out HE.out HLL.out (by rw [show (depG [] 0 (⟨P, sl, l⟩ : Cd).l).1 = D from HE2.out]; exact HJ.out))
                  have HF := Lib.hid hF; clear hF
                  go_wp2
                  go_ret
                  exact ⟨by rw [HF.out] <;> rfl, HB.out⟩
end Go.Proofs.YtkmmdkklpbafdaaGreatDoor
