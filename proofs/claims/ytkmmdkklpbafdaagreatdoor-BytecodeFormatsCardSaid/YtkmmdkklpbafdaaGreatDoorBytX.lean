/- The walk of BytecodeFormats. No conditions. -/
import Derived.Test.YtkmmdkklpbafdaaGreatDoorBytW
namespace Go.Proofs.YtkmmdkklpbafdaaGreatDoor
open Go.RowKit

set_option maxRecDepth 100000 in
set_option maxHeartbeats 16000000 in
theorem formatsWalk16 (pa ia : Option Addr) (pc ic : Nat) (P : List Int) (sl : Int) (l : List Ins) {w : World} (hP : CellsAt w (.slice pa P.length pc) P.length (intsL P)) (hI : CellsAt w (.slice ia l.length ic) l.length (insLs l)) (hN : ∀ x ∈ l, InsN x) (pb ib : Option Addr) (qc jc : Nat) (Q : List Int) (tl : Int) (m : List Ins) (hQ : CellsAt w (.slice pb Q.length qc) Q.length (intsL Q)) (hJ : CellsAt w (.slice ib m.length jc) m.length (insLs m)) (_ : ∀ x ∈ m, InsN x) (hB : LaidB w) :
    Calls Tryz.prog 8 #[.agg #[.slice pa P.length pc, .int .i64 sl, .slice ia l.length ic], .agg #[.slice pb Q.length qc, .int .i64 tl, .slice ib m.length jc]] w fun e w' => e = .returned (.bool true) ∧ Below w.heap.size w w' := by
  obtain ⟨fv, hfv⟩ : ∃ t, fewS ⟨P, sl, l⟩ = t := ⟨_, rfl⟩
  obtain ⟨gv, hgv⟩ : ∃ t, fewS ⟨Q, tl, m⟩ = t := ⟨_, rfl⟩
  have HFV := Lib.hid hfv; have HGV := Lib.hid hgv; have HPA := Lib.hid hP; have HIA := Lib.hid hI; have HQA := Lib.hid hQ; have HJA := Lib.hid hJ; have HN := Lib.hid hN; have HLB := Lib.hid hB; clear hfv hgv hP hI hQ hJ hN hB
  obtain ⟨v0, hW0, hb0, hc0, hd0⟩ := boxes2 w #[.slice pa P.length pc, .int .i64 sl, .slice ia l.length ic] 25 #[.slice pb Q.length qc, .int .i64 tl, .slice ib m.length jc] 25
  have HW := Lib.hid hW0; have HB := Lib.hid hb0; have HC := Lib.hid hc0; have HD := Lib.hid hd0; clear hW0 hb0 hc0 hd0
  go_enter Tryz.func8, Tryz.ntmps8
  go_upto_region 1 with (fail)
  rw [HW.out]
  clear HW
  obtain ⟨c0, c1, c2⟩ := HC.out.c3
  obtain ⟨d0, d1, d2⟩ := HD.out.c3
  go_wp2_with fail
  refine (Few_any pa ia pc ic P sl l _ (HIA.out.below HB.out)).mono ?_
  rw [HFV.out]
  rintro er w1 ⟨rfl, hb1⟩
  clear c0 c1 c2 d0 d1 d2
  have HC := Lib.hid (HC.out.call hb1); have HD := Lib.hid (HD.out.call hb1); have HB := Lib.hid (btrans HB.out HB.out.size hb1); clear hb1
  cases fv with
  | false =>
    go_wp2_with fail
    refine (lives16 _ (HLB.out.below HB.out)).mono ?_
    rintro er wl ⟨rfl, hbl⟩
    have HB := Lib.hid (btrans HB.out HB.out.size hbl)
    go_wp2
    go_ret
    exact ⟨rfl, HB.out⟩
  | true =>
    obtain ⟨c0, c1, c2⟩ := HC.out.c3
    obtain ⟨d0, d1, d2⟩ := HD.out.c3
    go_wp2_with fail
    refine (Few_any pb ib qc jc Q tl m _ (HJA.out.below HB.out)).mono ?_
    rw [HGV.out]
    rintro er w2 ⟨rfl, hb2⟩
    clear c0 c1 c2 d0 d1 d2
    have HC := Lib.hid (HC.out.call hb2); have HD := Lib.hid (HD.out.call hb2); have HB := Lib.hid (btrans HB.out HB.out.size hb2); clear hb2
    cases gv with
    | false =>
      go_wp2_with fail
      refine (lives16 _ (HLB.out.below HB.out)).mono ?_
      rintro er wl ⟨rfl, hbl⟩
      have HB := Lib.hid (btrans HB.out HB.out.size hbl)
      go_wp2
      go_ret
      exact ⟨rfl, HB.out⟩
    | true =>
      have HR := Lib.hid (insR_of HFV.out HN.out)
      obtain ⟨hl80, hp80, _⟩ := few_parts HFV.out
      simp only at hl80 hp80
      obtain ⟨F, hF⟩ : ∃ t, fmtC ⟨P, sl, l⟩ = t := ⟨_, rfl⟩
      have HF := Lib.hid hF; clear hF
      obtain ⟨q, hq⟩ : ∃ t, decide ((⟨P, sl, l⟩ : Cd) = ⟨Q, tl, m⟩) = t := ⟨_, rfl⟩
      have HQ := Lib.hid hq; clear hq
      have tF : (F == F) = true := beq_self_eq_true _
      have tq : (q == q) = true := beq_self_eq_true _
      have hs0 : Bx w.heap.size #[.slice pa P.length pc, .int .i64 sl, .slice ia l.length ic] 25 w2.drew ∧ Bx (w.heap.size + 1) #[.slice pb Q.length qc, .int .i64 tl, .slice ib m.length jc] 25 w2.drew := ⟨HC.out, HD.out⟩
      have HS0 := Lib.hid hs0; clear hs0
      go_upto_region 3 with (fail)
      go_wp2_with fail
      refine wp_region_held_drew (S := (fun w' => Bx w.heap.size #[.slice pa P.length pc, .int .i64 sl, .slice ia l.length ic] 25 w' ∧ Bx (w.heap.size + 1) #[.slice pb Q.length qc, .int .i64 tl, .slice ib m.length jc] 25 w')) (by kernel_rfl) ?_ (fun hHeld => ?_)
      · exact HS0.out
      refine takeH (i := 0) (v := ?vv1) 14 rfl rfl (by kernel_rfl) (by kernel_rfl) (by kernel_rfl) (fun _ _ _ h => h) (Or.inl ⟨by kernel_rfl, ?yy1⟩) (by assumption) ?_
      case yy1 =>
        intro wq hSw
        obtain ⟨y0, y1, y2⟩ := hSw.1.c3
        clear hSw
        go_simp
        (try with_reducible rfl)
      simp only [List.setIfInBounds_toArray, List.set_cons_zero, List.set_cons_succ]
      refine takeH (i := 2) (v := ?vv2) 16 rfl rfl (by kernel_rfl) (by kernel_rfl) (by kernel_rfl) (fun _ _ _ h => h) (Or.inl ⟨by kernel_rfl, ?yy2⟩) (by assumption) ?_
      case yy2 =>
        intro wq hSw
        obtain ⟨y0, y1, y2⟩ := hSw.1.c3
        clear hSw
        go_simp
        (try with_reducible rfl)
      simp only [List.setIfInBounds_toArray, List.set_cons_zero, List.set_cons_succ]
      have hc0 : Below w2.heap.size w2 w2.drew := (Below.refl w2.heap.size w2).drew
      have H0 := Lib.hid (btrans HB.out HB.out.size hc0); clear hc0
      refine wpAnyH_ready (rs := [1]) (by kernel_rfl) (by simp) ?_
      refine (AllReadyH.cons rfl (fun K hK => ?_) AllReadyH.nil)
      go_simp
      (refine (CFormat_any pa ia pc ic P sl l _ (HPA.out.below H0.out) (HIA.out.below H0.out) (by omega) HR.out (by omega) (HLB.out.below H0.out)).mono ?_; rw [HF.out]; rintro er u1 ⟨rfl, hb1⟩)
      (try go_wp2_with fail)
      refine hK.out _ _ ?_ (fun hHeld => ?_)
      · exact ⟨hHeld.1.call hb1, hHeld.2.call hb1⟩
      clear hK K
      (try simp only [Act.put, List.setIfInBounds_toArray, List.set_cons_zero, List.set_cons_succ])
      have H1 := Lib.hid (btrans H0.out H0.out.size hb1); clear hb1
      refine wpAnyH_ready (rs := [3]) (by kernel_rfl) (by simp) ?_
      refine (AllReadyH.cons rfl (fun K hK => ?_) AllReadyH.nil)
      go_simp
      (refine (CRFormat_any pa ia pc ic P sl l _ (HPA.out.below H1.out) (HIA.out.below H1.out) (by omega) HR.out (by omega)).mono ?_; rw [HF.out]; rintro er u2 ⟨rfl, hb2⟩)
      (try go_wp2_with fail)
      refine hK.out _ _ ?_ (fun hHeld => ?_)
      · exact ⟨hHeld.1.call hb2, hHeld.2.call hb2⟩
      clear hK K
      (try simp only [Act.put, List.setIfInBounds_toArray, List.set_cons_zero, List.set_cons_succ])
      have H2 := Lib.hid (btrans H1.out H1.out.size hb2); clear hb2
      refine takeH (i := 4) (v := ?vv3) 18 rfl rfl (by kernel_rfl) (by kernel_rfl) (by kernel_rfl) (fun _ _ _ h => h) (Or.inl ⟨by kernel_rfl, ?yy3⟩) (by assumption) ?_
      case yy3 => intro w hSw; (try dsimp only at hSw); go_simp; (try with_reducible rfl)
      simp only [List.setIfInBounds_toArray, List.set_cons_zero, List.set_cons_succ]
      refine takeH (i := 5) (v := ?vv4) 19 rfl rfl (by kernel_rfl) (by kernel_rfl) (by kernel_rfl) (fun _ _ _ h => h) (Or.inl ⟨by kernel_rfl, ?yy4⟩) (by assumption) ?_
      case yy4 => intro w hSw; (try dsimp only at hSw); go_simp; (try with_reducible rfl)
      simp only [List.setIfInBounds_toArray, List.set_cons_zero, List.set_cons_succ]
      refine takeH (i := 6) (v := ?vv5) 20 rfl rfl (by kernel_rfl) (by kernel_rfl) (by kernel_rfl) (fun _ _ _ h => h) (Or.inl ⟨by kernel_rfl, ?yy5⟩) (by assumption) ?_
      case yy5 =>
        intro wq hSw
        obtain ⟨y0, y1, y2⟩ := hSw.1.c3
        clear hSw
        go_simp
        (try with_reducible rfl)
      simp only [List.setIfInBounds_toArray, List.set_cons_zero, List.set_cons_succ]
      refine takeH (i := 7) (v := ?vv6) 21 rfl rfl (by kernel_rfl) (by kernel_rfl) (by kernel_rfl) (fun _ _ _ h => h) (Or.inl ⟨by kernel_rfl, ?yy6⟩) (by assumption) ?_
      case yy6 =>
        intro wq hSw
        obtain ⟨y0, y1, y2⟩ := hSw.2.c3
        clear hSw
        go_simp
        (try with_reducible rfl)
      simp only [List.setIfInBounds_toArray, List.set_cons_zero, List.set_cons_succ]
      refine takeH (i := 9) (v := ?vv7) 23 rfl rfl (by kernel_rfl) (by kernel_rfl) (by kernel_rfl) (fun _ _ _ h => h) (Or.inl ⟨by kernel_rfl, ?yy7⟩) (by assumption) ?_
      case yy7 =>
        intro wq hSw
        obtain ⟨y0, y1, y2⟩ := hSw.1.c3
        clear hSw
        go_simp
        (try with_reducible rfl)
      simp only [List.setIfInBounds_toArray, List.set_cons_zero, List.set_cons_succ]
      refine takeH (i := 10) (v := ?vv8) 24 rfl rfl (by kernel_rfl) (by kernel_rfl) (by kernel_rfl) (fun _ _ _ h => h) (Or.inl ⟨by kernel_rfl, ?yy8⟩) (by assumption) ?_
      case yy8 =>
        intro wq hSw
        obtain ⟨y0, y1, y2⟩ := hSw.2.c3
        clear hSw
        go_simp
        (try with_reducible rfl)
      simp only [List.setIfInBounds_toArray, List.set_cons_zero, List.set_cons_succ]
      refine wpAnyH_ready (rs := [8]) (by kernel_rfl) (by simp) ?_
      refine (AllReadyH.cons rfl (fun K hK => ?_) AllReadyH.nil)
      go_simp
      (refine (Equal_any pa ia pb ib pc ic qc jc P Q sl tl l m _ (HPA.out.below H2.out) (HIA.out.below H2.out) (HQA.out.below H2.out) (HJA.out.below H2.out) (by omega) (by omega)).mono ?_; rw [HQ.out]; rintro er u3 ⟨rfl, hb3⟩)
      (try go_wp2_with fail)
      refine hK.out _ _ ?_ (fun hHeld => ?_)
      · exact ⟨hHeld.1.call hb3, hHeld.2.call hb3⟩
      clear hK K
      (try simp only [Act.put, List.setIfInBounds_toArray, List.set_cons_zero, List.set_cons_succ])
      have H3 := Lib.hid (btrans H2.out H2.out.size hb3); clear hb3
      refine wpAnyH_ready (rs := [11]) (by kernel_rfl) (by simp) ?_
      refine (AllReadyH.cons rfl (fun K hK => ?_) AllReadyH.nil)
      go_simp
      (refine (REqual_any pa ia pb ib pc ic qc jc P Q sl tl l m _ (HPA.out.below H3.out) (HIA.out.below H3.out) (HQA.out.below H3.out) (HJA.out.below H3.out) (by omega) (by omega)).mono ?_; rw [HQ.out]; rintro er u4 ⟨rfl, hb4⟩)
      (try go_wp2_with fail)
      refine hK.out _ _ ?_ (fun hHeld => ?_)
      · exact ⟨hHeld.1.call hb4, hHeld.2.call hb4⟩
      clear hK K
      (try simp only [Act.put, List.setIfInBounds_toArray, List.set_cons_zero, List.set_cons_succ])
      have H4 := Lib.hid (btrans H3.out H3.out.size hb4); clear hb4
      refine takeH (i := 12) (v := ?vv9) 26 rfl rfl (by kernel_rfl) (by kernel_rfl) (by kernel_rfl) (fun _ _ _ h => h) (Or.inl ⟨by kernel_rfl, ?yy9⟩) (by assumption) ?_
      case yy9 => intro w hSw; (try dsimp only at hSw); go_simp; (try with_reducible rfl)
      simp only [List.setIfInBounds_toArray, List.set_cons_zero, List.set_cons_succ]
      refine takeH (i := 13) (v := ?vv10) 27 rfl rfl (by kernel_rfl) (by kernel_rfl) (by kernel_rfl) (fun _ _ _ h => h) (Or.inl ⟨by kernel_rfl, ?yy10⟩) (by assumption) ?_
      case yy10 => intro w hSw; (try dsimp only at hSw); go_simp; (try with_reducible rfl)
      simp only [List.setIfInBounds_toArray, List.set_cons_zero, List.set_cons_succ]
      refine takeH (i := 14) (v := ?vv11) 28 rfl rfl (by kernel_rfl) (by kernel_rfl) (by kernel_rfl) (fun _ _ _ h => h) (Or.inl ⟨by kernel_rfl, ?yy11⟩) (by assumption) ?_
      case yy11 => intro w hSw; (try dsimp only at hSw); go_simp; (try with_reducible rfl)
      simp only [List.setIfInBounds_toArray, List.set_cons_zero, List.set_cons_succ]
      refine wpAnyH_ready (rs := [15]) (by kernel_rfl) (by simp) ?_
      refine (AllReadyH.cons rfl (fun K hK => ?_) AllReadyH.nil)
      go_simp
      (refine (lives16 _ (HLB.out.below H4.out)).mono ?_; rintro er u5 ⟨rfl, hb5⟩)
      (try go_wp2_with fail)
      refine hK.out _ _ ?_ (fun hHeld => ?_)
      · exact ⟨hHeld.1.call hb5, hHeld.2.call hb5⟩
      clear hK K
      (try simp only [Act.put, List.setIfInBounds_toArray, List.set_cons_zero, List.set_cons_succ])
      have H5 := Lib.hid (btrans H4.out H4.out.size hb5); clear hb5
      refine takeH (i := 16) (v := ?vv12) 30 rfl rfl (by kernel_rfl) (by kernel_rfl) (by kernel_rfl) (fun _ _ _ h => h) (Or.inl ⟨by kernel_rfl, ?yy12⟩) (by assumption) ?_
      case yy12 => intro w hSw; (try dsimp only at hSw); go_simp; (try with_reducible rfl)
      simp only [List.setIfInBounds_toArray, List.set_cons_zero, List.set_cons_succ]
      refine takeH (i := 17) (v := ?vv13) 4 rfl rfl (by kernel_rfl) (by kernel_rfl) (by kernel_rfl) (fun _ _ _ h => h) (Or.inl ⟨by kernel_rfl, ?yy13⟩) (by assumption) ?_
      case yy13 => intro w hSw; (try dsimp only at hSw); go_simp; (try with_reducible rfl)
      simp only [List.setIfInBounds_toArray, List.set_cons_zero, List.set_cons_succ]
      refine wpAnyH_done (by kernel_rfl) ?_ _
      go_wp2
      go_ret
      exact ⟨rfl, H5.out⟩
end Go.Proofs.YtkmmdkklpbafdaaGreatDoor
