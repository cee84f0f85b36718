/- The walk of layer 16's instr. No conditions. -/
import Derived.Test.YtkmmdkklpbafdaaGreatDoorBytM
namespace Go.Proofs.YtkmmdkklpbafdaaGreatDoor
open Go.RowKit

theorem insP_pre {i : Nat} {s : List UInt8} (h : (Lib.itoa (i : Int) ++ [32]).isPrefixOf s = false) : insP i s = none := by unfold insP; rw [if_neg (by rw [h]; simp)]
theorem insP_idx {i : Nat} {s nm tl : List UInt8} {mo : Bool} (h : (Lib.itoa (i : Int) ++ [32]).isPrefixOf s = true) (hc : cutX 32 (s.drop (Lib.itoa (i : Int) ++ [32]).length) = (nm, tl, mo)) (hk : ¬ OPN.idxOf nm < 14) : insP i s = none := by
  unfold insP; rw [if_pos h]; simp only [hc]; rw [if_neg hk]
theorem insP_op {i : Nat} {s nm tl : List UInt8} {mo : Bool} {k : Nat} (h : (Lib.itoa (i : Int) ++ [32]).isPrefixOf s = true) (hc : cutX 32 (s.drop (Lib.itoa (i : Int) ++ [32]).length) = (nm, tl, mo)) (hi : OPN.idxOf nm = k) (hk : k < 14) :
    insP i s = (if mo = false then (if fldS ((k : Int) + 1) = 0 then some ⟨(k : Int) + 1, 0, 0, 0, []⟩ else none) else if (k : Int) + 1 = 2 then (if (litS tl).2 = true then some ⟨2, 0, 0, 0, (litS tl).1⟩ else none)
      else if (k : Int) + 1 = 5 then (if OPR.idxOf tl < 21 then some ⟨5, (OPR.idxOf tl : Int) + 4, 0, 0, []⟩ else none) else numsI ((k : Int) + 1) (splX 32 tl)) := by
  unfold insP; rw [if_pos h]; simp only [hc]; rw [hi, if_pos hk]
theorem idxI_neg {L : List (List UInt8)} {x : List UInt8} (h : ¬ L.idxOf x < L.length) : idxI L x = -1 := by unfold idxI; rw [if_neg h]
theorem idxI_pos {L : List (List UInt8)} {x : List UInt8} (h : L.idxOf x < L.length) : idxI L x = (L.idxOf x : Int) := by unfold idxI; rw [if_pos h]

set_option maxRecDepth 100000 in
set_option maxHeartbeats 32000000 in
theorem instr_any (i : Nat) (s : List UInt8) (w : World) (hi : i ≤ 100000) (hs : s.length ≤ 100000) (hB : LaidB w) :
    Calls Tryz.prog 38 #[.int .i64 (i : Int), .string (bs s)] w fun e w' => ∃ X, e = .returned (.tuple #[.agg (insV X), .bool (insP i s).isSome]) ∧ (∀ y, insP i s = some y → X = y) ∧ Below w.heap.size w w' := by
  obtain ⟨R, hR⟩ : ∃ R, insP i s = R := ⟨_, rfl⟩
  rw [hR]
  obtain ⟨I, hI⟩ : ∃ I, Lib.itoa (i : Int) = I := ⟨_, rfl⟩
  have hIl : I.length ≤ 1000 := by rw [← hI]; have := Lib.itoa_length_le (i : Int) (by omega) (by omega); omega
  have hz1 : ¬ 9223372036854775807 < I.length + 1 := by omega
  obtain ⟨pb, hpb⟩ : ∃ b, (I ++ [32]).isPrefixOf s = b := ⟨_, rfl⟩
  have HR := Lib.hid hR; have HLB := Lib.hid hB; have HI := Lib.hid hI; have HPB := Lib.hid hpb; clear hR hB hI hpb
  obtain ⟨v0, hW0, hb0, hr0⟩ := boxes1 w #[.int .i64 0, .int .i64 0, .int .i64 0, .int .i64 0, .string ⟨#[]⟩] 39
  have HW := Lib.hid hW0; have HB := Lib.hid hb0; have HRB := Lib.hid hr0; clear hW0 hb0 hr0
  go_enter Tryz.func38, Tryz.ntmps38
  go_upto_region 1 with (fail)
  rw [HW.out]
  clear HW
  go_wp2_with fail
  refine (Format_any (i : Int) _ (by omega) (by omega) (HLB.out.below HB.out).1).mono ?_
  rw [HI.out]
  rintro er w1 ⟨rfl, hb1⟩
  have HRB := Lib.hid (HRB.out.call hb1); have HB := Lib.hid (btrans HB.out HB.out.size hb1); clear hb1
  go_wp2_with fail
  refine (CutPrefix_any s (I ++ [32]) _).mono ?_
  rw [HPB.out]
  rintro er w2 ⟨rfl, rfl⟩
  clear hz1
  cases pb with
  | false =>
    have HF := Lib.hid (show R = none from HR.out.symm.trans (insP_pre (by rw [HI.out]; exact HPB.out)))
    have r0 : w2.cell? ⟨w.heap.size, 0, none⟩ = some (.int .i64 0) := HRB.out.cell 0
    have r1 : w2.cell? ⟨w.heap.size, 1, none⟩ = some (.int .i64 0) := HRB.out.cell 1
    have r2 : w2.cell? ⟨w.heap.size, 2, none⟩ = some (.int .i64 0) := HRB.out.cell 2
    have r3 : w2.cell? ⟨w.heap.size, 3, none⟩ = some (.int .i64 0) := HRB.out.cell 3
    have r4 : w2.cell? ⟨w.heap.size, 4, none⟩ = some (.string ⟨#[]⟩) := HRB.out.cell 4
    have f0 := HRB.out.free 0
    have f1 := HRB.out.free 1
    have f2 := HRB.out.free 2
    have f3 := HRB.out.free 3
    have f4 := HRB.out.free 4
    have HK := Lib.hid (HRB.out.sets5 (.int .i64 0) (.int .i64 0) (.int .i64 0) (.int .i64 0) (.string ⟨#[]⟩))
    go_wp2
    have k0 := HK.out.cell 0
    have k1 := HK.out.cell 1
    have k2 := HK.out.cell 2
    have k3 := HK.out.cell 3
    have k4 := HK.out.cell 4
    simp only [List.getElem?_toArray, List.getElem?_cons_zero, List.getElem?_cons_succ] at k0 k1 k2 k3 k4
    refine bodyPost_ret (v := .tuple #[.agg #[.int .i64 0, .int .i64 0, .int .i64 0, .int .i64 0, .string ⟨#[]⟩], .bool false]) (by simp [results, Tryz.results38, go_sem, k0, k1, k2, k3, k4] <;> rfl) rfl ⟨_, show Ending.returned (.tuple #[.agg (insV ins0), .bool false]) = _ from (by rw [HF.out]; rfl), fun y hy => (by rw [HF.out] at hy; cases hy), below_sets5 HB.out w.heap.size (Nat.le_refl _) _ _ _ _ _⟩
  | true =>
    simp only [if_true]
    obtain ⟨rs, hrs⟩ : ∃ r, s.drop (I ++ [32]).length = r := ⟨_, rfl⟩
    have hrl : rs.length ≤ 100000 := by rw [← hrs, List.length_drop]; omega
    rw [hrs]
    obtain ⟨⟨nm, tl, mo⟩, hc⟩ : ∃ c, cutX 32 rs = c := ⟨_, rfl⟩
    have htl : tl.length ≤ 100000 := by have := cutX_snd_len (x := 32) rs; rw [hc] at this; exact Nat.le_trans this hrl
    have HC := Lib.hid (show cutX 32 (s.drop (Lib.itoa (i : Int) ++ [32]).length) = (nm, tl, mo) by rw [HI.out, hrs]; exact hc)
    have HCR := Lib.hid hc; have HP := Lib.hid (show (Lib.itoa (i : Int) ++ [32]).isPrefixOf s = true by rw [HI.out]; exact HPB.out); clear hc hrs
    go_wp2_with fail
    refine (Cut_any rs 32 _ (by omega) (HLB.out.below HB.out)).mono ?_
    rw [HCR.out]
    rintro er w3 ⟨rfl, hb3⟩
    have HRB := Lib.hid (HRB.out.call hb3); have HB := Lib.hid (btrans HB.out HB.out.size hb3); clear hb3
    go_wp2_with fail
    refine (Fields_of _ OPN 14 (by kernel_rfl) rfl (of_decide_eq_true (by kernel_rfl)) (by kernel_rfl) _ (HLB.out.below HB.out)).mono ?_
    rintro er w4 ⟨rfl, rfl⟩
    have hal := (Below.refl w3.heap.size w3).alloc (Nat.le_refl _) (.cells (OPN.map strV).toArray 9)
    have HY := Lib.hid (Bx.new w3 (OPN.map strV).toArray 9)
    have HRB := Lib.hid (HRB.out.call hal); have HB := Lib.hid (btrans HB.out HB.out.size hal); clear hal
    generalize hW : w3.alloc (.cells (OPN.map strV).toArray 9) = v4 at HY HRB HB ⊢
    clear hW
    obtain ⟨ix, hix⟩ : ∃ t, idxI OPN nm = t := ⟨_, rfl⟩
    have HIX := Lib.hid hix; clear hix
    go_wp2_with fail
    refine (SIndex_any w3.heap.size OPN nm 14 14 _ rfl HY.out (by decide)).mono ?_
    rw [HIX.out]
    rintro er w5 ⟨rfl, hb5⟩
    clear HY
    have HRB := Lib.hid (HRB.out.call hb5); have HB := Lib.hid (btrans HB.out HB.out.size hb5); clear hb5
    by_cases hk : OPN.idxOf nm < 14
    rotate_left
    · have e : ix = -1 := HIX.out.symm.trans (idxI_neg (by show ¬ _ < 14; exact hk))
      subst e
      have HNK := Lib.hid hk; clear hk HIX
      have HF := Lib.hid (show R = none from HR.out.symm.trans (insP_idx HP.out HC.out HNK.out))
      have r0 : w5.cell? ⟨w.heap.size, 0, none⟩ = some (.int .i64 0) := HRB.out.cell 0
      have r1 : w5.cell? ⟨w.heap.size, 1, none⟩ = some (.int .i64 0) := HRB.out.cell 1
      have r2 : w5.cell? ⟨w.heap.size, 2, none⟩ = some (.int .i64 0) := HRB.out.cell 2
      have r3 : w5.cell? ⟨w.heap.size, 3, none⟩ = some (.int .i64 0) := HRB.out.cell 3
      have r4 : w5.cell? ⟨w.heap.size, 4, none⟩ = some (.string ⟨#[]⟩) := HRB.out.cell 4
      have f0 := HRB.out.free 0
      have f1 := HRB.out.free 1
      have f2 := HRB.out.free 2
      have f3 := HRB.out.free 3
      have f4 := HRB.out.free 4
      have HK := Lib.hid (HRB.out.sets5 (.int .i64 0) (.int .i64 0) (.int .i64 0) (.int .i64 0) (.string ⟨#[]⟩))
      go_wp2
      have k0 := HK.out.cell 0
      have k1 := HK.out.cell 1
      have k2 := HK.out.cell 2
      have k3 := HK.out.cell 3
      have k4 := HK.out.cell 4
      simp only [List.getElem?_toArray, List.getElem?_cons_zero, List.getElem?_cons_succ] at k0 k1 k2 k3 k4
      refine bodyPost_ret (v := .tuple #[.agg #[.int .i64 0, .int .i64 0, .int .i64 0, .int .i64 0, .string ⟨#[]⟩], .bool false]) (by simp [results, Tryz.results38, go_sem, k0, k1, k2, k3, k4] <;> rfl) rfl ⟨_, show Ending.returned (.tuple #[.agg (insV ins0), .bool false]) = _ from (by rw [HF.out]; rfl), fun y hy => (by rw [HF.out] at hy; cases hy), below_sets5 HB.out w.heap.size (Nat.le_refl _) _ _ _ _ _⟩
    obtain ⟨k, hke⟩ : ∃ k, OPN.idxOf nm = k := ⟨_, rfl⟩
    rw [hke] at hk
    have e : ix = (k : Int) := HIX.out.symm.trans (by rw [idxI_pos (by rw [hke]; exact hk), hke])
    subst e
    have hk0 : ¬ (k : Int) < 0 := by omega
    have HOP := Lib.hid ((insP_op HP.out HC.out hke hk).symm.trans HR.out)
    obtain ⟨op, hop⟩ : ∃ op, (k : Int) + 1 = op := ⟨_, rfl⟩
    have h1 : 1 ≤ op := by omega
    have h2 : op ≤ 14 := by omega
    have hwk : IntKind.i64.wrap ((k : Int) + 1) = op := by rw [IntKind.wrap_i64]; omega
    rw [hop] at HOP
    have HKE := Lib.hid hke; clear hke HIX hop
    have hwx := HRB.out.lt
    have hal := (Below.refl w5.heap.size w5).alloc (Nat.le_refl _) (.cells #[.int .i64 op, .int .i64 0, .int .i64 0, .int .i64 0, .string ⟨#[]⟩] 39)
    have HX := Lib.hid (Bx.new w5 #[.int .i64 op, .int .i64 0, .int .i64 0, .int .i64 0, .string ⟨#[]⟩] 39); have HRB := Lib.hid (HRB.out.call hal); have HB := Lib.hid (btrans HB.out HB.out.size hal); clear hal
    go_upto_region 9 with (fail)
    generalize hW : w5.alloc (.cells #[.int .i64 op, .int .i64 0, .int .i64 0, .int .i64 0, .string ⟨#[]⟩] 39) = v5 at HX HRB HB ⊢
    clear hW hwk hk hk0
    cases mo with
    | false =>
      obtain ⟨fv, hfv⟩ : ∃ t, fldS op = t := ⟨_, rfl⟩
      rw [hfv] at HOP
      simp only [if_true] at HOP
      have HFV := Lib.hid hfv; clear hfv
      have hs0 : Bx w5.heap.size #[.int .i64 op, .int .i64 0, .int .i64 0, .int .i64 0, .string ⟨#[]⟩] 39 v5.drew := HX.out
      have HS0 := Lib.hid hs0; clear hs0
      go_upto_region 10 with (fail)
      go_wp2_with fail
      refine wp_region_held_drew (S := (fun w' => Bx w5.heap.size #[.int .i64 op, .int .i64 0, .int .i64 0, .int .i64 0, .string ⟨#[]⟩] 39 w')) (by kernel_rfl) ?_ (fun hHeld => ?_)
      · exact HS0.out
      refine takeH (i := 0) (v := ?vv1) 42 rfl rfl (by kernel_rfl) (by kernel_rfl) (by kernel_rfl) (fun _ _ _ h => h) (Or.inl ⟨by kernel_rfl, ?yy1⟩) (by assumption) ?_
      case yy1 =>
        intro wq hSw
        obtain ⟨x0, x1, x2, x3, x4⟩ := hSw.c5
        clear hSw
        go_simp
        (try with_reducible rfl)
      simp only [List.setIfInBounds_toArray, List.set_cons_zero, List.set_cons_succ]
      refine takeH (i := 1) (v := ?vv2) 43 rfl rfl (by kernel_rfl) (by kernel_rfl) (by kernel_rfl) (fun _ _ _ h => h) (Or.inl ⟨by kernel_rfl, ?yy2⟩) (by assumption) ?_
      case yy2 => intro w hSw; (try dsimp only at hSw); go_simp; (try with_reducible rfl)
      simp only [List.setIfInBounds_toArray, List.set_cons_zero, List.set_cons_succ]
      refine takeH (i := 2) (v := ?vv3) 44 rfl rfl (by kernel_rfl) (by kernel_rfl) (by kernel_rfl) (fun _ _ _ h => h) (Or.inl ⟨by kernel_rfl, ?yy3⟩) (by assumption) ?_
      case yy3 =>
        intro wq hSw
        obtain ⟨x0, x1, x2, x3, x4⟩ := hSw.c5
        clear hSw
        go_simp
        (try with_reducible rfl)
      simp only [List.setIfInBounds_toArray, List.set_cons_zero, List.set_cons_succ]
      refine wpAnyH_ready (rs := [3]) (by kernel_rfl) (by simp) ?_
      refine (AllReadyH.cons rfl (fun K hK => ?_) AllReadyH.nil)
      go_simp
      (refine (fields_any op h1 h2 _).mono ?_; rw [HFV.out]; rintro er u1 ⟨rfl, hb7⟩)
      (try go_wp2_with fail)
      refine hK.out _ _ ?_ (fun hHeld => ?_)
      · exact hHeld.call hb7
      clear hK K
      (try simp only [Act.put, List.setIfInBounds_toArray, List.set_cons_zero, List.set_cons_succ])
      have hb6 : Below v5.heap.size v5 v5.drew := (Below.refl v5.heap.size v5).drew
      have hb8 := btrans hb6 hb6.size hb7; clear hb6 hb7
      have HRB := Lib.hid (HRB.out.call hb8); have HB := Lib.hid (btrans HB.out HB.out.size hb8); clear hb8
      refine takeH (i := 4) (v := ?vv4) 46 rfl rfl (by kernel_rfl) (by kernel_rfl) (by kernel_rfl) (fun _ _ _ h => h) (Or.inl ⟨by kernel_rfl, ?yy4⟩) (by assumption) ?_
      case yy4 => intro w hSw; (try dsimp only at hSw); go_simp; (try with_reducible rfl)
      simp only [List.setIfInBounds_toArray, List.set_cons_zero, List.set_cons_succ]
      have hne : w5.heap.size ≠ w.heap.size := by omega
      have r0 : u1.cell? ⟨w.heap.size, 0, none⟩ = some (.int .i64 0) := HRB.out.cell 0
      have r1 : u1.cell? ⟨w.heap.size, 1, none⟩ = some (.int .i64 0) := HRB.out.cell 1
      have r2 : u1.cell? ⟨w.heap.size, 2, none⟩ = some (.int .i64 0) := HRB.out.cell 2
      have r3 : u1.cell? ⟨w.heap.size, 3, none⟩ = some (.int .i64 0) := HRB.out.cell 3
      have r4 : u1.cell? ⟨w.heap.size, 4, none⟩ = some (.string ⟨#[]⟩) := HRB.out.cell 4
      have f0 := HRB.out.free 0
      have f1 := HRB.out.free 1
      have f2 := HRB.out.free 2
      have f3 := HRB.out.free 3
      have f4 := HRB.out.free 4
      refine wpAnyH_ready (rs := [5]) (by kernel_rfl) (by simp) ?_
      refine (AllReadyH.cons rfl (fun K hK => ?_) AllReadyH.nil)
      go_simp
      skip
      (try go_wp2_with fail)
      refine hK.out _ _ ?_ (fun hHeld => ?_)
      · exact ((((hHeld.other (by omega) _).other (by omega) _).other (by omega) _).other (by omega) _).other (by omega) _
      clear hK K
      (try simp only [Act.put, List.setIfInBounds_toArray, List.set_cons_zero, List.set_cons_succ])
      refine takeH (i := 6) (v := ?vv5) 5 rfl rfl (by kernel_rfl) (by kernel_rfl) (by kernel_rfl) (fun _ _ _ h => h) (Or.inl ⟨by kernel_rfl, ?yy5⟩) (by assumption) ?_
      case yy5 => intro w hSw; (try dsimp only at hSw); go_simp; (try with_reducible rfl)
      simp only [List.setIfInBounds_toArray, List.set_cons_zero, List.set_cons_succ]
      refine wpAnyH_done (by kernel_rfl) ?_ _
      by_cases e : fv = 0
      · have e0 : (fv == 0) = true := by rw [e]; rfl
        have HF := Lib.hid (show R = some ⟨op, 0, 0, 0, []⟩ from HOP.out.symm.trans (if_pos e))
        clear e
        have HK := Lib.hid (HRB.out.sets5 (.int .i64 op) (.int .i64 0) (.int .i64 0) (.int .i64 0) (.string ⟨#[]⟩)); have HBK := Lib.hid (below_sets5 HB.out w.heap.size (Nat.le_refl _) (.int .i64 op) (.int .i64 0) (.int .i64 0) (.int .i64 0) (.string ⟨#[]⟩))
        clear r0 r1 r2 r3 r4 f0 f1 f2 f3 f4 hHeld HS0
        generalize hWE : (((((u1.setCell ⟨w.heap.size, 0, none⟩ (.int .i64 op)).setCell ⟨w.heap.size, 1, none⟩ (.int .i64 0)).setCell ⟨w.heap.size, 2, none⟩ (.int .i64 0)).setCell ⟨w.heap.size, 3, none⟩ (.int .i64 0)).setCell ⟨w.heap.size, 4, none⟩ (.string ⟨#[]⟩)) = WE at HK HBK ⊢
        clear hWE
        go_wp2
        have k0 := HK.out.cell 0
        have k1 := HK.out.cell 1
        have k2 := HK.out.cell 2
        have k3 := HK.out.cell 3
        have k4 := HK.out.cell 4
        simp only [List.getElem?_toArray, List.getElem?_cons_zero, List.getElem?_cons_succ] at k0 k1 k2 k3 k4
        refine bodyPost_ret (v := .tuple #[.agg #[.int .i64 op, .int .i64 0, .int .i64 0, .int .i64 0, .string ⟨#[]⟩], .bool true]) (by simp [results, Tryz.results38, go_sem, k0, k1, k2, k3, k4, e0]) rfl ⟨_, show Ending.returned (.tuple #[.agg (insV ⟨op, 0, 0, 0, []⟩), .bool true]) = _ from (by rw [HF.out]; rfl), fun y hy => (by rw [HF.out] at hy; cases hy; rfl), HBK.out⟩
      have e0 : (fv == 0) = false := by rw [beq_eq_false_iff_ne]; exact e
      have HF := Lib.hid (show R = none from HOP.out.symm.trans (if_neg e))
      clear e
      have HK := Lib.hid (HRB.out.sets5 (.int .i64 op) (.int .i64 0) (.int .i64 0) (.int .i64 0) (.string ⟨#[]⟩)); have HBK := Lib.hid (below_sets5 HB.out w.heap.size (Nat.le_refl _) (.int .i64 op) (.int .i64 0) (.int .i64 0) (.int .i64 0) (.string ⟨#[]⟩))
      clear r0 r1 r2 r3 r4 f0 f1 f2 f3 f4 hHeld HS0
      generalize hWE : (((((u1.setCell ⟨w.heap.size, 0, none⟩ (.int .i64 op)).setCell ⟨w.heap.size, 1, none⟩ (.int .i64 0)).setCell ⟨w.heap.size, 2, none⟩ (.int .i64 0)).setCell ⟨w.heap.size, 3, none⟩ (.int .i64 0)).setCell ⟨w.heap.size, 4, none⟩ (.string ⟨#[]⟩)) = WE at HK HBK ⊢
      clear hWE
      go_wp2
      have k0 := HK.out.cell 0
      have k1 := HK.out.cell 1
      have k2 := HK.out.cell 2
      have k3 := HK.out.cell 3
      have k4 := HK.out.cell 4
      simp only [List.getElem?_toArray, List.getElem?_cons_zero, List.getElem?_cons_succ] at k0 k1 k2 k3 k4
      refine bodyPost_ret (v := .tuple #[.agg #[.int .i64 op, .int .i64 0, .int .i64 0, .int .i64 0, .string ⟨#[]⟩], .bool false]) (by simp [results, Tryz.results38, go_sem, k0, k1, k2, k3, k4, e0]) rfl ⟨_, show Ending.returned (.tuple #[.agg (insV ⟨op, 0, 0, 0, []⟩), .bool false]) = _ from (by rw [HF.out]; rfl), fun y hy => (by rw [HF.out] at hy; cases hy), HBK.out⟩
    | true =>
      simp only [Bool.true_eq_false, if_false] at HOP
      by_cases e2 : op = 2
      · subst e2
        simp only [if_true] at HOP
        obtain ⟨⟨lt, lb⟩, hl⟩ : ∃ r, litS tl = r := ⟨_, rfl⟩
        rw [hl] at HOP
        have HL := Lib.hid hl; clear hl
        obtain ⟨x0, x1, x2, x3, x4⟩ := HX.out.c5
        go_wp2_with fail
        refine (bliteral_any tl _ (by omega) (HLB.out.below HB.out)).mono ?_
        rw [HL.out]
        rintro er w8 ⟨rfl, hb8⟩
        clear x0 x1 x2 x3 x4
        have HX := Lib.hid (HX.out.call hb8); have HRB := Lib.hid (HRB.out.call hb8); have HB := Lib.hid (btrans HB.out HB.out.size hb8); clear hb8
        obtain ⟨x0, x1, x2, x3, x4⟩ := HX.out.c5
        have z4 := HX.out.free 4
        have HX2 := Lib.hid (HX.out.st5_4 (.string (bs lt))); have HB2 := Lib.hid (below_set HB.out w5.heap.size 4 (Nat.le_of_lt hwx) (.string (bs lt))); have HR2 := Lib.hid (HRB.out.other (c := w5.heap.size) (i := 4) (by omega) (.string (bs lt)))
        go_upto_region 14 with (fail)
        clear x0 x1 x2 x3 x4 z4 HX HB HRB
        generalize hWE : w8.setCell ⟨w5.heap.size, 4, none⟩ (.string (bs lt)) = v8 at HX2 HB2 HR2 ⊢
        clear hWE
        have HX := HX2; have HB := HB2; have HRB := HR2; clear HX2 HB2 HR2
        cases lb with
        | true =>
          obtain ⟨x0, x1, x2, x3, x4⟩ := HX.out.c5
          have HF := Lib.hid (show R = some ⟨2, 0, 0, 0, lt⟩ from HR.out.symm.trans (HR.out.trans (HOP.out.symm.trans (if_pos rfl))))
          have r0 : v8.cell? ⟨w.heap.size, 0, none⟩ = some (.int .i64 0) := HRB.out.cell 0
          have r1 : v8.cell? ⟨w.heap.size, 1, none⟩ = some (.int .i64 0) := HRB.out.cell 1
          have r2 : v8.cell? ⟨w.heap.size, 2, none⟩ = some (.int .i64 0) := HRB.out.cell 2
          have r3 : v8.cell? ⟨w.heap.size, 3, none⟩ = some (.int .i64 0) := HRB.out.cell 3
          have r4 : v8.cell? ⟨w.heap.size, 4, none⟩ = some (.string ⟨#[]⟩) := HRB.out.cell 4
          have f0 := HRB.out.free 0
          have f1 := HRB.out.free 1
          have f2 := HRB.out.free 2
          have f3 := HRB.out.free 3
          have f4 := HRB.out.free 4
          have HK := Lib.hid (HRB.out.sets5 (.int .i64 2) (.int .i64 0) (.int .i64 0) (.int .i64 0) (.string (bs lt)))
          go_wp2
          have k0 := HK.out.cell 0
          have k1 := HK.out.cell 1
          have k2 := HK.out.cell 2
          have k3 := HK.out.cell 3
          have k4 := HK.out.cell 4
          simp only [List.getElem?_toArray, List.getElem?_cons_zero, List.getElem?_cons_succ] at k0 k1 k2 k3 k4
          refine bodyPost_ret (v := .tuple #[.agg #[.int .i64 2, .int .i64 0, .int .i64 0, .int .i64 0, .string (bs lt)], .bool true]) (by simp [results, Tryz.results38, go_sem, k0, k1, k2, k3, k4] <;> rfl) rfl ⟨_, show Ending.returned (.tuple #[.agg (insV ⟨2, 0, 0, 0, lt⟩), .bool true]) = _ from (by rw [HF.out]; rfl), fun y hy => (by rw [HF.out] at hy; cases hy; rfl), below_sets5 HB.out w.heap.size (Nat.le_refl _) _ _ _ _ _⟩
        | false =>
          obtain ⟨x0, x1, x2, x3, x4⟩ := HX.out.c5
          have HF := Lib.hid (show R = none from HR.out.symm.trans (HR.out.trans (HOP.out.symm.trans (if_neg (by simp)))))
          have r0 : v8.cell? ⟨w.heap.size, 0, none⟩ = some (.int .i64 0) := HRB.out.cell 0
          have r1 : v8.cell? ⟨w.heap.size, 1, none⟩ = some (.int .i64 0) := HRB.out.cell 1
          have r2 : v8.cell? ⟨w.heap.size, 2, none⟩ = some (.int .i64 0) := HRB.out.cell 2
          have r3 : v8.cell? ⟨w.heap.size, 3, none⟩ = some (.int .i64 0) := HRB.out.cell 3
          have r4 : v8.cell? ⟨w.heap.size, 4, none⟩ = some (.string ⟨#[]⟩) := HRB.out.cell 4
          have f0 := HRB.out.free 0
          have f1 := HRB.out.free 1
          have f2 := HRB.out.free 2
          have f3 := HRB.out.free 3
          have f4 := HRB.out.free 4
          have HK := Lib.hid (HRB.out.sets5 (.int .i64 2) (.int .i64 0) (.int .i64 0) (.int .i64 0) (.string (bs lt)))
          go_wp2
          have k0 := HK.out.cell 0
          have k1 := HK.out.cell 1
          have k2 := HK.out.cell 2
          have k3 := HK.out.cell 3
          have k4 := HK.out.cell 4
          simp only [List.getElem?_toArray, List.getElem?_cons_zero, List.getElem?_cons_succ] at k0 k1 k2 k3 k4
          refine bodyPost_ret (v := .tuple #[.agg #[.int .i64 2, .int .i64 0, .int .i64 0, .int .i64 0, .string (bs lt)], .bool false]) (by simp [results, Tryz.results38, go_sem, k0, k1, k2, k3, k4] <;> rfl) rfl ⟨_, show Ending.returned (.tuple #[.agg (insV ⟨2, 0, 0, 0, lt⟩), .bool false]) = _ from (by rw [HF.out]; rfl), fun y hy => (by rw [HF.out] at hy; cases hy), below_sets5 HB.out w.heap.size (Nat.le_refl _) _ _ _ _ _⟩
      have t2 : (op == 2) = false := by rw [beq_eq_false_iff_ne]; exact e2
      rw [if_neg e2] at HOP
      clear e2
      by_cases e5 : op = 5
      · subst e5
        rw [if_pos rfl] at HOP
        obtain ⟨x0, x1, x2, x3, x4⟩ := HX.out.c5
        go_wp2_with fail
        refine (Fields_of _ OPR 21 (by kernel_rfl) rfl (of_decide_eq_true (by kernel_rfl)) (by kernel_rfl) _ (HLB.out.below HB.out)).mono ?_
        rintro er w8 ⟨rfl, rfl⟩
        clear x0 x1 x2 x3 x4
        have hb8 := (Below.refl v5.heap.size v5).alloc (Nat.le_refl _) (.cells (OPR.map strV).toArray 9)
        have HY := Lib.hid (Bx.new v5 (OPR.map strV).toArray 9)
        have HX := Lib.hid (HX.out.call hb8); have HRB := Lib.hid (HRB.out.call hb8); have HB := Lib.hid (btrans HB.out HB.out.size hb8); clear hb8
        generalize hW : v5.alloc (.cells (OPR.map strV).toArray 9) = v8 at HY HX HRB HB ⊢
        clear hW
        obtain ⟨ox, hox⟩ : ∃ t, idxI OPR tl = t := ⟨_, rfl⟩
        have HOX := Lib.hid hox; clear hox
        obtain ⟨x0, x1, x2, x3, x4⟩ := HX.out.c5
        go_wp2_with fail
        refine (SIndex_any v5.heap.size OPR tl 21 21 _ rfl HY.out (by decide)).mono ?_
        rw [HOX.out]
        rintro er w9 ⟨rfl, hb9⟩
        clear HY
        clear x0 x1 x2 x3 x4
        have HX := Lib.hid (HX.out.call hb9); have HRB := Lib.hid (HRB.out.call hb9); have HB := Lib.hid (btrans HB.out HB.out.size hb9); clear hb9
        by_cases ho : OPR.idxOf tl < 21
        rotate_left
        · have e : ox = -1 := HOX.out.symm.trans (idxI_neg (by show ¬ _ < 21; exact ho))
          subst e
          have HNO := Lib.hid ho; clear ho HOX
          obtain ⟨x0, x1, x2, x3, x4⟩ := HX.out.c5
          have hwo : IntKind.i64.wrap (-1 + 4) = 3 := by rw [IntKind.wrap_i64]; omega
          have z1 := HX.out.free 1
          have HX2 := Lib.hid (HX.out.st5_1 (.int .i64 (3))); have HB2 := Lib.hid (below_set HB.out w5.heap.size 1 (Nat.le_of_lt hwx) (.int .i64 (3))); have HR2 := Lib.hid (HRB.out.other (c := w5.heap.size) (i := 1) (by omega) (.int .i64 (3)))
          go_upto_region 18 with (fail)
          clear x0 x1 x2 x3 x4 z1 HX HB HRB hwo
          generalize hWE : w9.setCell ⟨w5.heap.size, 1, none⟩ (.int .i64 (3)) = v9 at HX2 HB2 HR2 ⊢
          clear hWE
          have HX := HX2; have HB := HB2; have HRB := HR2; clear HX2 HB2 HR2
          obtain ⟨x0, x1, x2, x3, x4⟩ := HX.out.c5
          have HF := Lib.hid (show R = none from HR.out.symm.trans (HR.out.trans (HOP.out.symm.trans (if_neg HNO.out))))
          have r0 : v9.cell? ⟨w.heap.size, 0, none⟩ = some (.int .i64 0) := HRB.out.cell 0
          have r1 : v9.cell? ⟨w.heap.size, 1, none⟩ = some (.int .i64 0) := HRB.out.cell 1
          have r2 : v9.cell? ⟨w.heap.size, 2, none⟩ = some (.int .i64 0) := HRB.out.cell 2
          have r3 : v9.cell? ⟨w.heap.size, 3, none⟩ = some (.int .i64 0) := HRB.out.cell 3
          have r4 : v9.cell? ⟨w.heap.size, 4, none⟩ = some (.string ⟨#[]⟩) := HRB.out.cell 4
          have f0 := HRB.out.free 0
          have f1 := HRB.out.free 1
          have f2 := HRB.out.free 2
          have f3 := HRB.out.free 3
          have f4 := HRB.out.free 4
          have HK := Lib.hid (HRB.out.sets5 (.int .i64 5) (.int .i64 (3)) (.int .i64 0) (.int .i64 0) (.string ⟨#[]⟩))
          go_wp2
          have k0 := HK.out.cell 0
          have k1 := HK.out.cell 1
          have k2 := HK.out.cell 2
          have k3 := HK.out.cell 3
          have k4 := HK.out.cell 4
          simp only [List.getElem?_toArray, List.getElem?_cons_zero, List.getElem?_cons_succ] at k0 k1 k2 k3 k4
          refine bodyPost_ret (v := .tuple #[.agg #[.int .i64 5, .int .i64 (3), .int .i64 0, .int .i64 0, .string ⟨#[]⟩], .bool false]) (by simp [results, Tryz.results38, go_sem, k0, k1, k2, k3, k4] <;> rfl) rfl ⟨_, show Ending.returned (.tuple #[.agg (insV ⟨5, 3, 0, 0, []⟩), .bool false]) = _ from (by rw [HF.out]; rfl), fun y hy => (by rw [HF.out] at hy; cases hy), below_sets5 HB.out w.heap.size (Nat.le_refl _) _ _ _ _ _⟩
        obtain ⟨kk, hk2e⟩ : ∃ k, OPR.idxOf tl = k := ⟨_, rfl⟩
        have e : ox = (kk : Int) := HOX.out.symm.trans (by rw [idxI_pos ho, hk2e])
        subst e
        rw [hk2e] at ho HOP
        have ho0 : (0 : Int) ≤ (kk : Int) := by omega
        have ho1 : ¬ (kk : Int) < 0 := by omega
        have HK2 := Lib.hid hk2e; clear hk2e HOX
        obtain ⟨x0, x1, x2, x3, x4⟩ := HX.out.c5
        have hwo : IntKind.i64.wrap ((kk : Int) + 4) = (kk : Int) + 4 := by rw [IntKind.wrap_i64]; omega
        have z1 := HX.out.free 1
        have HX2 := Lib.hid (HX.out.st5_1 (.int .i64 ((kk : Int) + 4))); have HB2 := Lib.hid (below_set HB.out w5.heap.size 1 (Nat.le_of_lt hwx) (.int .i64 ((kk : Int) + 4))); have HR2 := Lib.hid (HRB.out.other (c := w5.heap.size) (i := 1) (by omega) (.int .i64 ((kk : Int) + 4)))
        go_upto_region 18 with (fail)
        clear x0 x1 x2 x3 x4 z1 HX HB HRB hwo
        generalize hWE : w9.setCell ⟨w5.heap.size, 1, none⟩ (.int .i64 ((kk : Int) + 4)) = v9 at HX2 HB2 HR2 ⊢
        clear hWE
        have HX := HX2; have HB := HB2; have HRB := HR2; clear HX2 HB2 HR2
        obtain ⟨x0, x1, x2, x3, x4⟩ := HX.out.c5
        have HF := Lib.hid (show R = some ⟨5, (kk : Int) + 4, 0, 0, []⟩ from HR.out.symm.trans (HR.out.trans (HOP.out.symm.trans (if_pos ho))))
        have r0 : v9.cell? ⟨w.heap.size, 0, none⟩ = some (.int .i64 0) := HRB.out.cell 0
        have r1 : v9.cell? ⟨w.heap.size, 1, none⟩ = some (.int .i64 0) := HRB.out.cell 1
        have r2 : v9.cell? ⟨w.heap.size, 2, none⟩ = some (.int .i64 0) := HRB.out.cell 2
        have r3 : v9.cell? ⟨w.heap.size, 3, none⟩ = some (.int .i64 0) := HRB.out.cell 3
        have r4 : v9.cell? ⟨w.heap.size, 4, none⟩ = some (.string ⟨#[]⟩) := HRB.out.cell 4
        have f0 := HRB.out.free 0
        have f1 := HRB.out.free 1
        have f2 := HRB.out.free 2
        have f3 := HRB.out.free 3
        have f4 := HRB.out.free 4
        have HK := Lib.hid (HRB.out.sets5 (.int .i64 5) (.int .i64 ((kk : Int) + 4)) (.int .i64 0) (.int .i64 0) (.string ⟨#[]⟩))
        go_wp2
        have k0 := HK.out.cell 0
        have k1 := HK.out.cell 1
        have k2 := HK.out.cell 2
        have k3 := HK.out.cell 3
        have k4 := HK.out.cell 4
        simp only [List.getElem?_toArray, List.getElem?_cons_zero, List.getElem?_cons_succ] at k0 k1 k2 k3 k4
        refine bodyPost_ret (v := .tuple #[.agg #[.int .i64 5, .int .i64 ((kk : Int) + 4), .int .i64 0, .int .i64 0, .string ⟨#[]⟩], .bool true]) (by simp [results, Tryz.results38, go_sem, k0, k1, k2, k3, k4] <;> rfl) rfl ⟨_, show Ending.returned (.tuple #[.agg (insV ⟨5, (kk : Int) + 4, 0, 0, []⟩), .bool true]) = _ from (by rw [HF.out]; rfl), fun y hy => (by rw [HF.out] at hy; cases hy; rfl), below_sets5 HB.out w.heap.size (Nat.le_refl _) _ _ _ _ _⟩
      have t5 : (op == 5) = false := by rw [beq_eq_false_iff_ne]; exact e5
      rw [if_neg e5] at HOP
      clear e5
      obtain ⟨x0, x1, x2, x3, x4⟩ := HX.out.c5
      go_upto_region 19 with (fail)
      clear x0 x1 x2 x3 x4
      have hs0 : Bx w5.heap.size #[.int .i64 op, .int .i64 0, .int .i64 0, .int .i64 0, .string ⟨#[]⟩] 39 v5.drew := HX.out
      have HS0 := Lib.hid hs0; clear hs0
      go_wp2_with fail
      refine wp_region_held_drew (S := (fun w' => Bx w5.heap.size #[.int .i64 op, .int .i64 0, .int .i64 0, .int .i64 0, .string ⟨#[]⟩] 39 w')) (by kernel_rfl) ?_ (fun hHeld => ?_)
      · exact HS0.out
      refine takeH (i := 0) (v := ?vv6) 70 rfl rfl (by kernel_rfl) (by kernel_rfl) (by kernel_rfl) (fun _ _ _ h => h) (Or.inl ⟨by kernel_rfl, ?yy6⟩) (by assumption) ?_
      case yy6 =>
        intro wq hSw
        obtain ⟨x0, x1, x2, x3, x4⟩ := hSw.c5
        clear hSw
        go_simp
        (try with_reducible rfl)
      simp only [List.setIfInBounds_toArray, List.set_cons_zero, List.set_cons_succ]
      refine takeH (i := 1) (v := ?vv7) 71 rfl rfl (by kernel_rfl) (by kernel_rfl) (by kernel_rfl) (fun _ _ _ h => h) (Or.inl ⟨by kernel_rfl, ?yy7⟩) (by assumption) ?_
      case yy7 => intro w hSw; (try dsimp only at hSw); go_simp; (try with_reducible rfl)
      simp only [List.setIfInBounds_toArray, List.set_cons_zero, List.set_cons_succ]
      have hb6 : Below v5.heap.size v5 v5.drew := (Below.refl v5.heap.size v5).drew
      refine wpAnyH_ready (rs := [2]) (by kernel_rfl) (by simp) ?_
      refine (AllReadyH.cons rfl (fun K hK => ?_) AllReadyH.nil)
      go_simp
      (refine (Split_any tl 32 _ (by omega) ((HLB.out.below HB.out).below hb6)).mono ?_; rintro er u1 ⟨rfl, rfl⟩)
      (try go_wp2_with fail)
      refine hK.out _ _ ?_ (fun hHeld => ?_)
      · exact hHeld.alloc _
      clear hK K
      (try simp only [Act.put, List.setIfInBounds_toArray, List.set_cons_zero, List.set_cons_succ])
      have HY := Lib.hid (Bx.new v5 ((splX 32 tl).map strV).toArray 9)
      have hc1 : Below v5.heap.size v5 (v5.alloc (.cells ((splX 32 tl).map strV).toArray 9)).drew := (hb6.alloc (Nat.le_refl _) _)
      have HH := Lib.hid (show Bx w5.heap.size #[.int .i64 op, .int .i64 0, .int .i64 0, .int .i64 0, .string ⟨#[]⟩] 39 (v5.alloc (.cells ((splX 32 tl).map strV).toArray 9)).drew from hHeld); have HC1 := Lib.hid hc1; clear hHeld hc1 hb6 HS0
      (try rw [show v5.drew.alloc (.cells ((splX 32 tl).map strV).toArray 9) = (v5.alloc (.cells ((splX 32 tl).map strV).toArray 9)).drew from rfl])
      generalize hW : v5.alloc (.cells ((splX 32 tl).map strV).toArray 9) = u1 at HY HC1 HH ⊢
      clear hW
      have hHeld := HH.out; clear HH
      refine wpAnyH_ready (rs := [3]) (by kernel_rfl) (by simp) ?_
      refine (AllReadyH.cons rfl (fun K hK => ?_) AllReadyH.nil)
      go_simp
      (refine (numbers_any op h1 h2 v5.heap.size (splX 32 tl) (splX 32 tl).length (splX 32 tl).length u1.drew rfl HY.out (by have := splX_len 32 tl; omega) (fun q hq => Nat.le_trans (splX_mem_len 32 tl q hq) htl) ((HLB.out.below HB.out).below HC1.out)).mono ?_; rw [HOP.out]; rintro er u2 ⟨⟨Xop, Xa, Xb, Xn, Xs⟩, rfl, hXX, hb9⟩; simp only [insV])
      (try go_wp2_with fail)
      refine hK.out _ _ ?_ (fun hHeld => ?_)
      · exact hHeld.call hb9
      clear hK K
      (try simp only [Act.put, List.setIfInBounds_toArray, List.set_cons_zero, List.set_cons_succ])
      have hb8 := btrans HC1.out HC1.out.size hb9; clear hb9
      have HXX := Lib.hid hXX; clear hXX HY HC1
      have HRB := Lib.hid (HRB.out.call hb8); have HB := Lib.hid (btrans HB.out HB.out.size hb8); clear hb8
      refine takeH (i := 4) (v := ?vv8) 74 rfl rfl (by kernel_rfl) (by kernel_rfl) (by kernel_rfl) (fun _ _ _ h => h) (Or.inl ⟨by kernel_rfl, ?yy8⟩) (by assumption) ?_
      case yy8 => intro w hSw; (try dsimp only at hSw); go_simp; (try with_reducible rfl)
      simp only [List.setIfInBounds_toArray, List.set_cons_zero, List.set_cons_succ]
      refine takeH (i := 5) (v := ?vv9) 75 rfl rfl (by kernel_rfl) (by kernel_rfl) (by kernel_rfl) (fun _ _ _ h => h) (Or.inl ⟨by kernel_rfl, ?yy9⟩) (by assumption) ?_
      case yy9 => intro w hSw; (try dsimp only at hSw); go_simp; (try with_reducible rfl)
      simp only [List.setIfInBounds_toArray, List.set_cons_zero, List.set_cons_succ]
      have hne : w5.heap.size ≠ w.heap.size := by omega
      have r0 : u2.cell? ⟨w.heap.size, 0, none⟩ = some (.int .i64 0) := HRB.out.cell 0
      have r1 : u2.cell? ⟨w.heap.size, 1, none⟩ = some (.int .i64 0) := HRB.out.cell 1
      have r2 : u2.cell? ⟨w.heap.size, 2, none⟩ = some (.int .i64 0) := HRB.out.cell 2
      have r3 : u2.cell? ⟨w.heap.size, 3, none⟩ = some (.int .i64 0) := HRB.out.cell 3
      have r4 : u2.cell? ⟨w.heap.size, 4, none⟩ = some (.string ⟨#[]⟩) := HRB.out.cell 4
      have f0 := HRB.out.free 0
      have f1 := HRB.out.free 1
      have f2 := HRB.out.free 2
      have f3 := HRB.out.free 3
      have f4 := HRB.out.free 4
      refine wpAnyH_ready (rs := [6]) (by kernel_rfl) (by simp) ?_
      refine (AllReadyH.cons rfl (fun K hK => ?_) AllReadyH.nil)
      go_simp
      skip
      (try go_wp2_with fail)
      refine hK.out _ _ ?_ (fun hHeld => ?_)
      · exact ((((hHeld.other (by omega) _).other (by omega) _).other (by omega) _).other (by omega) _).other (by omega) _
      clear hK K
      (try simp only [Act.put, List.setIfInBounds_toArray, List.set_cons_zero, List.set_cons_succ])
      refine takeH (i := 7) (v := ?vv10) 5 rfl rfl (by kernel_rfl) (by kernel_rfl) (by kernel_rfl) (fun _ _ _ h => h) (Or.inl ⟨by kernel_rfl, ?yy10⟩) (by assumption) ?_
      case yy10 => intro w hSw; (try dsimp only at hSw); go_simp; (try with_reducible rfl)
      simp only [List.setIfInBounds_toArray, List.set_cons_zero, List.set_cons_succ]
      refine wpAnyH_done (by kernel_rfl) ?_ _
      have HS0 := Lib.hid True.intro
      have HK := Lib.hid (HRB.out.sets5 (.int .i64 Xop) (.int .i64 Xa) (.int .i64 Xb) (.int .i64 Xn) (.string (bs Xs))); have HBK := Lib.hid (below_sets5 HB.out w.heap.size (Nat.le_refl _) (.int .i64 Xop) (.int .i64 Xa) (.int .i64 Xb) (.int .i64 Xn) (.string (bs Xs)))
      clear r0 r1 r2 r3 r4 f0 f1 f2 f3 f4 hHeld HS0
      generalize hWE : (((((u2.setCell ⟨w.heap.size, 0, none⟩ (.int .i64 Xop)).setCell ⟨w.heap.size, 1, none⟩ (.int .i64 Xa)).setCell ⟨w.heap.size, 2, none⟩ (.int .i64 Xb)).setCell ⟨w.heap.size, 3, none⟩ (.int .i64 Xn)).setCell ⟨w.heap.size, 4, none⟩ (.string (bs Xs))) = WE at HK HBK ⊢
      clear hWE
      go_wp2
      have k0 := HK.out.cell 0
      have k1 := HK.out.cell 1
      have k2 := HK.out.cell 2
      have k3 := HK.out.cell 3
      have k4 := HK.out.cell 4
      simp only [List.getElem?_toArray, List.getElem?_cons_zero, List.getElem?_cons_succ] at k0 k1 k2 k3 k4
      refine bodyPost_ret (v := .tuple #[.agg #[.int .i64 Xop, .int .i64 Xa, .int .i64 Xb, .int .i64 Xn, .string (bs Xs)], .bool R.isSome]) (by simp [results, Tryz.results38, go_sem, k0, k1, k2, k3, k4] <;> rfl) rfl ⟨_, rfl, HXX.out, HBK.out⟩
end Go.Proofs.YtkmmdkklpbafdaaGreatDoor
