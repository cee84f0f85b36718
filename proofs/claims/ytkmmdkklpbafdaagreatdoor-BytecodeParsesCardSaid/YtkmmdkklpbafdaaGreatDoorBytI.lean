/- The walks of layer 16's write and Format. No conditions. -/
import Derived.Test.YtkmmdkklpbafdaaGreatDoorBytH
import Derived.Test.YtkmmdkklpbafdaaGreatDoorLexJ
import Derived.Lib.ItoaLen
namespace Go.Proofs.YtkmmdkklpbafdaaGreatDoor
open Go.RowKit

theorem bs_cat32 (F : List UInt8) : ({ data := #[32] } : ByteArray) ++ bs F = bs (32 :: F) := by show bs [32] ++ bs F = _; rw [bs_append]; rfl
theorem bs_catx (F : List UInt8) : bs F ++ ({ data := #[32] } : ByteArray) = bs (F ++ [32]) := by show bs F ++ bs [32] = _; rw [bs_append]
set_option maxHeartbeats 2000000 in
set_option maxRecDepth 100000 in
/-- WriteString leaves the boxes of other types -/
theorem Bd.writeK (b : Nat) (l : List UInt8) (s : List UInt8) (w : World) (h : Bd b l w) (hlen : l.length ≤ 1000000) (hs : s.length ≤ 1000000) :
    Calls Tryz.prog 26 #[.pointer (some ⟨b, 0, none⟩), .string (bs s)] w fun e w' => e = .returned (.tuple #[.int .i64 (s.length : Int), .nilIface]) ∧ Bd b (l ++ s) w' ∧ Below b w w' ∧ ∀ k cs T, T ≠ 5 → k ≠ b → Bx k cs T w → Bx k cs T w' := by
  obtain ⟨i0, hi, hz0, hz1, hz2⟩ := info_parts Tryz.infoByte
  have hsc : Lib.strCells (bs s) = Lib.byteCells s := by simp [Lib.strCells, Lib.byteCells, bs]
  have hca : Lib.byteCells l ++ Lib.byteCells s = Lib.byteCells (l ++ s) := by simp [Lib.byteCells]
  have HSC := Lib.hid hsc; have HCA := Lib.hid hca; clear hsc hca
  go_enter Tryz.func26, Tryz.ntmps26
  go_wp2_with fail
  refine (copyCheck2 b l _ h).mono ?_
  rintro e w1 ⟨rfl, ⟨p0, v, hb0, hbk, hown, hne⟩, hb1, hsz1, hk1⟩
  have HK1 := Lib.hid hk1; clear hk1
  have HSZ := Lib.hid hsz1; clear hsz1
  have c0 : w1.cell? ⟨b, 0, none⟩ = some (.pointer (some ⟨b, 0, none⟩)) := by rw [Lib.cell_of_heap hbk]; rfl
  have c1 : w1.cell? ⟨b, 1, none⟩ = some v := by rw [Lib.cell_of_heap hbk]; rfl
  have hlt : b < w1.heap.size := lt_heap hbk
  have HBL := Lib.hid (Lib.byteCells_length l)
  have HBZ := Lib.hid (bs_size s)
  go_wp2_with (at_builtin; refine Lib.wpList_append_own_string _ rfl _ _ 45 9 rfl b 5 i0 Tryz.underlying45 Tryz.underlying9 hi hz0 hz1 hz2 _ _ _ rfl hown (bs s) rfl ?c3 ?c4 ?c5 ?_)
  case c3 => have := HBL.out; have := HBZ.out; unfold maxLen; omega
  case c4 => have := HBL.out; have := HBZ.out; omega
  case c5 => have := HSZ.out; omega
  intro v' w2 hown' hgrow _
  have hb2 : w2.heap[b]? = some (.cells #[.pointer (some ⟨b, 0, none⟩), v] 47 (0, 0)) := by
    rw [hgrow.block b (by omega) (fun e => hne e.symm)]
    exact hbk
  have hkeep : ∀ k cs T, T ≠ 5 → k ≠ b → Bx k cs T w → Bx k cs T w2 := by
    intro k cs T hT hk hx
    have h1 : Bx k cs T w1 := (HK1.out k hk).trans hx
    exact h1.grown hgrow hown hT
  have HKP := Lib.hid hkeep; clear hkeep
  have d0 : w2.cell? ⟨b, 0, none⟩ = some (.pointer (some ⟨b, 0, none⟩)) := by rw [Lib.cell_of_heap hb2]; rfl
  have d1 : w2.cell? ⟨b, 1, none⟩ = some v := by rw [Lib.cell_of_heap hb2]; rfl
  have f1 : w2.frozen? ⟨b, 1, none⟩ = false := Lib.frozen_of_heap hb2 1
  rw [HSC.out, HCA.out] at hown'
  have ho2 : w2.ownsRow b 5 1 v' (Lib.byteCells (l ++ s)).length (Lib.byteCells (l ++ s)) := by
    have e : (Lib.byteCells l).length + (bs s).size = (Lib.byteCells (l ++ s)).length := by rw [HBZ.out, HBL.out, Lib.byteCells_length, List.length_append]
    rw [← e]; exact hown'
  obtain ⟨sa, sc, rfl⟩ := own_sl ho2
  have HO2 := Lib.hid ho2; clear hown' ho2
  go_wp2
  go_ret2
  refine ⟨rfl, ?_, ?_, ?_⟩
  · exact .inr (Lib.BuilderAt.put (T := 47) (e := 5) (Nat.le_refl b) hb2 (bs' := Lib.byteCells (l ++ s)) HO2.out (by decide))
  · exact (hb1.grown hgrow (by omega) (fun k hk => (hown.lt k hk).1)).setCell (p := ⟨b, 1, none⟩) (Nat.le_refl _) _
  · intro k cs T hT hk hx
    exact (HKP.out k cs T hT hk hx).other hk _
theorem fldT_n {x : Ins} (h5 : x.op ≠ 5) (hA : uA x.op = false) (hB : uB x.op = false) (hN : uN x.op = true) (hS : uS x.op = false) : fldT x = 32 :: Lib.itoa x.n := by unfold fldT; simp [h5, hA, hB, hN, hS]
theorem fldT_s {x : Ins} (h5 : x.op ≠ 5) (hA : uA x.op = false) (hB : uB x.op = false) (hN : uN x.op = false) (hS : uS x.op = true) : fldT x = 32 :: (quoL x.s).1 := by unfold fldT; simp [h5, hA, hB, hN, hS]
theorem fldT_abn {x : Ins} (h5 : x.op ≠ 5) (hA : uA x.op = true) (hB : uB x.op = true) (hN : uN x.op = true) (hS : uS x.op = false) : fldT x = 32 :: Lib.itoa x.a ++ (32 :: Lib.itoa x.b ++ 32 :: Lib.itoa x.n) := by unfold fldT; simp [h5, hA, hB, hN, hS]
theorem fldT_a {x : Ins} (h5 : x.op ≠ 5) (hA : uA x.op = true) (hB : uB x.op = false) (hN : uN x.op = false) (hS : uS x.op = false) : fldT x = 32 :: Lib.itoa x.a := by unfold fldT; simp [h5, hA, hB, hN, hS]
theorem fldT_5 {x : Ins} (h5 : x.op = 5) : fldT x = 32 :: OPR.getD (x.a - 4).toNat [] := by unfold fldT; simp [h5, uB, uN, uS]
theorem fldT_0 {x : Ins} (h5 : x.op ≠ 5) (hA : uA x.op = false) (hB : uB x.op = false) (hN : uN x.op = false) (hS : uS x.op = false) : fldT x = [] := by unfold fldT; simp [h5, hA, hB, hN, hS]
theorem OPN_len : ∀ k, k < 14 → (OPN.getD k []).length ≤ 10 := by decide
theorem OPR_len : ∀ k, k < 21 → (OPR.getD k []).length ≤ 10 := by decide
theorem nameS_len (op : Int) : (nameS op).length ≤ 10 := by
  unfold nameS
  split
  · exact OPN_len _ (by omega)
  · exact Nat.zero_le _
theorem quoL_ok2 {s : List UInt8} (h : s.length ≤ 64) (h2 : s.all okc = true) : quoL s = (quoS s, 0) := by unfold quoL; rw [if_neg (by omega), if_pos h2]
theorem esc_len2 : ∀ l : List UInt8, (l.flatMap esc).length ≤ 2 * l.length
  | [] => by simp
  | c :: r => by
    have ih := esc_len2 r
    have h1 : (esc c).length ≤ 2 := by unfold esc; split <;> simp
    rw [List.flatMap_cons, List.length_append, List.length_cons]; omega
theorem grp_5 {op : Int} (h : uA op = false ∨ uB op = true ∨ uN op = true ∨ uS op = true) : op ≠ 5 := by
  rintro rfl
  revert h; decide

set_option maxRecDepth 100000 in
set_option maxHeartbeats 16000000 in
theorem write_any (wF : World) (hB : LaidB wF) (b0 i : Nat) (op a b n : Int) (s L : List UInt8) (w : World) (hBF : Below wF.heap.size wF w) (hbF : wF.heap.size ≤ b0) (hD : Bd b0 L w) (hL : L.length ≤ 500000) (hi : i ≤ 100000) (h1 : 1 ≤ op) (h2 : op ≤ 14) (h5 : op = 5 → 4 ≤ a ∧ a ≤ 24) (ha : -9223372036854775808 ≤ a ∧ a ≤ 9223372036854775807) (hb : -9223372036854775808 ≤ b ∧ b ≤ 9223372036854775807) (hn : -9223372036854775808 ≤ n ∧ n ≤ 9223372036854775807) (hs : s.length ≤ 64) (hsp : s.all okc = true) :
    Calls Tryz.prog 28 #[.pointer (some ⟨b0, 0, none⟩), .int .i64 (i : Int), .agg #[.int .i64 op, .int .i64 a, .int .i64 b, .int .i64 n, .string (bs s)]] w fun e w' => e = .returned (.tuple #[]) ∧ Bd b0 (L ++ (lineT i ⟨op, a, b, n, s⟩ ++ [10])) w' ∧ Below b0 w w' := by
  obtain ⟨ha0, ha1⟩ := ha
  obtain ⟨hb0_, hb1_⟩ := hb
  obtain ⟨hn0, hn1⟩ := hn
  have hgrp := grp_any h1 h2
  have hnl := nameS_len op
  obtain ⟨nm, hnm⟩ : ∃ nm, nameS op = nm := ⟨_, rfl⟩
  rw [hnm] at hnl
  obtain ⟨I, hI⟩ : ∃ I, Lib.itoa (i : Int) = I := ⟨_, rfl⟩
  have hIl : I.length ≤ 1000 := by rw [← hI]; have := Lib.itoa_length_le (i : Int) (by omega) (by omega); omega
  obtain ⟨F, hF⟩ : ∃ F, fldT ⟨op, a, b, n, s⟩ = F := ⟨_, rfl⟩
  have hline : lineT i ⟨op, a, b, n, s⟩ = (I ++ [32] ++ nm) ++ F := by unfold lineT; rw [hI, hnm, hF]; simp
  rw [hline]
  have HF := Lib.hid hF; have HN := Lib.hid hnm; have HI := Lib.hid hI; have HLB := Lib.hid hB; have HG := Lib.hid hgrp; have H5 := Lib.hid h5; have HSP := Lib.hid hsp; clear hF hnm hI hB hgrp hline h5 hsp
  have hbw := hD.lt
  obtain ⟨v0, hW0, hb0, hx0⟩ := boxes1 w #[.int .i64 op, .int .i64 a, .int .i64 b, .int .i64 n, .string (bs s)] 39
  have HW := Lib.hid hW0; have HD := Lib.hid (hD.below hb0); have HB := Lib.hid (hb0.mono (Nat.le_of_lt hbw)); have HBF := Lib.hid (btrans hBF hBF.size hb0); have HX := Lib.hid hx0; clear hW0 hb0 hx0 hD hBF
  go_enter Tryz.func28, Tryz.ntmps28
  go_upto_region 1 with (fail)
  rw [HW.out]
  clear HW
  have hs0 : Bx w.heap.size #[.int .i64 op, .int .i64 a, .int .i64 b, .int .i64 n, .string (bs s)] 39 v0.drew := HX.out
  have HS0 := Lib.hid hs0; clear hs0
  have hz1 : ¬ 9223372036854775807 < I.length + 1 := by omega
  have hz2 : ¬ 9223372036854775807 < (I ++ [32]).length + nm.length := by simp only [List.length_append, List.length_singleton]; omega
  have hz3 : ¬ 9223372036854775807 < I.length + 1 + nm.length := by omega
  go_wp2_with fail
  refine wp_region_held_drew (S := (fun w' => Bx w.heap.size #[.int .i64 op, .int .i64 a, .int .i64 b, .int .i64 n, .string (bs s)] 39 w')) (by kernel_rfl) ?_ (fun hHeld => ?_)
  · exact HS0.out
  refine takeH (i := 0) (v := ?vv1) 9 rfl rfl (by kernel_rfl) (by kernel_rfl) (by kernel_rfl) (fun _ _ _ h => h) (Or.inl ⟨by kernel_rfl, ?yy1⟩) (by assumption) ?_
  case yy1 => intro w hSw; (try dsimp only at hSw); go_simp; (try with_reducible rfl)
  simp only [List.setIfInBounds_toArray, List.set_cons_zero, List.set_cons_succ]
  refine takeH (i := 1) (v := ?vv2) 10 rfl rfl (by kernel_rfl) (by kernel_rfl) (by kernel_rfl) (fun _ _ _ h => h) (Or.inl ⟨by kernel_rfl, ?yy2⟩) (by assumption) ?_
  case yy2 => intro w hSw; (try dsimp only at hSw); go_simp; (try with_reducible rfl)
  simp only [List.setIfInBounds_toArray, List.set_cons_zero, List.set_cons_succ]
  refine takeH (i := 4) (v := ?vv3) 13 rfl rfl (by kernel_rfl) (by kernel_rfl) (by kernel_rfl) (fun _ _ _ h => h) (Or.inl ⟨by kernel_rfl, ?yy3⟩) (by assumption) ?_
  case yy3 => intro w hSw; (try dsimp only at hSw); go_simp; (try with_reducible rfl)
  simp only [List.setIfInBounds_toArray, List.set_cons_zero, List.set_cons_succ]
  refine takeH (i := 5) (v := ?vv4) 14 rfl rfl (by kernel_rfl) (by kernel_rfl) (by kernel_rfl) (fun _ _ _ h => h) (Or.inl ⟨by kernel_rfl, ?yy4⟩) (by assumption) ?_
  case yy4 =>
    intro wq hSw
    obtain ⟨x0, x1, x2, x3, x4⟩ := hSw.c5
    clear hSw
    go_simp
    (try with_reducible rfl)
  simp only [List.setIfInBounds_toArray, List.set_cons_zero, List.set_cons_succ]
  have hc0 : Below v0.heap.size v0 v0.drew := (Below.refl v0.heap.size v0).drew
  have HLV := Lib.hid (HLB.out.below HBF.out)
  refine wpAnyH_ready (rs := [2]) (by kernel_rfl) (by simp) ?_
  refine (AllReadyH.cons rfl (fun K hK => ?_) AllReadyH.nil)
  go_simp
  (refine (Format_any (i : Int) _ (by omega) (by omega) (HLV.out.1.below hc0)).mono ?_; rw [HI.out]; rintro er u1 ⟨rfl, hb1⟩)
  (try go_wp2_with fail)
  refine hK.out _ _ ?_ (fun hHeld => ?_)
  · exact hHeld.call hb1
  clear hK K
  (try simp only [Act.put, List.setIfInBounds_toArray, List.set_cons_zero, List.set_cons_succ])
  have hc1 := btrans hc0 hc0.size hb1
  refine takeH (i := 3) (v := ?vv5) 12 rfl rfl (by kernel_rfl) (by kernel_rfl) (by kernel_rfl) (fun _ _ _ h => h) (Or.inl ⟨by kernel_rfl, ?yy5⟩) (by assumption) ?_
  case yy5 => intro w hSw; (try dsimp only at hSw); go_simp; (try with_reducible rfl)
  simp only [List.setIfInBounds_toArray, List.set_cons_zero, List.set_cons_succ]
  refine wpAnyH_ready (rs := [6]) (by kernel_rfl) (by simp) ?_
  refine (AllReadyH.cons rfl (fun K hK => ?_) AllReadyH.nil)
  go_simp
  (refine (Name_any op _ (HLV.out.below hc1)).mono ?_; rw [HN.out]; rintro er u2 ⟨rfl, hb2⟩)
  (try go_wp2_with fail)
  refine hK.out _ _ ?_ (fun hHeld => ?_)
  · exact hHeld.call hb2
  clear hK K
  (try simp only [Act.put, List.setIfInBounds_toArray, List.set_cons_zero, List.set_cons_succ])
  have hc2 := btrans hc1 hc1.size hb2
  refine takeH (i := 7) (v := ?vv6) 16 rfl rfl (by kernel_rfl) (by kernel_rfl) (by kernel_rfl) (fun _ _ _ h => h) (Or.inl ⟨by kernel_rfl, ?yy6⟩) (by assumption) ?_
  case yy6 => intro w hSw; (try dsimp only at hSw); go_simp; (try with_reducible rfl)
  simp only [List.setIfInBounds_toArray, List.set_cons_zero, List.set_cons_succ]
  refine wpAnyH_ready (rs := [8]) (by kernel_rfl) (by simp) ?_
  refine (AllReadyH.cons rfl (fun K hK => ?_) AllReadyH.nil)
  go_simp
  (refine (Bd.writeK b0 L (I ++ [32] ++ nm) _ (HD.out.below hc2) (by omega) (by simp only [List.length_append, List.length_singleton]; omega)).mono ?_; rintro er u3 ⟨rfl, hD3, hb3, hkp⟩)
  (try go_wp2_with fail)
  refine hK.out _ _ ?_ (fun hHeld => ?_)
  · exact hkp _ _ _ (by decide) (by omega) hHeld
  clear hK K
  (try simp only [Act.put, List.setIfInBounds_toArray, List.set_cons_zero, List.set_cons_succ])
  refine wpAnyH_done (by kernel_rfl) ?_ _
  have HX := Lib.hid hHeld; have HBF := Lib.hid ((btrans HBF.out HBF.out.size hc2).trans (hb3.mono hbF)); have HB := Lib.hid ((HB.out.trans (hc2.mono (Nat.le_of_lt HD.out.lt))).trans hb3); clear hb1 hb2 hb3 hc0 hc1 hc2 hHeld hkp HS0 HLV hz1 hz2 hz3
  obtain ⟨T0, hT0⟩ : ∃ T, L ++ (I ++ [32] ++ nm) = T := ⟨_, rfl⟩
  rw [hT0] at hD3
  have hTl : T0.length ≤ 501200 := by rw [← hT0]; simp only [List.length_append, List.length_singleton]; omega
  have HD := Lib.hid hD3; have HT0 := Lib.hid hT0; clear hD3 hT0 hIl hnl
  obtain ⟨x0, x1, x2, x3, x4⟩ := HX.out.c5
  obtain ⟨fv, hfv⟩ : ∃ t, fldS op = t := ⟨_, rfl⟩
  have HFV := Lib.hid hfv; clear hfv
  go_wp2_with fail
  refine (fields_any op h1 h2 _).mono ?_
  rw [HFV.out]
  rintro er w1 ⟨rfl, hb9⟩
  clear x0 x1 x2 x3 x4
  have HX := Lib.hid (HX.out.call hb9); have HBF := Lib.hid (btrans HBF.out HBF.out.size hb9); have HB := Lib.hid (HB.out.trans (hb9.mono (Nat.le_of_lt HD.out.lt))); have HD := Lib.hid (HD.out.below hb9); clear hb9
  rcases HG.out with h | h | h | h | h
  · obtain ⟨hV, gA, gB, gN, gS⟩ := h
    have hfv : fv = 4 := HFV.out.symm.trans hV
    subst hfv
    clear HG
    have h5n : op ≠ 5 := grp_5 (by simp [gA, gB, gN, gS])
    have t5 : (op == 5) = false := by rw [beq_eq_false_iff_ne]; exact h5n
    have HFE := Lib.hid (show F = 32 :: Lib.itoa n by rw [← HF.out]; exact fldT_n h5n gA gB gN gS)
    have HGA := Lib.hid gA; have HGB := Lib.hid gB; have HGN := Lib.hid gN; have HGS := Lib.hid gS; clear gA gB gN gS hV h5n
    obtain ⟨J1, hJ1⟩ : ∃ I, Lib.itoa n = I := ⟨_, rfl⟩
    have hJ1l : J1.length ≤ 1000 := by rw [← hJ1]; have := Lib.itoa_length_le n (by omega) (by omega); omega
    have hzJ1 : ¬ 9223372036854775807 < 1 + J1.length := by omega
    have HJ1 := Lib.hid hJ1; clear hJ1
    obtain ⟨x0, x1, x2, x3, x4⟩ := HX.out.c5
    go_wp2_with fail
    refine (Format_any n _ hn0 hn1 (HLB.out.below HBF.out).1).mono ?_
    rw [HJ1.out]
    rintro er z1 ⟨rfl, hb1⟩
    clear x0 x1 x2 x3 x4
    have HX := Lib.hid (HX.out.call hb1); have HBF := Lib.hid (btrans HBF.out HBF.out.size hb1); have HB := Lib.hid (HB.out.trans (hb1.mono (Nat.le_of_lt HD.out.lt))); have HD := Lib.hid (HD.out.below hb1); clear hb1
    go_wp2_with fail
    refine (Bd.writeK b0 T0 (32 :: J1) _ HD.out (by omega) (by simp only [List.length_cons]; omega)).mono ?_
    rintro er y2 ⟨rfl, hD2, hb2, hkp⟩
    (try clear x0 x1 x2 x3 x4)
    have HX := Lib.hid (hkp _ _ _ (by decide) (by omega) HX.out); have HBF := Lib.hid (HBF.out.trans (hb2.mono hbF)); have HB := Lib.hid (HB.out.trans hb2); have HD := Lib.hid hD2; clear hb2 hkp hD2
    obtain ⟨T1, hT1⟩ : ∃ T, T0 ++ (32 :: J1) = T := ⟨_, rfl⟩
    rw [hT1] at HD
    have HT1 := Lib.hid hT1; clear hT1
    have hTl2 : T1.length ≤ 600000 := by rw [← HT1.out]; simp only [List.length_append, List.length_cons]; omega
    go_wp2_with fail
    refine (Bd.writeK b0 T1 ([10]) _ HD.out (by omega) (by show 1 ≤ _; omega)).mono ?_
    rintro er y3 ⟨rfl, hD3, hb3, hkp⟩
    (try clear x0 x1 x2 x3 x4)
    have HX := Lib.hid (hkp _ _ _ (by decide) (by omega) HX.out); have HBF := Lib.hid (HBF.out.trans (hb3.mono hbF)); have HB := Lib.hid (HB.out.trans hb3); have HD := Lib.hid hD3; clear hb3 hkp hD3
    go_wp2
    go_end0
    refine ⟨rfl, ?_, HB.out⟩
    have hh := HD.out
    rw [← HT1.out, ← HT0.out, ← HJ1.out] at hh
    rw [HFE.out]
    simpa using hh
  · obtain ⟨hV, gA, gB, gN, gS⟩ := h
    have hfv : fv = 8 := HFV.out.symm.trans hV
    subst hfv
    clear HG
    have h5n : op ≠ 5 := grp_5 (by simp [gA, gB, gN, gS])
    have t5 : (op == 5) = false := by rw [beq_eq_false_iff_ne]; exact h5n
    have HFE := Lib.hid (show F = 32 :: (quoL s).1 by rw [← HF.out]; exact fldT_s h5n gA gB gN gS)
    have HGA := Lib.hid gA; have HGB := Lib.hid gB; have HGN := Lib.hid gN; have HGS := Lib.hid gS; clear gA gB gN gS hV h5n
    obtain ⟨⟨J1, qe⟩, hq⟩ : ∃ r, quoL s = r := ⟨_, rfl⟩
    have hJ1l : J1.length ≤ 1000 := by have h1 := esc_len2 s; have h2 : J1 = (quoL s).1 := (by rw [hq]); rw [h2, quoL_ok2 hs HSP.out]; unfold quoS; simp only [List.length_cons, List.length_append, List.length_nil]; omega
    have hzJ1 : ¬ 9223372036854775807 < 1 + J1.length := by omega
    have HFE := Lib.hid (show F = 32 :: J1 by rw [HFE.out, hq])
    have HQ := Lib.hid hq; clear hq
    obtain ⟨x0, x1, x2, x3, x4⟩ := HX.out.c5
    go_wp2_with fail
    refine (LQuote_any s (by omega) _).mono ?_
    rw [HQ.out]
    rintro er z1 ⟨rfl, hb1⟩
    clear x0 x1 x2 x3 x4
    have HX := Lib.hid (HX.out.call hb1); have HBF := Lib.hid (btrans HBF.out HBF.out.size hb1); have HB := Lib.hid (HB.out.trans (hb1.mono (Nat.le_of_lt HD.out.lt))); have HD := Lib.hid (HD.out.below hb1); clear hb1
    go_wp2_with fail
    refine (Bd.writeK b0 T0 (32 :: J1) _ HD.out (by omega) (by simp only [List.length_cons]; omega)).mono ?_
    rintro er y4 ⟨rfl, hD4, hb4, hkp⟩
    (try clear x0 x1 x2 x3 x4)
    have HX := Lib.hid (hkp _ _ _ (by decide) (by omega) HX.out); have HBF := Lib.hid (HBF.out.trans (hb4.mono hbF)); have HB := Lib.hid (HB.out.trans hb4); have HD := Lib.hid hD4; clear hb4 hkp hD4
    obtain ⟨T1, hT1⟩ : ∃ T, T0 ++ (32 :: J1) = T := ⟨_, rfl⟩
    rw [hT1] at HD
    have HT1 := Lib.hid hT1; clear hT1
    have hTl2 : T1.length ≤ 600000 := by rw [← HT1.out]; simp only [List.length_append, List.length_cons]; omega
    go_wp2_with fail
    refine (Bd.writeK b0 T1 ([10]) _ HD.out (by omega) (by show 1 ≤ _; omega)).mono ?_
    rintro er y5 ⟨rfl, hD5, hb5, hkp⟩
    (try clear x0 x1 x2 x3 x4)
    have HX := Lib.hid (hkp _ _ _ (by decide) (by omega) HX.out); have HBF := Lib.hid (HBF.out.trans (hb5.mono hbF)); have HB := Lib.hid (HB.out.trans hb5); have HD := Lib.hid hD5; clear hb5 hkp hD5
    go_wp2
    go_end0
    refine ⟨rfl, ?_, HB.out⟩
    have hh := HD.out
    rw [← HT1.out, ← HT0.out] at hh
    rw [HFE.out]
    simpa using hh
  · obtain ⟨hV, gA, gB, gN, gS⟩ := h
    have hfv : fv = 7 := HFV.out.symm.trans hV
    subst hfv
    clear HG
    have h5n : op ≠ 5 := grp_5 (by simp [gA, gB, gN, gS])
    have t5 : (op == 5) = false := by rw [beq_eq_false_iff_ne]; exact h5n
    have HFE := Lib.hid (show F = 32 :: Lib.itoa a ++ (32 :: Lib.itoa b ++ 32 :: Lib.itoa n) by rw [← HF.out]; exact fldT_abn h5n gA gB gN gS)
    have HGA := Lib.hid gA; have HGB := Lib.hid gB; have HGN := Lib.hid gN; have HGS := Lib.hid gS; clear gA gB gN gS hV h5n
    obtain ⟨J1, hJ1⟩ : ∃ I, Lib.itoa a = I := ⟨_, rfl⟩
    have hJ1l : J1.length ≤ 1000 := by rw [← hJ1]; have := Lib.itoa_length_le a (by omega) (by omega); omega
    have hzJ1 : ¬ 9223372036854775807 < 1 + J1.length := by omega
    have HJ1 := Lib.hid hJ1; clear hJ1
    obtain ⟨x0, x1, x2, x3, x4⟩ := HX.out.c5
    go_wp2_with fail
    refine (Format_any a _ ha0 ha1 (HLB.out.below HBF.out).1).mono ?_
    rw [HJ1.out]
    rintro er z6 ⟨rfl, hb6⟩
    clear x0 x1 x2 x3 x4
    have HX := Lib.hid (HX.out.call hb6); have HBF := Lib.hid (btrans HBF.out HBF.out.size hb6); have HB := Lib.hid (HB.out.trans (hb6.mono (Nat.le_of_lt HD.out.lt))); have HD := Lib.hid (HD.out.below hb6); clear hb6
    go_wp2_with fail
    refine (Bd.writeK b0 T0 (32 :: J1) _ HD.out (by omega) (by simp only [List.length_cons]; omega)).mono ?_
    rintro er y7 ⟨rfl, hD7, hb7, hkp⟩
    (try clear x0 x1 x2 x3 x4)
    have HX := Lib.hid (hkp _ _ _ (by decide) (by omega) HX.out); have HBF := Lib.hid (HBF.out.trans (hb7.mono hbF)); have HB := Lib.hid (HB.out.trans hb7); have HD := Lib.hid hD7; clear hb7 hkp hD7
    obtain ⟨T1, hT1⟩ : ∃ T, T0 ++ (32 :: J1) = T := ⟨_, rfl⟩
    rw [hT1] at HD
    have HT1 := Lib.hid hT1; clear hT1
    have hT1l : T1.length ≤ 502201 := by rw [← HT1.out]; simp only [List.length_append, List.length_cons]; omega
    obtain ⟨J2, hJ2⟩ : ∃ I, Lib.itoa b = I := ⟨_, rfl⟩
    have hJ2l : J2.length ≤ 1000 := by rw [← hJ2]; have := Lib.itoa_length_le b (by omega) (by omega); omega
    have hzJ2 : ¬ 9223372036854775807 < 1 + J2.length := by omega
    have HJ2 := Lib.hid hJ2; clear hJ2
    obtain ⟨x0, x1, x2, x3, x4⟩ := HX.out.c5
    go_wp2_with fail
    refine (Format_any b _ hb0_ hb1_ (HLB.out.below HBF.out).1).mono ?_
    rw [HJ2.out]
    rintro er z8 ⟨rfl, hb8⟩
    clear x0 x1 x2 x3 x4
    have HX := Lib.hid (HX.out.call hb8); have HBF := Lib.hid (btrans HBF.out HBF.out.size hb8); have HB := Lib.hid (HB.out.trans (hb8.mono (Nat.le_of_lt HD.out.lt))); have HD := Lib.hid (HD.out.below hb8); clear hb8
    go_wp2_with fail
    refine (Bd.writeK b0 T1 (32 :: J2) _ HD.out (by omega) (by simp only [List.length_cons]; omega)).mono ?_
    rintro er y9 ⟨rfl, hD9, hb9, hkp⟩
    (try clear x0 x1 x2 x3 x4)
    have HX := Lib.hid (hkp _ _ _ (by decide) (by omega) HX.out); have HBF := Lib.hid (HBF.out.trans (hb9.mono hbF)); have HB := Lib.hid (HB.out.trans hb9); have HD := Lib.hid hD9; clear hb9 hkp hD9
    obtain ⟨T2, hT2⟩ : ∃ T, T1 ++ (32 :: J2) = T := ⟨_, rfl⟩
    rw [hT2] at HD
    have HT2 := Lib.hid hT2; clear hT2
    have hT2l : T2.length ≤ 503202 := by rw [← HT2.out]; simp only [List.length_append, List.length_cons]; omega
    obtain ⟨J3, hJ3⟩ : ∃ I, Lib.itoa n = I := ⟨_, rfl⟩
    have hJ3l : J3.length ≤ 1000 := by rw [← hJ3]; have := Lib.itoa_length_le n (by omega) (by omega); omega
    have hzJ3 : ¬ 9223372036854775807 < 1 + J3.length := by omega
    have HJ3 := Lib.hid hJ3; clear hJ3
    obtain ⟨x0, x1, x2, x3, x4⟩ := HX.out.c5
    go_wp2_with fail
    refine (Format_any n _ hn0 hn1 (HLB.out.below HBF.out).1).mono ?_
    rw [HJ3.out]
    rintro er z10 ⟨rfl, hb10⟩
    clear x0 x1 x2 x3 x4
    have HX := Lib.hid (HX.out.call hb10); have HBF := Lib.hid (btrans HBF.out HBF.out.size hb10); have HB := Lib.hid (HB.out.trans (hb10.mono (Nat.le_of_lt HD.out.lt))); have HD := Lib.hid (HD.out.below hb10); clear hb10
    go_wp2_with fail
    refine (Bd.writeK b0 T2 (32 :: J3) _ HD.out (by omega) (by simp only [List.length_cons]; omega)).mono ?_
    rintro er y11 ⟨rfl, hD11, hb11, hkp⟩
    (try clear x0 x1 x2 x3 x4)
    have HX := Lib.hid (hkp _ _ _ (by decide) (by omega) HX.out); have HBF := Lib.hid (HBF.out.trans (hb11.mono hbF)); have HB := Lib.hid (HB.out.trans hb11); have HD := Lib.hid hD11; clear hb11 hkp hD11
    obtain ⟨T3, hT3⟩ : ∃ T, T2 ++ (32 :: J3) = T := ⟨_, rfl⟩
    rw [hT3] at HD
    have HT3 := Lib.hid hT3; clear hT3
    have hTl2 : T3.length ≤ 600000 := by rw [← HT3.out]; simp only [List.length_append, List.length_cons]; omega
    go_wp2_with fail
    refine (Bd.writeK b0 T3 ([10]) _ HD.out (by omega) (by show 1 ≤ _; omega)).mono ?_
    rintro er y12 ⟨rfl, hD12, hb12, hkp⟩
    (try clear x0 x1 x2 x3 x4)
    have HX := Lib.hid (hkp _ _ _ (by decide) (by omega) HX.out); have HBF := Lib.hid (HBF.out.trans (hb12.mono hbF)); have HB := Lib.hid (HB.out.trans hb12); have HD := Lib.hid hD12; clear hb12 hkp hD12
    go_wp2
    go_end0
    refine ⟨rfl, ?_, HB.out⟩
    have hh := HD.out
    rw [← HT3.out, ← HT2.out, ← HT1.out, ← HT0.out, ← HJ1.out, ← HJ2.out, ← HJ3.out] at hh
    rw [HFE.out]
    simpa using hh
  · obtain ⟨hV, gA, gB, gN, gS⟩ := h
    have hfv : fv = 1 := HFV.out.symm.trans hV
    subst hfv
    clear HG
    by_cases h5n : op = 5
    rotate_left
    · have t5 : (op == 5) = false := by rw [beq_eq_false_iff_ne]; exact h5n
      have HFE := Lib.hid (show F = 32 :: Lib.itoa a by rw [← HF.out]; exact fldT_a h5n gA gB gN gS)
      have HGA := Lib.hid gA; have HGB := Lib.hid gB; have HGN := Lib.hid gN; have HGS := Lib.hid gS; clear gA gB gN gS hV h5n
      obtain ⟨J1, hJ1⟩ : ∃ I, Lib.itoa a = I := ⟨_, rfl⟩
      have hJ1l : J1.length ≤ 1000 := by rw [← hJ1]; have := Lib.itoa_length_le a (by omega) (by omega); omega
      have hzJ1 : ¬ 9223372036854775807 < 1 + J1.length := by omega
      have HJ1 := Lib.hid hJ1; clear hJ1
      obtain ⟨x0, x1, x2, x3, x4⟩ := HX.out.c5
      go_wp2_with fail
      refine (Format_any a _ ha0 ha1 (HLB.out.below HBF.out).1).mono ?_
      rw [HJ1.out]
      rintro er z13 ⟨rfl, hb13⟩
      clear x0 x1 x2 x3 x4
      have HX := Lib.hid (HX.out.call hb13); have HBF := Lib.hid (btrans HBF.out HBF.out.size hb13); have HB := Lib.hid (HB.out.trans (hb13.mono (Nat.le_of_lt HD.out.lt))); have HD := Lib.hid (HD.out.below hb13); clear hb13
      go_wp2_with fail
      refine (Bd.writeK b0 T0 (32 :: J1) _ HD.out (by omega) (by simp only [List.length_cons]; omega)).mono ?_
      rintro er y14 ⟨rfl, hD14, hb14, hkp⟩
      (try clear x0 x1 x2 x3 x4)
      have HX := Lib.hid (hkp _ _ _ (by decide) (by omega) HX.out); have HBF := Lib.hid (HBF.out.trans (hb14.mono hbF)); have HB := Lib.hid (HB.out.trans hb14); have HD := Lib.hid hD14; clear hb14 hkp hD14
      obtain ⟨T1, hT1⟩ : ∃ T, T0 ++ (32 :: J1) = T := ⟨_, rfl⟩
      rw [hT1] at HD
      have HT1 := Lib.hid hT1; clear hT1
      have hTl2 : T1.length ≤ 600000 := by rw [← HT1.out]; simp only [List.length_append, List.length_cons]; omega
      go_wp2_with fail
      refine (Bd.writeK b0 T1 ([10]) _ HD.out (by omega) (by show 1 ≤ _; omega)).mono ?_
      rintro er y15 ⟨rfl, hD15, hb15, hkp⟩
      (try clear x0 x1 x2 x3 x4)
      have HX := Lib.hid (hkp _ _ _ (by decide) (by omega) HX.out); have HBF := Lib.hid (HBF.out.trans (hb15.mono hbF)); have HB := Lib.hid (HB.out.trans hb15); have HD := Lib.hid hD15; clear hb15 hkp hD15
      go_wp2
      go_end0
      refine ⟨rfl, ?_, HB.out⟩
      have hh := HD.out
      rw [← HT1.out, ← HT0.out, ← HJ1.out] at hh
      rw [HFE.out]
      simpa using hh
    obtain ⟨h40, h41⟩ := H5.out h5n
    have t5 : (op == 5) = true := by rw [h5n]; rfl
    have HFE := Lib.hid (show F = 32 :: OPR.getD (a - 4).toNat [] by rw [← HF.out]; exact fldT_5 h5n)
    have HGA := Lib.hid gA; have HGB := Lib.hid gB; have HGN := Lib.hid gN; have HGS := Lib.hid gS; clear gA gB gN gS hV h5n
    obtain ⟨k, rfl⟩ : ∃ k : Nat, a = (k : Int) + 4 := ⟨(a - 4).toNat, by omega⟩
    have hk : k < 21 := by omega
    have hk' : (k : Int) < 21 := by omega
    have hwk : IntKind.i64.wrap ((k : Int) + 4 - 4) = (k : Int) := by rw [IntKind.wrap_i64]; omega
    have hwk2 : IntKind.i64.wrap (k : Int) = (k : Int) := by rw [IntKind.wrap_i64]; omega
    have hol := OPR_len k hk
    have hke : ((k : Int) + 4 - 4).toNat = k := by omega
    obtain ⟨J1, hJ1⟩ : ∃ J, OPR.getD k [] = J := ⟨_, rfl⟩
    rw [hJ1] at hol
    have HFE := Lib.hid (show F = 32 :: J1 by rw [HFE.out, hke, hJ1])
    have HJ1 := Lib.hid hJ1; have HLV := Lib.hid (HLB.out.below HBF.out); clear hJ1 hke h40 h41
    have hzJ1 : ¬ 9223372036854775807 < 1 + J1.length := by omega
    obtain ⟨x0, x1, x2, x3, x4⟩ := HX.out.c5
    have hs0 : Bx w.heap.size #[.int .i64 op, .int .i64 ((k : Int) + 4), .int .i64 b, .int .i64 n, .string (bs s)] 39 w1.drew := HX.out
    have HS0 := Lib.hid hs0; clear hs0
    go_upto_region 4 with (fail)
    clear x0 x1 x2 x3 x4
    go_wp2_with fail
    refine wp_region_held_drew (S := (fun w' => Bx w.heap.size #[.int .i64 op, .int .i64 ((k : Int) + 4), .int .i64 b, .int .i64 n, .string (bs s)] 39 w')) (by kernel_rfl) ?_ (fun hHeld => ?_)
    · exact HS0.out
    refine takeH (i := 0) (v := ?vv7) 25 rfl rfl (by kernel_rfl) (by kernel_rfl) (by kernel_rfl) (fun _ _ _ h => h) (Or.inl ⟨by kernel_rfl, ?yy7⟩) (by assumption) ?_
    case yy7 => intro w hSw; (try dsimp only at hSw); go_simp; (try with_reducible rfl)
    simp only [List.setIfInBounds_toArray, List.set_cons_zero, List.set_cons_succ]
    refine takeH (i := 2) (v := ?vv8) 27 rfl rfl (by kernel_rfl) (by kernel_rfl) (by kernel_rfl) (fun _ _ _ h => h) (Or.inl ⟨by kernel_rfl, ?yy8⟩) (by assumption) ?_
    case yy8 => intro w hSw; (try dsimp only at hSw); go_simp; (try with_reducible rfl)
    simp only [List.setIfInBounds_toArray, List.set_cons_zero, List.set_cons_succ]
    refine takeH (i := 3) (v := ?vv9) 28 rfl rfl (by kernel_rfl) (by kernel_rfl) (by kernel_rfl) (fun _ _ _ h => h) (Or.inl ⟨by kernel_rfl, ?yy9⟩) (by assumption) ?_
    case yy9 =>
      intro wq hSw
      obtain ⟨x0, x1, x2, x3, x4⟩ := hSw.c5
      clear hSw
      go_simp
      (try with_reducible rfl)
    simp only [List.setIfInBounds_toArray, List.set_cons_zero, List.set_cons_succ]
    refine takeH (i := 4) (v := ?vv10) 29 rfl rfl (by kernel_rfl) (by kernel_rfl) (by kernel_rfl) (fun _ _ _ h => h) (Or.inl ⟨by kernel_rfl, ?yy10⟩) (by assumption) ?_
    case yy10 => intro w hSw; (try dsimp only at hSw); go_simp; (try with_reducible rfl)
    simp only [List.setIfInBounds_toArray, List.set_cons_zero, List.set_cons_succ]
    have hc0 : Below w1.heap.size w1 w1.drew := (Below.refl w1.heap.size w1).drew
    refine wpAnyH_ready (rs := [1]) (by kernel_rfl) (by simp) ?_
    refine (AllReadyH.cons rfl (fun K hK => ?_) AllReadyH.nil)
    go_simp
    (refine (Fields_of _ OPR 21 (by kernel_rfl) rfl (of_decide_eq_true (by kernel_rfl)) (by kernel_rfl) _ (HLV.out.below hc0)).mono ?_; rintro er u1 ⟨rfl, rfl⟩)
    (try go_wp2_with fail)
    refine hK.out _ _ ?_ (fun hHeld => ?_)
    · exact hHeld.alloc _
    clear hK K
    (try simp only [Act.put, List.setIfInBounds_toArray, List.set_cons_zero, List.set_cons_succ])
    have HY := Lib.hid (Bx.new w1 (OPR.map strV).toArray 9)
    have hc1 : Below w1.heap.size w1 (w1.alloc (.cells (OPR.map strV).toArray 9)).drew := (hc0.alloc (Nat.le_refl _) _)
    have HH := Lib.hid (show Bx w.heap.size #[.int .i64 op, .int .i64 ((k : Int) + 4), .int .i64 b, .int .i64 n, .string (bs s)] 39 (w1.alloc (.cells (OPR.map strV).toArray 9)).drew from hHeld); have HC1 := Lib.hid hc1; clear hHeld hc1 hc0 HS0
    (try rw [show w1.drew.alloc (.cells (OPR.map strV).toArray 9) = (w1.alloc (.cells (OPR.map strV).toArray 9)).drew from rfl])
    generalize hW : w1.alloc (.cells (OPR.map strV).toArray 9) = u1 at HY HC1 HH ⊢
    clear hW
    have hHeld := HH.out; clear HH
    have cO : u1.drew.cell? ⟨w1.heap.size, k, none⟩ = some (.string (bs J1)) := by show u1.cell? _ = _; rw [HY.out.cell k, ← HJ1.out]; exact strs_at (by show k < 21; exact hk)
    refine takeH (i := 5) (v := ?vv11) 30 rfl rfl (by kernel_rfl) (by kernel_rfl) (by kernel_rfl) (fun _ _ _ h => h) (Or.inl ⟨by kernel_rfl, ?yy11⟩) (by assumption) ?_
    case yy11 => intro w hSw; (try dsimp only at hSw); go_simp; (try with_reducible rfl)
    simp only [List.setIfInBounds_toArray, List.set_cons_zero, List.set_cons_succ]
    refine wpAnyH_ready (rs := [6]) (by kernel_rfl) (by simp) ?_
    refine (AllReadyH.cons rfl (fun K hK => ?_) AllReadyH.nil)
    go_simp
    skip
    (try go_wp2_with fail)
    refine hK.out _ _ ?_ (fun hHeld => ?_)
    · exact hHeld
    clear hK K
    (try simp only [Act.put, List.setIfInBounds_toArray, List.set_cons_zero, List.set_cons_succ])
    refine takeH (i := 7) (v := ?vv12) 32 rfl rfl (by kernel_rfl) (by kernel_rfl) (by kernel_rfl) (fun _ _ _ h => h) (Or.inl ⟨by kernel_rfl, ?yy12⟩) (by assumption) ?_
    case yy12 => intro w hSw; (try dsimp only at hSw); go_simp; (try with_reducible rfl)
    simp only [List.setIfInBounds_toArray, List.set_cons_zero, List.set_cons_succ]
    refine wpAnyH_ready (rs := [8]) (by kernel_rfl) (by simp) ?_
    refine (AllReadyH.cons rfl (fun K hK => ?_) AllReadyH.nil)
    go_simp
    (refine (Bd.writeK b0 T0 (32 :: J1) _ (HD.out.below HC1.out) (by omega) (by simp only [List.length_cons]; omega)).mono ?_; rintro er u3 ⟨rfl, hD3, hb3, hkp⟩)
    (try go_wp2_with fail)
    refine hK.out _ _ ?_ (fun hHeld => ?_)
    · exact hkp _ _ _ (by decide) (by omega) hHeld
    clear hK K
    (try simp only [Act.put, List.setIfInBounds_toArray, List.set_cons_zero, List.set_cons_succ])
    refine wpAnyH_done (by kernel_rfl) ?_ _
    have hc2 := HC1.out
    have HX := Lib.hid hHeld; have HBF := Lib.hid ((btrans HBF.out HBF.out.size hc2).trans (hb3.mono hbF)); have HB := Lib.hid ((HB.out.trans (hc2.mono (Nat.le_of_lt HD.out.lt))).trans hb3); have HD := Lib.hid hD3; clear hb3 hc2 hHeld hkp HLV HY HC1 cO hD3
    have hJ1l : J1.length ≤ 1000 := by omega
    clear hk hk' hwk hwk2 hol ha0 ha1
    obtain ⟨T1, hT1⟩ : ∃ T, T0 ++ (32 :: J1) = T := ⟨_, rfl⟩
    rw [hT1] at HD
    have HT1 := Lib.hid hT1; clear hT1
    have hTl2 : T1.length ≤ 600000 := by rw [← HT1.out]; simp only [List.length_append, List.length_cons]; omega
    go_wp2_with fail
    refine (Bd.writeK b0 T1 ([10]) _ HD.out (by omega) (by show 1 ≤ _; omega)).mono ?_
    rintro er y16 ⟨rfl, hD16, hb16, hkp⟩
    (try clear x0 x1 x2 x3 x4)
    have HX := Lib.hid (hkp _ _ _ (by decide) (by omega) HX.out); have HBF := Lib.hid (HBF.out.trans (hb16.mono hbF)); have HB := Lib.hid (HB.out.trans hb16); have HD := Lib.hid hD16; clear hb16 hkp hD16
    go_wp2
    go_end0
    refine ⟨rfl, ?_, HB.out⟩
    have hh := HD.out
    rw [← HT1.out, ← HT0.out] at hh
    rw [HFE.out]
    simpa using hh
  · obtain ⟨hV, gA, gB, gN, gS⟩ := h
    have hfv : fv = 0 := HFV.out.symm.trans hV
    subst hfv
    clear HG
    have h5n : op ≠ 5 := grp_5 (by simp [gA, gB, gN, gS])
    have t5 : (op == 5) = false := by rw [beq_eq_false_iff_ne]; exact h5n
    have HFE := Lib.hid (show F = [] by rw [← HF.out]; exact fldT_0 h5n gA gB gN gS)
    have HGA := Lib.hid gA; have HGB := Lib.hid gB; have HGN := Lib.hid gN; have HGS := Lib.hid gS; clear gA gB gN gS hV h5n
    obtain ⟨x0, x1, x2, x3, x4⟩ := HX.out.c5
    have hTl2 : T0.length ≤ 600000 := by omega
    go_wp2_with fail
    refine (Bd.writeK b0 T0 ([10]) _ HD.out (by omega) (by show 1 ≤ _; omega)).mono ?_
    rintro er y17 ⟨rfl, hD17, hb17, hkp⟩
    (try clear x0 x1 x2 x3 x4)
    have HX := Lib.hid (hkp _ _ _ (by decide) (by omega) HX.out); have HBF := Lib.hid (HBF.out.trans (hb17.mono hbF)); have HB := Lib.hid (HB.out.trans hb17); have HD := Lib.hid hD17; clear hb17 hkp hD17
    go_wp2
    go_end0
    refine ⟨rfl, ?_, HB.out⟩
    have hh := HD.out
    rw [← HT0.out] at hh
    rw [HFE.out]
    simpa using hh
end Go.Proofs.YtkmmdkklpbafdaaGreatDoor
