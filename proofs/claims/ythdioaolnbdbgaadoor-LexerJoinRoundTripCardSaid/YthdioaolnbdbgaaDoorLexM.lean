/- The walk of LexerJoinRoundTrip. No conditions. -/
import Derived.Test.YthdioaolnbdbgaaDoorLexT
namespace Go.Proofs.YthdioaolnbdbgaaDoor
open Go.RowKit

theorem KW_len : ∀ w ∈ KW, w.length ≤ 6 := by decide
theorem val_len {x : Tk} (hv : valT x = true) (h0 : -9223372036854775808 ≤ x.n) (hn : x.n ≤ 9223372036854775807) : (txtT x).length ≤ 200 := by
  obtain ⟨k, t, n, ln⟩ := x
  unfold valT at hv
  simp only at hv h0 hn ⊢
  split at hv
  · rename_i hk; subst hk
    simp only [Bool.and_eq_true] at hv
    show t.length ≤ 200
    have h1 := hv.1
    have h2 := isNm_wlen h1
    rw [isNm_eq t h2.1] at h1
    simp only [Bool.and_eq_true, decide_eq_true_eq] at h1
    omega
  · split at hv
    · rename_i _ hk; subst hk
      simp only [Bool.and_eq_true] at hv
      have := KW_len t (of_decide_eq_true hv.1)
      show t.length ≤ 200; omega
    · split at hv
      · rename_i _ _ hk; subst hk
        show (Lib.itoa n).length ≤ 200
        have := Lib.itoa_length_le n h0 hn; omega
      · split at hv
        · rename_i _ _ _ hk; subst hk
          simp only [Bool.and_eq_true, decide_eq_true_eq] at hv
          rw [txt_4 rfl]
          show (quoL t).1.length ≤ 200
          rw [quoL_ok (by omega) hv.2.1]
          show (quoS t).length ≤ 200
          have := esc_len t
          unfold quoS; rw [List.length_cons, List.length_append, List.length_singleton]; omega
        · split at hv
          · rename_i _ _ _ _ hk; subst hk
            simp only [Bool.and_eq_true, decide_eq_true_eq] at hv
            have := (MK_len t hv.1).2
            show t.length ≤ 200; omega
          · cases hv
theorem cat_len2 (M : List Tk) (h : ∀ x ∈ M, (txtT x).length ≤ 200) : ∀ k, k ≤ M.length → (catT (M.take k)).length ≤ 201 * k := by
  intro k
  induction k with
  | zero => intro _; simp [catT]
  | succ k ih =>
    intro hk
    have hl := h M[k] (List.getElem_mem (by omega))
    rcases Nat.eq_zero_or_pos k with h0 | h0
    · subst h0; rw [cat_step0 M (by omega)]; omega
    · rw [cat_step M hk h0]; have := ih (by omega); simp only [List.length_append, List.length_singleton]; omega
theorem join_len (M : List Tk) (h : ∀ x ∈ M, TkOk x) : (joinT M).1.length ≤ 1001 * M.length := by
  have h9 := cat_len M h M.length (Nat.le_refl _)
  rw [List.take_length] at h9
  unfold joinT
  split
  · split
    · exact Nat.zero_le _
    · exact h9
  · exact Nat.zero_le _
/-- a few tokens are joined, or one of them is not valid -/
theorem join_few {M : List Tk} (hM : M.length ≤ 40) (hn : ∀ x ∈ M, -9223372036854775808 ≤ x.n ∧ x.n ≤ 9223372036854775807) (h : (joinT M).2 ≠ 0) : joinT M = ([], 1) := by
  unfold joinT at h ⊢
  by_cases h1 : M.all valT = true
  · rw [if_pos h1] at h
    have h2 := cat_len2 M (fun x hx => val_len (List.all_eq_true.1 h1 x hx) (hn x hx).1 (hn x hx).2) M.length (Nat.le_refl _)
    rw [List.take_length] at h2
    rw [if_neg (by omega)] at h; exact absurd rfl h
  · rw [if_neg h1]

set_option maxRecDepth 100000 in
set_option maxHeartbeats 16000000 in
theorem tripWalk7 (a : Option Addr) (c : Nat) (M : List Tk) {w : World} (hA : CellsAt w (.slice a M.length c) M.length (tkLs M)) (hM : M.length ≤ 8796093022208) (hx : ∀ x ∈ M, -9223372036854775808 ≤ x.n ∧ x.n ≤ 9223372036854775807) (_ : World) (hL : Laid w) :
    Calls Tryd.prog 6 #[.slice a M.length c] w fun e w' => e = .returned (.bool true) ∧ Below w.heap.size w w' := by
  have HA := Lib.hid hA; have HX := Lib.hid hx; clear hA hx
  go_enter Tryd.func6, Tryd.ntmps6
  go_wp2_with fail
  refine (small_any _ M _ HA.out hM).mono ?_
  obtain ⟨b, hb⟩ : ∃ b, smB M = b := ⟨_, rfl⟩
  rw [hb]
  rintro er w1 ⟨rfl, hb1⟩
  have HB := Lib.hid hb1; have HS := Lib.hid hb; clear hb hb1
  cases b with
  | false =>
    go_wp2_with fail
    refine (lives_any _ (hL.below HB.out)).mono ?_
    rintro er wz ⟨rfl, hbz⟩
    go_wp2
    go_ret
    exact ⟨rfl, btrans HB.out HB.out.size hbz⟩
  | true =>
    obtain ⟨hM40, ht200⟩ := of_decide_eq_true (show decide (M.length ≤ 40 ∧ ∀ x ∈ M, x.t.length ≤ 200) = true from HS.out)
    have HTK := Lib.hid (show ∀ x ∈ M, TkOk x from fun x h => ⟨by have := ht200 x h; omega, HX.out x h⟩)
    clear ht200
    obtain ⟨⟨T, e⟩, hj⟩ : ∃ r, joinT M = r := ⟨_, rfl⟩
    have hfew := join_few (M := M) hM40 HX.out
    have htrip := join_trip (M := M) (fun x h => (HX.out x h).2)
    have htl : T.length ≤ 100000 := by have h9 := join_len M HTK.out; rw [hj] at h9; exact Nat.le_trans h9 (by omega)
    rw [hj] at hfew htrip
    simp only at hfew htrip
    have HJ := Lib.hid hj; have HF := Lib.hid hfew; have HT := Lib.hid htrip; clear hj hfew htrip
    go_wp2_with fail
    refine (Join_any _ M _ (HA.out.below HB.out) (by omega) HTK.out (hL.below HB.out)).mono ?_
    rw [HJ.out]
    rintro er w2 ⟨rfl, hb1⟩
    have HB := Lib.hid (btrans HB.out HB.out.size hb1); clear hb1
    by_cases he : e = 0
    rotate_left
    · have te : (e != 0) = true := by rw [bne_iff_ne]; exact he
      have hq := HF.out he
      have hq1 : T = [] := congrArg Prod.fst hq
      have hq2 : e = 1 := congrArg Prod.snd hq
      subst hq1
      subst hq2
      clear hq he
      go_wp2_with fail
      refine (lives_any _ (hL.below HB.out)).mono ?_
      rintro er wz ⟨rfl, hbz⟩
      go_wp2
      go_ret
      exact ⟨rfl, btrans HB.out HB.out.size hbz⟩
    have te : (e != 0) = false := by rw [he]; rfl
    have HT := Lib.hid (HT.out he)
    subst he
    go_wp2_with fail
    refine (Tokenize_any T (by omega) _ (hL.below HB.out)).mono ?_
    rw [HT.out]
    rintro er w3 ⟨v3, rfl, hc3, hb1⟩
    have hml : (M.map at1).length = M.length := by rw [List.length_map]
    rw [hml] at hc3
    obtain ⟨v3a, v3c, rfl, -⟩ := id hc3
    have HC := Lib.hid hc3; have HB := Lib.hid (btrans HB.out HB.out.size hb1); have HML := Lib.hid hml; clear hc3 hb1 hml
    have q0 : ((M.length : Int) != (M.length : Int)) = false := by simp
    go_wp2
    all_goals (try exact True.intro)
    go_loopw [8] (fun i wr => ∃ k : Nat, k ≤ M.length ∧ i = .int .i64 k ∧ Below w3.heap.size w3 wr) (fun i _ => M.length - (intOf i).toNat)
    case atStart => exact ⟨0, Nat.zero_le _, rfl, Below.refl _ _⟩
    case round =>
      obtain ⟨k, hk, rfl, hX⟩ := hrel
      have HX3 := Lib.hid hX; clear hX
      have HBr := Lib.hid (btrans HB.out HB.out.size HX3.out)
      by_cases hlt : k < M.length
      · have hlt' : (k : Int) < (M.length : Int) := by omega
        have hw1 : IntKind.i64.wrap ((k : Int) + 1) = (k : Int) + 1 := by rw [IntKind.wrap_i64]; omega
        obtain ⟨ba, oa, rfl, p0, p1, p2, p3⟩ := tok_cells (HA.out.below HBr.out) hlt
        have hkm : k < (M.map at1).length := by rw [HML.out]; exact hlt
        have hc9 : CellsAt wr (.slice v3a (M.map at1).length v3c) (M.map at1).length (tkLs (M.map at1)) := by rw [HML.out]; exact HC.out.below HX3.out
        obtain ⟨bb, ob, hvb, r0, r1, r2, r3⟩ := tok_cells hc9 hkm
        subst hvb
        have hmk : (M.map at1)[k] = at1 M[k] := by simp
        obtain ⟨⟨xk, xt, xn, xl⟩, hxe⟩ : ∃ x, M[k] = x := ⟨_, rfl⟩
        rw [hmk, hxe] at r0 r1 r2 r3
        rw [hxe] at p0 p1 p2 p3
        simp only [at1] at p0 p1 p2 p3 r0 r1 r2 r3
        have HXE := Lib.hid hxe; clear hxe hmk hc9
        have HR := Lib.hid (show (wr.cell? ⟨bb, ob + k * 4, none⟩ = some (.int .i64 xk) ∧ wr.cell? ⟨bb, ob + k * 4 + 1, none⟩ = some (.string (bs xt)) ∧ wr.cell? ⟨bb, ob + k * 4 + 2, none⟩ = some (.int .i64 xn) ∧ wr.cell? ⟨bb, ob + k * 4 + 3, none⟩ = some (.int .i64 1)) ∧ bb < wr.heap.size from ⟨⟨r0, r1, r2, r3⟩, World.block_lt_of_cell? wr _ r0⟩); clear r0 r1 r2 r3
        have hal := (Below.refl wr.heap.size wr).alloc (Nat.le_refl _) (.cells #[.int .i64 xk, .string (bs xt), .int .i64 xn, .int .i64 xl] 37)
        have HCb := Lib.hid hal; have HY := Lib.hid (Bx.new wr #[.int .i64 xk, .string (bs xt), .int .i64 xn, .int .i64 xl] 37); clear hal
        go_upto_region 13 with (fail)
        clear p0 p1 p2 p3
        generalize hW : wr.alloc (.cells #[.int .i64 xk, .string (bs xt), .int .i64 xn, .int .i64 xl] 37) = v1 at HCb HY ⊢
        clear hW
        have y0 : v1.cell? ⟨wr.heap.size, 0, none⟩ = some (.int .i64 xk) := HY.out.cell 0
        have y1 : v1.cell? ⟨wr.heap.size, 1, none⟩ = some (.string (bs xt)) := HY.out.cell 1
        have y2 : v1.cell? ⟨wr.heap.size, 2, none⟩ = some (.int .i64 xn) := HY.out.cell 2
        have y3 : v1.cell? ⟨wr.heap.size, 3, none⟩ = some (.int .i64 xl) := HY.out.cell 3
        have z0 := HY.out.free 0
        have z1 := HY.out.free 1
        have z2 := HY.out.free 2
        have z3 := HY.out.free 3
        have HY2 := Lib.hid (HY.out.store4_3 (.int .i64 1)); have HC2 := Lib.hid (below_set HCb.out wr.heap.size 3 (Nat.le_refl _) (.int .i64 1))
        go_upto_region 14 with (fail)
        clear y0 y1 y2 y3
        clear z0 z1 z2 z3
        clear HY HCb
        generalize hWE : v1.setCell ⟨wr.heap.size, 3, none⟩ (.int .i64 1) = v3 at HY2 HC2 ⊢
        clear hWE
        have hs0 : v3.drew.cell? ⟨bb, ob + k * 4, none⟩ = some (.int .i64 xk) ∧ v3.drew.cell? ⟨bb, ob + k * 4 + 1, none⟩ = some (.string (bs xt)) ∧ v3.drew.cell? ⟨bb, ob + k * 4 + 2, none⟩ = some (.int .i64 xn) ∧ v3.drew.cell? ⟨bb, ob + k * 4 + 3, none⟩ = some (.int .i64 1) ∧ v3.drew.cell? ⟨wr.heap.size, 0, none⟩ = some (.int .i64 xk) ∧ v3.drew.cell? ⟨wr.heap.size, 1, none⟩ = some (.string (bs xt)) ∧ v3.drew.cell? ⟨wr.heap.size, 2, none⟩ = some (.int .i64 xn) ∧ v3.drew.cell? ⟨wr.heap.size, 3, none⟩ = some (.int .i64 1) := ⟨(cell1_below HR.out.1.1 HC2.out.drew), (cell1_below HR.out.1.2.1 HC2.out.drew), (cell1_below HR.out.1.2.2.1 HC2.out.drew), (cell1_below HR.out.1.2.2.2 HC2.out.drew), HY2.out.cell 0, HY2.out.cell 1, HY2.out.cell 2, HY2.out.cell 3⟩
        have HS0 := Lib.hid hs0; clear hs0
        have e0 : (xk == xk) = true := by simp
        have e1 : (xt == xt) = true := by simp
        have e2 : (xn == xn) = true := by simp
        go_wp2_with fail
        refine wp_region_held_drew (S := (fun w' => w'.cell? ⟨bb, ob + k * 4, none⟩ = some (.int .i64 xk) ∧ w'.cell? ⟨bb, ob + k * 4 + 1, none⟩ = some (.string (bs xt)) ∧ w'.cell? ⟨bb, ob + k * 4 + 2, none⟩ = some (.int .i64 xn) ∧ w'.cell? ⟨bb, ob + k * 4 + 3, none⟩ = some (.int .i64 1) ∧ w'.cell? ⟨wr.heap.size, 0, none⟩ = some (.int .i64 xk) ∧ w'.cell? ⟨wr.heap.size, 1, none⟩ = some (.string (bs xt)) ∧ w'.cell? ⟨wr.heap.size, 2, none⟩ = some (.int .i64 xn) ∧ w'.cell? ⟨wr.heap.size, 3, none⟩ = some (.int .i64 1))) (by kernel_rfl) ?_ (fun hHeld => ?_)
        · exact HS0.out
        refine takeH (i := 0) (v := ?vv1) 60 rfl rfl (by kernel_rfl) (by kernel_rfl) (by kernel_rfl) (fun _ _ _ h => h) (Or.inl ⟨by kernel_rfl, ?yy1⟩) (by assumption) ?_
        case yy1 => intro w hSw; (try dsimp only at hSw); go_simp; (try with_reducible rfl)
        simp only [List.setIfInBounds_toArray, List.set_cons_zero, List.set_cons_succ]
        refine takeH (i := 1) (v := ?vv2) 61 rfl rfl (by kernel_rfl) (by kernel_rfl) (by kernel_rfl) (fun _ _ _ h => h) (Or.inl ⟨by kernel_rfl, ?yy2⟩) (by assumption) ?_
        case yy2 => intro w hSw; (try dsimp only at hSw); go_simp; (try with_reducible rfl)
        simp only [List.setIfInBounds_toArray, List.set_cons_zero, List.set_cons_succ]
        refine takeH (i := 2) (v := ?vv3) 62 rfl rfl (by kernel_rfl) (by kernel_rfl) (by kernel_rfl) (fun _ _ _ h => h) (Or.inl ⟨by kernel_rfl, ?yy3⟩) (by assumption) ?_
        case yy3 => intro w hSw; (try dsimp only at hSw); go_simp; (try with_reducible rfl)
        simp only [List.setIfInBounds_toArray, List.set_cons_zero, List.set_cons_succ]
        refine takeH (i := 3) (v := ?vv4) 63 rfl rfl (by kernel_rfl) (by kernel_rfl) (by kernel_rfl) (fun _ _ _ h => h) (Or.inl ⟨by kernel_rfl, ?yy4⟩) (by assumption) ?_
        case yy4 =>
          intro wq hSw
          obtain ⟨z0, z1, z2, z3, z4, z5, z6, z7⟩ := hSw
          go_simp
          (try with_reducible rfl)
        simp only [List.setIfInBounds_toArray, List.set_cons_zero, List.set_cons_succ]
        refine takeH (i := 4) (v := ?vv5) 64 rfl rfl (by kernel_rfl) (by kernel_rfl) (by kernel_rfl) (fun _ _ _ h => h) (Or.inl ⟨by kernel_rfl, ?yy5⟩) (by assumption) ?_
        case yy5 =>
          intro wq hSw
          obtain ⟨z0, z1, z2, z3, z4, z5, z6, z7⟩ := hSw
          go_simp
          (try with_reducible rfl)
        simp only [List.setIfInBounds_toArray, List.set_cons_zero, List.set_cons_succ]
        refine takeH (i := 5) (v := ?vv6) 65 rfl rfl (by kernel_rfl) (by kernel_rfl) (by kernel_rfl) (fun _ _ _ h => h) (Or.inl ⟨by kernel_rfl, ?yy6⟩) (by assumption) ?_
        case yy6 => intro w hSw; (try dsimp only at hSw); go_simp; (try with_reducible rfl)
        simp only [List.setIfInBounds_toArray, List.set_cons_zero, List.set_cons_succ]
        refine wpAnyH_done (by kernel_rfl) ?_ _
        have HBN := Lib.hid (btrans HX3.out HX3.out.size (btrans HC2.out HC2.out.size (Below.refl v3.heap.size v3).drew))
        go_wp2
        go_roundw
        case rel => exact ⟨k + 1, by omega, by go_num, HBN.out⟩
        case measure => simp [intOf]; omega
      · have hlt' : ¬ (k : Int) < (M.length : Int) := by omega
        go_wp2_with fail
        refine (lives_any _ (hL.below HBr.out)).mono ?_
        rintro er wz ⟨rfl, hbz⟩
        go_wp2
        go_ret
        exact ⟨rfl, btrans HBr.out HBr.out.size hbz⟩
end Go.Proofs.YthdioaolnbdbgaaDoor
