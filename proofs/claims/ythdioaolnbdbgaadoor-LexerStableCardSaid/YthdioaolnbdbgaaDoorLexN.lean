/- The walk of LexerStable. No conditions. -/
import Derived.Test.YthdioaolnbdbgaaDoorLexU
namespace Go.Proofs.YthdioaolnbdbgaaDoor
open Go.RowKit

theorem tk_tlen (B : Nat) : ∀ (n : Nat) (s : List UInt8) (ln : Int) (L : List Tk), s.length ≤ n → s.length ≤ B → (∀ x ∈ L, x.t.length ≤ B) → ∀ x ∈ (tk s ln L).1, x.t.length ≤ B := by
  intro n
  induction n with
  | zero => intro s ln L hs _ hL; have : s = [] := List.eq_nil_of_length_eq_zero (by omega)
            subst this; exact hL
  | succ n ih =>
    intro s ln L hs hB hL
    cases s with
    | nil => exact hL
    | cons c q =>
      rw [List.length_cons] at hs hB
      rw [tk_cons]
      split
      · exact ih q _ L (by omega) (by omega) hL
      · split
        · exact ih q _ L (by omega) (by omega) hL
        · split
          · have hl := (List.dropWhile_suffix (l := q) fun x => x != 10).length_le
            exact ih _ _ L (by omega) (by omega) hL
          · split
            · rename_i h4
              have h5 := tokS_len (c :: q)
              have hb := h5.2 h4
              have hdl : ((c :: q).drop (tokS (c :: q)).2.1).length = q.length + 1 - (tokS (c :: q)).2.1 := by rw [List.length_drop, List.length_cons]
              refine ih _ _ _ (by omega) (by omega) ?_
              intro y hy
              rcases List.mem_append.1 hy with hy | hy
              · exact hL y hy
              · rw [List.mem_singleton] at hy; subst hy; have := h5.1; rw [List.length_cons] at this; exact Nat.le_trans this hB
            · intro x hx; simp at hx
theorem tok_tlen {s : List UInt8} {M : List Tk} {r e : Int} (hs : s.length ≤ 600) (h : tokenS s = (M, r, e)) : ∀ x ∈ M, x.t.length ≤ 600 := by
  rw [tokenS_tk (by omega)] at h
  have := tk_tlen 600 s.length s 1 [] (Nat.le_refl _) hs (by simp)
  rw [h] at this; exact this
set_option maxRecDepth 100000 in
set_option maxHeartbeats 16000000 in
theorem stableWalk (l : List UInt8) (hl : l.length ≤ 140737488351232) (w : World) (hL : Laid w) :
    Calls Tryd.prog 8 #[.string (bs l)] w fun e w' => e = .returned (.bool true) ∧ Below w.heap.size w w' := by
  by_cases h6 : (600 : Int) < (l.length : Int)
  · skip
    go_enter Tryd.func8, Tryd.ntmps8
    go_wp2_with fail
    refine (lives_any _ hL).mono ?_
    rintro er wz ⟨rfl, hbz⟩
    go_wp2
    go_ret
    exact ⟨rfl, hbz⟩
  have hl6 : l.length ≤ 600 := by omega
  have hl7 : l.length ≤ 9223372036854775807 := by omega
  obtain ⟨M, rl, re, hr⟩ : ∃ T a b, tokenS l = (T, a, b) := ⟨_, _, _, rfl⟩
  by_cases he : re = 0
  rotate_left
  · have te : (re != 0) = true := by rw [bne_iff_ne]; exact he
    have hM := stable_err hl6 hr he
    subst hM
    have HR := Lib.hid hr; have HE := Lib.hid he; clear hr he
    have HB := Lib.hid (Below.refl w.heap.size w)
    go_enter Tryd.func8, Tryd.ntmps8
    go_wp2_with fail
    refine (Tokenize_any l hl7 _ hL).mono ?_
    rw [HR.out]
    rintro er w1 ⟨v1, rfl, hc1, hb1⟩
    have HB := Lib.hid (btrans HB.out HB.out.size hb1)
    obtain ⟨v1a, v1c, rfl, -⟩ := id hc1
    clear hc1 hb1
    go_wp2_with fail
    refine (lives_any _ (hL.below HB.out)).mono ?_
    rintro er wz ⟨rfl, hbz⟩
    go_wp2
    go_ret
    exact ⟨rfl, btrans HB.out HB.out.size hbz⟩
  have te : (re != 0) = false := by rw [he]; rfl
  subst he
  obtain ⟨hv, hasc, hM6, hj, hcl, htr⟩ := stable_ok hl6 hr
  have HTK := Lib.hid (show ∀ x ∈ M, TkOk x from fun x hx => ⟨by have := tok_tlen hl6 hr x hx; omega, by have := hv x hx; omega, (hv x hx).2.2.1⟩)
  have hcl7 : (catT M).length ≤ 9223372036854775807 := by omega
  obtain ⟨T, hT⟩ : ∃ T, catT M = T := ⟨_, rfl⟩
  rw [hT] at hj hcl htr hcl7
  have hml : (M.map at1).length = M.length := by rw [List.length_map]
  have HR := Lib.hid hr; have HV := Lib.hid hv; have HAS := Lib.hid hasc; have HJ := Lib.hid hj; have HT := Lib.hid htr; have HTT := Lib.hid hT; have HML := Lib.hid hml; clear hr hv hasc hj htr hT hml
  have HB := Lib.hid (Below.refl w.heap.size w)
  go_enter Tryd.func8, Tryd.ntmps8
  go_wp2_with fail
  refine (Tokenize_any l hl7 _ hL).mono ?_
  rw [HR.out]
  rintro er w1 ⟨v1, rfl, hc1, hb1⟩
  have HB := Lib.hid (btrans HB.out HB.out.size hb1)
  obtain ⟨v1a, v1c, rfl, -⟩ := id hc1
  have HC1 := Lib.hid hc1; clear hc1 hb1
  go_wp2_with fail
  refine (Join_any _ M _ HC1.out (by omega) HTK.out (hL.below HB.out)).mono ?_
  rw [HJ.out]
  rintro er w2 ⟨rfl, hb1⟩
  have HC1 := Lib.hid (HC1.out.below hb1); have HB := Lib.hid (btrans HB.out HB.out.size hb1); clear hb1
  go_wp2_with fail
  refine (Tokenize_any T hcl7 _ (hL.below HB.out)).mono ?_
  rw [HT.out]
  rintro er w3 ⟨v3, rfl, hc3, hb1⟩
  rw [HML.out] at hc3
  obtain ⟨v3a, v3c, rfl, -⟩ := id hc3
  have HC1 := Lib.hid (HC1.out.below hb1); have HC := Lib.hid hc3; have HB := Lib.hid (btrans HB.out HB.out.size hb1); clear hc3 hb1
  have q0 : ((M.length : Int) != (M.length : Int)) = false := by simp
  go_wp2
  all_goals (try exact True.intro)
  go_loopw [11] (fun i wr => ∃ k : Nat, k ≤ M.length ∧ i = .int .i64 k ∧ Below w3.heap.size w3 wr) (fun i _ => M.length - (intOf i).toNat)
  case atStart => exact ⟨0, Nat.zero_le _, rfl, Below.refl _ _⟩
  case round =>
    obtain ⟨k, hk, rfl, hX⟩ := hrel
    have HX3 := Lib.hid hX; clear hX
    have HBr := Lib.hid (btrans HB.out HB.out.size HX3.out)
    by_cases hlt : k < M.length
    · have hlt' : (k : Int) < (M.length : Int) := by omega
      have hw1 : IntKind.i64.wrap ((k : Int) + 1) = (k : Int) + 1 := by rw [IntKind.wrap_i64]; omega
      have hvk := HV.out M[k] (List.getElem_mem hlt)
      obtain ⟨⟨xk, xt, xn, xl⟩, hxe⟩ : ∃ x, M[k] = x := ⟨_, rfl⟩
      rw [hxe] at hvk
      obtain ⟨hv1, -, -, hv4, hv5⟩ := hvk
      simp only at hv4 hv5
      have HV1 := Lib.hid hv1; have HXE := Lib.hid hxe; clear hv1 hxe
      have htl : xt.length ≤ 1000000 := by have := (HTK.out M[k] (List.getElem_mem hlt)).1; rw [HXE.out] at this; simp only at this; omega
      obtain ⟨ba, oa, hva, p0, p1, p2, p3⟩ := tok_cells (HC1.out.below HX3.out) hlt
      subst hva
      rw [HXE.out] at p0 p1 p2 p3
      simp only at p0 p1 p2 p3
      have hkm : k < (M.map at1).length := by rw [HML.out]; exact hlt
      have hc9 : CellsAt wr (.slice v3a (M.map at1).length v3c) (M.map at1).length (tkLs (M.map at1)) := by rw [HML.out]; exact HC.out.below HX3.out
      obtain ⟨bb, ob, hvb, r0, r1, r2, r3⟩ := tok_cells hc9 hkm
      subst hvb
      have hmk : (M.map at1)[k] = at1 M[k] := by simp
      rw [hmk, HXE.out] at r0 r1 r2 r3
      simp only [at1] at r0 r1 r2 r3
      clear hmk hc9 hkm r3
      have g1 : decide (xl < 1) = false := by rw [decide_eq_false]; omega
      have e0 : (xk != xk) = false := by simp
      have e1 : (xt != xt) = false := by simp
      have e2 : (xn != xn) = false := by simp
      have d0 : (xk == xk) = true := by simp
      have d1 : (xt == xt) = true := by simp
      have d2 : (xn == xn) = true := by simp
      by_cases h0 : 0 < k
      · have h0i : decide ((0 : Int) < (k : Int)) = true := by rw [decide_eq_true]; omega
        obtain ⟨j, hj⟩ : ∃ j, j + 1 = k := ⟨k - 1, by omega⟩
        have hjl : j < M.length := by omega
        have hjl' : (j : Int) < (M.length : Int) := by omega
        have hwj : IntKind.i64.wrap ((k : Int) - 1) = (j : Int) := by rw [IntKind.wrap_i64]; omega
        have hkj : (k : Int) - 1 = (j : Int) := by omega
        have hwj2 : IntKind.i64.wrap (j : Int) = (j : Int) := by rw [IntKind.wrap_i64]; omega
        have has : M[j].ln ≤ xl := by have h9 := HAS.out j (by omega); have h8 := HXE.out; subst hj; rw [h8] at h9; exact h9
        have HJJ := Lib.hid hj; clear hj
        obtain ⟨ba3, oa3, hva, -, -, -, s3⟩ := tok_cells (HC1.out.below HX3.out) hjl
        obtain ⟨rfl, rfl⟩ : ba = ba3 ∧ oa = oa3 := by simp at hva; exact hva
        clear hva
        obtain ⟨yl, hyl⟩ : ∃ y, M[j].ln = y := ⟨_, rfl⟩
        rw [hyl] at s3 has
        clear hyl
        have g2 : decide (xl < yl) = false := by rw [decide_eq_false]; omega
        have hs0 : wr.drew.cell? ⟨ba, oa + k * 4, none⟩ = some (.int .i64 xk) ∧ wr.drew.cell? ⟨ba, oa + k * 4 + 1, none⟩ = some (.string (bs xt)) ∧ wr.drew.cell? ⟨ba, oa + k * 4 + 2, none⟩ = some (.int .i64 xn) ∧ wr.drew.cell? ⟨ba, oa + k * 4 + 3, none⟩ = some (.int .i64 xl) ∧ wr.drew.cell? ⟨bb, ob + k * 4, none⟩ = some (.int .i64 xk) ∧ wr.drew.cell? ⟨bb, ob + k * 4 + 1, none⟩ = some (.string (bs xt)) ∧ wr.drew.cell? ⟨bb, ob + k * 4 + 2, none⟩ = some (.int .i64 xn) ∧ wr.drew.cell? ⟨ba, oa + j * 4 + 3, none⟩ = some (.int .i64 yl) := ⟨p0, p1, p2, p3, r0, r1, r2, s3⟩
        have HS0 := Lib.hid hs0; clear hs0 p0 p1 p2 p3 r0 r1 r2 s3
        go_upto_region 13 with (fail)
        go_wp2_with fail
        refine wp_region_held_drew (S := (fun w' => w'.cell? ⟨ba, oa + k * 4, none⟩ = some (.int .i64 xk) ∧ w'.cell? ⟨ba, oa + k * 4 + 1, none⟩ = some (.string (bs xt)) ∧ w'.cell? ⟨ba, oa + k * 4 + 2, none⟩ = some (.int .i64 xn) ∧ w'.cell? ⟨ba, oa + k * 4 + 3, none⟩ = some (.int .i64 xl) ∧ w'.cell? ⟨bb, ob + k * 4, none⟩ = some (.int .i64 xk) ∧ w'.cell? ⟨bb, ob + k * 4 + 1, none⟩ = some (.string (bs xt)) ∧ w'.cell? ⟨bb, ob + k * 4 + 2, none⟩ = some (.int .i64 xn) ∧ w'.cell? ⟨ba, oa + j * 4 + 3, none⟩ = some (.int .i64 yl))) (by kernel_rfl) ?_ (fun hHeld => ?_)
        · exact HS0.out
        refine takeH (i := 0) (v := ?vv1) 60 rfl rfl (by kernel_rfl) (by kernel_rfl) (by kernel_rfl) (fun _ _ _ h => h) (Or.inl ⟨by kernel_rfl, ?yy1⟩) (by assumption) ?_
        case yy1 => intro w hSw; (try dsimp only at hSw); go_simp; (try with_reducible rfl)
        simp only [List.setIfInBounds_toArray, List.set_cons_zero, List.set_cons_succ]
        refine takeH (i := 1) (v := ?vv2) 61 rfl rfl (by kernel_rfl) (by kernel_rfl) (by kernel_rfl) (fun _ _ _ h => h) (Or.inl ⟨by kernel_rfl, ?yy2⟩) (by assumption) ?_
        case yy2 => intro w hSw; (try dsimp only at hSw); go_simp; (try with_reducible rfl)
        simp only [List.setIfInBounds_toArray, List.set_cons_zero, List.set_cons_succ]
        refine takeH (i := 2) (v := ?vv3) 62 rfl rfl (by kernel_rfl) (by kernel_rfl) (by kernel_rfl) (fun _ _ _ h => h) (Or.inl ⟨by kernel_rfl, ?yy3⟩) (by assumption) ?_
        case yy3 => intro w hSw; (try dsimp only at hSw); go_simp; (try with_reducible rfl)
        simp only [List.setIfInBounds_toArray, List.set_cons_zero, List.set_cons_succ]
        refine takeH (i := 3) (v := ?vv4) 63 rfl rfl (by kernel_rfl) (by kernel_rfl) (by kernel_rfl) (fun _ _ _ h => h) (Or.inl ⟨by kernel_rfl, ?yy4⟩) (by assumption) ?_
        case yy4 =>
          intro wq hSw
          obtain ⟨z0, z1, z2, z3, z4, z5, z6, z7⟩ := hSw
          go_simp
          (try with_reducible rfl)
        simp only [List.setIfInBounds_toArray, List.set_cons_zero, List.set_cons_succ]
        have hcl := fun W => RLValid_any ⟨xk, xt, xn, xl⟩ htl W
        simp only [tkV] at hcl
        refine wpAnyH_ready (rs := [4]) (by kernel_rfl) (by simp) ?_
        refine (AllReadyH.cons rfl (fun K hK => ?_) AllReadyH.nil)
        go_simp
        (refine (hcl _).mono ?_; rw [HV1.out]; rintro er w5 ⟨rfl, hb1⟩)
        (try go_wp2_with fail)
        refine hK.out _ _ ?_ (fun hHeld => ?_)
        · exact ⟨cell1_below hHeld.1 hb1, cell1_below hHeld.2.1 hb1, cell1_below hHeld.2.2.1 hb1, cell1_below hHeld.2.2.2.1 hb1, cell1_below hHeld.2.2.2.2.1 hb1, cell1_below hHeld.2.2.2.2.2.1 hb1, cell1_below hHeld.2.2.2.2.2.2.1 hb1, cell1_below hHeld.2.2.2.2.2.2.2 hb1⟩
        clear hK K
        (try simp only [Act.put, List.setIfInBounds_toArray, List.set_cons_zero, List.set_cons_succ])
        clear hcl
        refine takeH (i := 5) (v := ?vv5) 65 rfl rfl (by kernel_rfl) (by kernel_rfl) (by kernel_rfl) (fun _ _ _ h => h) (Or.inl ⟨by kernel_rfl, ?yy5⟩) (by assumption) ?_
        case yy5 => intro w hSw; (try dsimp only at hSw); go_simp; (try with_reducible rfl)
        simp only [List.setIfInBounds_toArray, List.set_cons_zero, List.set_cons_succ]
        refine takeH (i := 6) (v := ?vv6) 66 rfl rfl (by kernel_rfl) (by kernel_rfl) (by kernel_rfl) (fun _ _ _ h => h) (Or.inl ⟨by kernel_rfl, ?yy6⟩) (by assumption) ?_
        case yy6 => intro w hSw; (try dsimp only at hSw); go_simp; (try with_reducible rfl)
        simp only [List.setIfInBounds_toArray, List.set_cons_zero, List.set_cons_succ]
        refine takeH (i := 7) (v := ?vv7) 67 rfl rfl (by kernel_rfl) (by kernel_rfl) (by kernel_rfl) (fun _ _ _ h => h) (Or.inl ⟨by kernel_rfl, ?yy7⟩) (by assumption) ?_
        case yy7 => intro w hSw; (try dsimp only at hSw); go_simp; (try with_reducible rfl)
        simp only [List.setIfInBounds_toArray, List.set_cons_zero, List.set_cons_succ]
        refine takeH (i := 8) (v := ?vv8) 68 rfl rfl (by kernel_rfl) (by kernel_rfl) (by kernel_rfl) (fun _ _ _ h => h) (Or.inl ⟨by kernel_rfl, ?yy8⟩) (by assumption) ?_
        case yy8 => intro w hSw; (try dsimp only at hSw); go_simp; (try with_reducible rfl)
        simp only [List.setIfInBounds_toArray, List.set_cons_zero, List.set_cons_succ]
        refine takeH (i := 9) (v := ?vv9) 69 rfl rfl (by kernel_rfl) (by kernel_rfl) (by kernel_rfl) (fun _ _ _ h => h) (Or.inl ⟨by kernel_rfl, ?yy9⟩) (by assumption) ?_
        case yy9 => intro w hSw; (try dsimp only at hSw); go_simp; (try with_reducible rfl)
        simp only [List.setIfInBounds_toArray, List.set_cons_zero, List.set_cons_succ]
        refine takeH (i := 10) (v := ?vv10) 70 rfl rfl (by kernel_rfl) (by kernel_rfl) (by kernel_rfl) (fun _ _ _ h => h) (Or.inl ⟨by kernel_rfl, ?yy10⟩) (by assumption) ?_
        case yy10 => intro w hSw; (try dsimp only at hSw); go_simp; (try with_reducible rfl)
        simp only [List.setIfInBounds_toArray, List.set_cons_zero, List.set_cons_succ]
        refine takeH (i := 11) (v := ?vv11) 71 rfl rfl (by kernel_rfl) (by kernel_rfl) (by kernel_rfl) (fun _ _ _ h => h) (Or.inl ⟨by kernel_rfl, ?yy11⟩) (by assumption) ?_
        case yy11 =>
          intro wq hSw
          obtain ⟨z0, z1, z2, z3, z4, z5, z6, z7⟩ := hSw
          go_simp
          (try with_reducible rfl)
        simp only [List.setIfInBounds_toArray, List.set_cons_zero, List.set_cons_succ]
        refine takeH (i := 12) (v := ?vv12) 72 rfl rfl (by kernel_rfl) (by kernel_rfl) (by kernel_rfl) (fun _ _ _ h => h) (Or.inl ⟨by kernel_rfl, ?yy12⟩) (by assumption) ?_
        case yy12 => intro w hSw; (try dsimp only at hSw); go_simp; (try with_reducible rfl)
        simp only [List.setIfInBounds_toArray, List.set_cons_zero, List.set_cons_succ]
        refine takeH (i := 13) (v := ?vv13) 73 rfl rfl (by kernel_rfl) (by kernel_rfl) (by kernel_rfl) (fun _ _ _ h => h) (Or.inl ⟨by kernel_rfl, ?yy13⟩) (by assumption) ?_
        case yy13 => intro w hSw; (try dsimp only at hSw); go_simp; (try with_reducible rfl)
        simp only [List.setIfInBounds_toArray, List.set_cons_zero, List.set_cons_succ]
        refine takeH (i := 14) (v := ?vv14) 74 rfl rfl (by kernel_rfl) (by kernel_rfl) (by kernel_rfl) (fun _ _ _ h => h) (Or.inl ⟨by kernel_rfl, ?yy14⟩) (by assumption) ?_
        case yy14 => intro w hSw; (try dsimp only at hSw); go_simp; (try with_reducible rfl)
        simp only [List.setIfInBounds_toArray, List.set_cons_zero, List.set_cons_succ]
        refine takeH (i := 15) (v := ?vv15) 75 rfl rfl (by kernel_rfl) (by kernel_rfl) (by kernel_rfl) (fun _ _ _ h => h) (Or.inl ⟨by kernel_rfl, ?yy15⟩) (by assumption) ?_
        case yy15 => intro w hSw; (try dsimp only at hSw); go_simp; (try with_reducible rfl)
        simp only [List.setIfInBounds_toArray, List.set_cons_zero, List.set_cons_succ]
        refine takeH (i := 16) (v := ?vv16) 76 rfl rfl (by kernel_rfl) (by kernel_rfl) (by kernel_rfl) (fun _ _ _ h => h) (Or.inl ⟨by kernel_rfl, ?yy16⟩) (by assumption) ?_
        case yy16 => intro w hSw; (try dsimp only at hSw); go_simp; (try with_reducible rfl)
        simp only [List.setIfInBounds_toArray, List.set_cons_zero, List.set_cons_succ]
        refine takeH (i := 17) (v := ?vv17) 77 rfl rfl (by kernel_rfl) (by kernel_rfl) (by kernel_rfl) (fun _ _ _ h => h) (Or.inl ⟨by kernel_rfl, ?yy17⟩) (by assumption) ?_
        case yy17 => intro w hSw; (try dsimp only at hSw); go_simp; (try with_reducible rfl)
        simp only [List.setIfInBounds_toArray, List.set_cons_zero, List.set_cons_succ]
        refine takeH (i := 18) (v := ?vv18) 78 rfl rfl (by kernel_rfl) (by kernel_rfl) (by kernel_rfl) (fun _ _ _ h => h) (Or.inl ⟨by kernel_rfl, ?yy18⟩) (by assumption) ?_
        case yy18 => intro w hSw; (try dsimp only at hSw); go_simp; (try with_reducible rfl)
        simp only [List.setIfInBounds_toArray, List.set_cons_zero, List.set_cons_succ]
        refine takeH (i := 19) (v := ?vv19) 79 rfl rfl (by kernel_rfl) (by kernel_rfl) (by kernel_rfl) (fun _ _ _ h => h) (Or.inl ⟨by kernel_rfl, ?yy19⟩) (by assumption) ?_
        case yy19 => intro w hSw; (try dsimp only at hSw); go_simp; (try with_reducible rfl)
        simp only [List.setIfInBounds_toArray, List.set_cons_zero, List.set_cons_succ]
        refine takeH (i := 20) (v := ?vv20) 80 rfl rfl (by kernel_rfl) (by kernel_rfl) (by kernel_rfl) (fun _ _ _ h => h) (Or.inl ⟨by kernel_rfl, ?yy20⟩) (by assumption) ?_
        case yy20 => intro w hSw; (try dsimp only at hSw); go_simp; (try with_reducible rfl)
        simp only [List.setIfInBounds_toArray, List.set_cons_zero, List.set_cons_succ]
        refine takeH (i := 21) (v := ?vv21) 81 rfl rfl (by kernel_rfl) (by kernel_rfl) (by kernel_rfl) (fun _ _ _ h => h) (Or.inl ⟨by kernel_rfl, ?yy21⟩) (by assumption) ?_
        case yy21 => intro w hSw; (try dsimp only at hSw); go_simp; (try with_reducible rfl)
        simp only [List.setIfInBounds_toArray, List.set_cons_zero, List.set_cons_succ]
        refine takeH (i := 22) (v := ?vv22) 82 rfl rfl (by kernel_rfl) (by kernel_rfl) (by kernel_rfl) (fun _ _ _ h => h) (Or.inl ⟨by kernel_rfl, ?yy22⟩) (by assumption) ?_
        case yy22 =>
          intro wq hSw
          obtain ⟨z0, z1, z2, z3, z4, z5, z6, z7⟩ := hSw
          go_simp
          (try with_reducible rfl)
        simp only [List.setIfInBounds_toArray, List.set_cons_zero, List.set_cons_succ]
        refine takeH (i := 23) (v := ?vv23) 83 rfl rfl (by kernel_rfl) (by kernel_rfl) (by kernel_rfl) (fun _ _ _ h => h) (Or.inl ⟨by kernel_rfl, ?yy23⟩) (by assumption) ?_
        case yy23 => intro w hSw; (try dsimp only at hSw); go_simp; (try with_reducible rfl)
        simp only [List.setIfInBounds_toArray, List.set_cons_zero, List.set_cons_succ]
        refine takeH (i := 24) (v := ?vv24) 84 rfl rfl (by kernel_rfl) (by kernel_rfl) (by kernel_rfl) (fun _ _ _ h => h) (Or.inl ⟨by kernel_rfl, ?yy24⟩) (by assumption) ?_
        case yy24 => intro w hSw; (try dsimp only at hSw); go_simp; (try with_reducible rfl)
        simp only [List.setIfInBounds_toArray, List.set_cons_zero, List.set_cons_succ]
        refine takeH (i := 25) (v := ?vv25) 85 rfl rfl (by kernel_rfl) (by kernel_rfl) (by kernel_rfl) (fun _ _ _ h => h) (Or.inl ⟨by kernel_rfl, ?yy25⟩) (by assumption) ?_
        case yy25 => intro w hSw; (try dsimp only at hSw); go_simp; (try with_reducible rfl)
        simp only [List.setIfInBounds_toArray, List.set_cons_zero, List.set_cons_succ]
        refine takeH (i := 26) (v := ?vv26) 86 rfl rfl (by kernel_rfl) (by kernel_rfl) (by kernel_rfl) (fun _ _ _ h => h) (Or.inl ⟨by kernel_rfl, ?yy26⟩) (by assumption) ?_
        case yy26 => intro w hSw; (try dsimp only at hSw); go_simp; (try with_reducible rfl)
        simp only [List.setIfInBounds_toArray, List.set_cons_zero, List.set_cons_succ]
        refine takeH (i := 27) (v := ?vv27) 87 rfl rfl (by kernel_rfl) (by kernel_rfl) (by kernel_rfl) (fun _ _ _ h => h) (Or.inl ⟨by kernel_rfl, ?yy27⟩) (by assumption) ?_
        case yy27 => intro w hSw; (try dsimp only at hSw); go_simp; (try with_reducible rfl)
        simp only [List.setIfInBounds_toArray, List.set_cons_zero, List.set_cons_succ]
        refine takeH (i := 28) (v := ?vv28) 88 rfl rfl (by kernel_rfl) (by kernel_rfl) (by kernel_rfl) (fun _ _ _ h => h) (Or.inl ⟨by kernel_rfl, ?yy28⟩) (by assumption) ?_
        case yy28 =>
          intro wq hSw
          obtain ⟨z0, z1, z2, z3, z4, z5, z6, z7⟩ := hSw
          go_simp
          (try with_reducible rfl)
        simp only [List.setIfInBounds_toArray, List.set_cons_zero, List.set_cons_succ]
        refine takeH (i := 29) (v := ?vv29) 89 rfl rfl (by kernel_rfl) (by kernel_rfl) (by kernel_rfl) (fun _ _ _ h => h) (Or.inl ⟨by kernel_rfl, ?yy29⟩) (by assumption) ?_
        case yy29 => intro w hSw; (try dsimp only at hSw); go_simp; (try with_reducible rfl)
        simp only [List.setIfInBounds_toArray, List.set_cons_zero, List.set_cons_succ]
        refine takeH (i := 30) (v := ?vv30) 90 rfl rfl (by kernel_rfl) (by kernel_rfl) (by kernel_rfl) (fun _ _ _ h => h) (Or.inl ⟨by kernel_rfl, ?yy30⟩) (by assumption) ?_
        case yy30 => intro w hSw; (try dsimp only at hSw); go_simp; (try with_reducible rfl)
        simp only [List.setIfInBounds_toArray, List.set_cons_zero, List.set_cons_succ]
        refine takeH (i := 31) (v := ?vv31) 91 rfl rfl (by kernel_rfl) (by kernel_rfl) (by kernel_rfl) (fun _ _ _ h => h) (Or.inl ⟨by kernel_rfl, ?yy31⟩) (by assumption) ?_
        case yy31 => intro w hSw; (try dsimp only at hSw); go_simp; (try with_reducible rfl)
        simp only [List.setIfInBounds_toArray, List.set_cons_zero, List.set_cons_succ]
        refine takeH (i := 32) (v := ?vv32) 92 rfl rfl (by kernel_rfl) (by kernel_rfl) (by kernel_rfl) (fun _ _ _ h => h) (Or.inl ⟨by kernel_rfl, ?yy32⟩) (by assumption) ?_
        case yy32 => intro w hSw; (try dsimp only at hSw); go_simp; (try with_reducible rfl)
        simp only [List.setIfInBounds_toArray, List.set_cons_zero, List.set_cons_succ]
        refine takeH (i := 33) (v := ?vv33) 93 rfl rfl (by kernel_rfl) (by kernel_rfl) (by kernel_rfl) (fun _ _ _ h => h) (Or.inl ⟨by kernel_rfl, ?yy33⟩) (by assumption) ?_
        case yy33 => intro w hSw; (try dsimp only at hSw); go_simp; (try with_reducible rfl)
        simp only [List.setIfInBounds_toArray, List.set_cons_zero, List.set_cons_succ]
        refine takeH (i := 34) (v := ?vv34) 94 rfl rfl (by kernel_rfl) (by kernel_rfl) (by kernel_rfl) (fun _ _ _ h => h) (Or.inl ⟨by kernel_rfl, ?yy34⟩) (by assumption) ?_
        case yy34 => intro w hSw; (try dsimp only at hSw); go_simp; (try with_reducible rfl)
        simp only [List.setIfInBounds_toArray, List.set_cons_zero, List.set_cons_succ]
        refine takeH (i := 35) (v := ?vv35) 95 rfl rfl (by kernel_rfl) (by kernel_rfl) (by kernel_rfl) (fun _ _ _ h => h) (Or.inl ⟨by kernel_rfl, ?yy35⟩) (by assumption) ?_
        case yy35 => intro w hSw; (try dsimp only at hSw); go_simp; (try with_reducible rfl)
        simp only [List.setIfInBounds_toArray, List.set_cons_zero, List.set_cons_succ]
        refine takeH (i := 36) (v := ?vv36) 96 rfl rfl (by kernel_rfl) (by kernel_rfl) (by kernel_rfl) (fun _ _ _ h => h) (Or.inl ⟨by kernel_rfl, ?yy36⟩) (by assumption) ?_
        case yy36 => intro w hSw; (try dsimp only at hSw); go_simp; (try with_reducible rfl)
        simp only [List.setIfInBounds_toArray, List.set_cons_zero, List.set_cons_succ]
        refine takeH (i := 37) (v := ?vv37) 97 rfl rfl (by kernel_rfl) (by kernel_rfl) (by kernel_rfl) (fun _ _ _ h => h) (Or.inl ⟨by kernel_rfl, ?yy37⟩) (by assumption) ?_
        case yy37 =>
          intro wq hSw
          obtain ⟨z0, z1, z2, z3, z4, z5, z6, z7⟩ := hSw
          go_simp
          (try with_reducible rfl)
        simp only [List.setIfInBounds_toArray, List.set_cons_zero, List.set_cons_succ]
        refine takeH (i := 38) (v := ?vv38) 98 rfl rfl (by kernel_rfl) (by kernel_rfl) (by kernel_rfl) (fun _ _ _ h => h) (Or.inl ⟨by kernel_rfl, ?yy38⟩) (by assumption) ?_
        case yy38 => intro w hSw; (try dsimp only at hSw); go_simp; (try with_reducible rfl)
        simp only [List.setIfInBounds_toArray, List.set_cons_zero, List.set_cons_succ]
        refine takeH (i := 39) (v := ?vv39) 99 rfl rfl (by kernel_rfl) (by kernel_rfl) (by kernel_rfl) (fun _ _ _ h => h) (Or.inl ⟨by kernel_rfl, ?yy39⟩) (by assumption) ?_
        case yy39 => intro w hSw; (try dsimp only at hSw); go_simp; (try with_reducible rfl)
        simp only [List.setIfInBounds_toArray, List.set_cons_zero, List.set_cons_succ]
        refine takeH (i := 40) (v := ?vv40) 100 rfl rfl (by kernel_rfl) (by kernel_rfl) (by kernel_rfl) (fun _ _ _ h => h) (Or.inl ⟨by kernel_rfl, ?yy40⟩) (by assumption) ?_
        case yy40 => intro w hSw; (try dsimp only at hSw); go_simp; (try with_reducible rfl)
        simp only [List.setIfInBounds_toArray, List.set_cons_zero, List.set_cons_succ]
        refine takeH (i := 41) (v := ?vv41) 101 rfl rfl (by kernel_rfl) (by kernel_rfl) (by kernel_rfl) (fun _ _ _ h => h) (Or.inl ⟨by kernel_rfl, ?yy41⟩) (by assumption) ?_
        case yy41 => intro w hSw; (try dsimp only at hSw); go_simp; (try with_reducible rfl)
        simp only [List.setIfInBounds_toArray, List.set_cons_zero, List.set_cons_succ]
        refine takeH (i := 42) (v := ?vv42) 102 rfl rfl (by kernel_rfl) (by kernel_rfl) (by kernel_rfl) (fun _ _ _ h => h) (Or.inl ⟨by kernel_rfl, ?yy42⟩) (by assumption) ?_
        case yy42 =>
          intro wq hSw
          obtain ⟨z0, z1, z2, z3, z4, z5, z6, z7⟩ := hSw
          go_simp
          (try with_reducible rfl)
        simp only [List.setIfInBounds_toArray, List.set_cons_zero, List.set_cons_succ]
        refine takeH (i := 43) (v := ?vv43) 103 rfl rfl (by kernel_rfl) (by kernel_rfl) (by kernel_rfl) (fun _ _ _ h => h) (Or.inl ⟨by kernel_rfl, ?yy43⟩) (by assumption) ?_
        case yy43 => intro w hSw; (try dsimp only at hSw); go_simp; (try with_reducible rfl)
        simp only [List.setIfInBounds_toArray, List.set_cons_zero, List.set_cons_succ]
        refine takeH (i := 44) (v := ?vv44) 104 rfl rfl (by kernel_rfl) (by kernel_rfl) (by kernel_rfl) (fun _ _ _ h => h) (Or.inl ⟨by kernel_rfl, ?yy44⟩) (by assumption) ?_
        case yy44 => intro w hSw; (try dsimp only at hSw); go_simp; (try with_reducible rfl)
        simp only [List.setIfInBounds_toArray, List.set_cons_zero, List.set_cons_succ]
        refine takeH (i := 45) (v := ?vv45) 105 rfl rfl (by kernel_rfl) (by kernel_rfl) (by kernel_rfl) (fun _ _ _ h => h) (Or.inl ⟨by kernel_rfl, ?yy45⟩) (by assumption) ?_
        case yy45 => intro w hSw; (try dsimp only at hSw); go_simp; (try with_reducible rfl)
        simp only [List.setIfInBounds_toArray, List.set_cons_zero, List.set_cons_succ]
        refine takeH (i := 46) (v := ?vv46) 106 rfl rfl (by kernel_rfl) (by kernel_rfl) (by kernel_rfl) (fun _ _ _ h => h) (Or.inl ⟨by kernel_rfl, ?yy46⟩) (by assumption) ?_
        case yy46 => intro w hSw; (try dsimp only at hSw); go_simp; (try with_reducible rfl)
        simp only [List.setIfInBounds_toArray, List.set_cons_zero, List.set_cons_succ]
        refine takeH (i := 47) (v := ?vv47) 107 rfl rfl (by kernel_rfl) (by kernel_rfl) (by kernel_rfl) (fun _ _ _ h => h) (Or.inl ⟨by kernel_rfl, ?yy47⟩) (by assumption) ?_
        case yy47 => intro w hSw; (try dsimp only at hSw); go_simp; (try with_reducible rfl)
        simp only [List.setIfInBounds_toArray, List.set_cons_zero, List.set_cons_succ]
        refine takeH (i := 48) (v := ?vv48) 108 rfl rfl (by kernel_rfl) (by kernel_rfl) (by kernel_rfl) (fun _ _ _ h => h) (Or.inl ⟨by kernel_rfl, ?yy48⟩) (by assumption) ?_
        case yy48 => intro w hSw; (try dsimp only at hSw); go_simp; (try with_reducible rfl)
        simp only [List.setIfInBounds_toArray, List.set_cons_zero, List.set_cons_succ]
        refine takeH (i := 49) (v := ?vv49) 109 rfl rfl (by kernel_rfl) (by kernel_rfl) (by kernel_rfl) (fun _ _ _ h => h) (Or.inl ⟨by kernel_rfl, ?yy49⟩) (by assumption) ?_
        case yy49 => intro w hSw; (try dsimp only at hSw); go_simp; (try with_reducible rfl)
        simp only [List.setIfInBounds_toArray, List.set_cons_zero, List.set_cons_succ]
        refine takeH (i := 50) (v := ?vv50) 110 rfl rfl (by kernel_rfl) (by kernel_rfl) (by kernel_rfl) (fun _ _ _ h => h) (Or.inl ⟨by kernel_rfl, ?yy50⟩) (by assumption) ?_
        case yy50 =>
          intro wq hSw
          obtain ⟨z0, z1, z2, z3, z4, z5, z6, z7⟩ := hSw
          go_simp
          (try with_reducible rfl)
        simp only [List.setIfInBounds_toArray, List.set_cons_zero, List.set_cons_succ]
        refine takeH (i := 51) (v := ?vv51) 111 rfl rfl (by kernel_rfl) (by kernel_rfl) (by kernel_rfl) (fun _ _ _ h => h) (Or.inl ⟨by kernel_rfl, ?yy51⟩) (by assumption) ?_
        case yy51 => intro w hSw; (try dsimp only at hSw); go_simp; (try with_reducible rfl)
        simp only [List.setIfInBounds_toArray, List.set_cons_zero, List.set_cons_succ]
        refine takeH (i := 52) (v := ?vv52) 112 rfl rfl (by kernel_rfl) (by kernel_rfl) (by kernel_rfl) (fun _ _ _ h => h) (Or.inl ⟨by kernel_rfl, ?yy52⟩) (by assumption) ?_
        case yy52 => intro w hSw; (try dsimp only at hSw); go_simp; (try with_reducible rfl)
        simp only [List.setIfInBounds_toArray, List.set_cons_zero, List.set_cons_succ]
        refine takeH (i := 53) (v := ?vv53) 113 rfl rfl (by kernel_rfl) (by kernel_rfl) (by kernel_rfl) (fun _ _ _ h => h) (Or.inl ⟨by kernel_rfl, ?yy53⟩) (by assumption) ?_
        case yy53 => intro w hSw; (try dsimp only at hSw); go_simp; (try with_reducible rfl)
        simp only [List.setIfInBounds_toArray, List.set_cons_zero, List.set_cons_succ]
        refine takeH (i := 54) (v := ?vv54) 114 rfl rfl (by kernel_rfl) (by kernel_rfl) (by kernel_rfl) (fun _ _ _ h => h) (Or.inl ⟨by kernel_rfl, ?yy54⟩) (by assumption) ?_
        case yy54 => intro w hSw; (try dsimp only at hSw); go_simp; (try with_reducible rfl)
        simp only [List.setIfInBounds_toArray, List.set_cons_zero, List.set_cons_succ]
        refine takeH (i := 55) (v := ?vv55) 115 rfl rfl (by kernel_rfl) (by kernel_rfl) (by kernel_rfl) (fun _ _ _ h => h) (Or.inl ⟨by kernel_rfl, ?yy55⟩) (by assumption) ?_
        case yy55 =>
          intro wq hSw
          obtain ⟨z0, z1, z2, z3, z4, z5, z6, z7⟩ := hSw
          go_simp
          (try with_reducible rfl)
        simp only [List.setIfInBounds_toArray, List.set_cons_zero, List.set_cons_succ]
        refine takeH (i := 56) (v := ?vv56) 116 rfl rfl (by kernel_rfl) (by kernel_rfl) (by kernel_rfl) (fun _ _ _ h => h) (Or.inl ⟨by kernel_rfl, ?yy56⟩) (by assumption) ?_
        case yy56 => intro w hSw; (try dsimp only at hSw); go_simp; (try with_reducible rfl)
        simp only [List.setIfInBounds_toArray, List.set_cons_zero, List.set_cons_succ]
        refine takeH (i := 57) (v := ?vv57) 117 rfl rfl (by kernel_rfl) (by kernel_rfl) (by kernel_rfl) (fun _ _ _ h => h) (Or.inl ⟨by kernel_rfl, ?yy57⟩) (by assumption) ?_
        case yy57 => intro w hSw; (try dsimp only at hSw); go_simp; (try with_reducible rfl)
        simp only [List.setIfInBounds_toArray, List.set_cons_zero, List.set_cons_succ]
        refine takeH (i := 58) (v := ?vv58) 118 rfl rfl (by kernel_rfl) (by kernel_rfl) (by kernel_rfl) (fun _ _ _ h => h) (Or.inl ⟨by kernel_rfl, ?yy58⟩) (by assumption) ?_
        case yy58 => intro w hSw; (try dsimp only at hSw); go_simp; (try with_reducible rfl)
        simp only [List.setIfInBounds_toArray, List.set_cons_zero, List.set_cons_succ]
        refine takeH (i := 59) (v := ?vv59) 119 rfl rfl (by kernel_rfl) (by kernel_rfl) (by kernel_rfl) (fun _ _ _ h => h) (Or.inl ⟨by kernel_rfl, ?yy59⟩) (by assumption) ?_
        case yy59 => intro w hSw; (try dsimp only at hSw); go_simp; (try with_reducible rfl)
        simp only [List.setIfInBounds_toArray, List.set_cons_zero, List.set_cons_succ]
        refine takeH (i := 60) (v := ?vv60) 120 rfl rfl (by kernel_rfl) (by kernel_rfl) (by kernel_rfl) (fun _ _ _ h => h) (Or.inl ⟨by kernel_rfl, ?yy60⟩) (by assumption) ?_
        case yy60 => intro w hSw; (try dsimp only at hSw); go_simp; (try with_reducible rfl)
        simp only [List.setIfInBounds_toArray, List.set_cons_zero, List.set_cons_succ]
        refine takeH (i := 61) (v := ?vv61) 121 rfl rfl (by kernel_rfl) (by kernel_rfl) (by kernel_rfl) (fun _ _ _ h => h) (Or.inl ⟨by kernel_rfl, ?yy61⟩) (by assumption) ?_
        case yy61 => intro w hSw; (try dsimp only at hSw); go_simp; (try with_reducible rfl)
        simp only [List.setIfInBounds_toArray, List.set_cons_zero, List.set_cons_succ]
        refine takeH (i := 62) (v := ?vv62) 122 rfl rfl (by kernel_rfl) (by kernel_rfl) (by kernel_rfl) (fun _ _ _ h => h) (Or.inl ⟨by kernel_rfl, ?yy62⟩) (by assumption) ?_
        case yy62 => intro w hSw; (try dsimp only at hSw); go_simp; (try with_reducible rfl)
        simp only [List.setIfInBounds_toArray, List.set_cons_zero, List.set_cons_succ]
        refine takeH (i := 63) (v := ?vv63) 123 rfl rfl (by kernel_rfl) (by kernel_rfl) (by kernel_rfl) (fun _ _ _ h => h) (Or.inl ⟨by kernel_rfl, ?yy63⟩) (by assumption) ?_
        case yy63 =>
          intro wq hSw
          obtain ⟨z0, z1, z2, z3, z4, z5, z6, z7⟩ := hSw
          go_simp
          (try with_reducible rfl)
        simp only [List.setIfInBounds_toArray, List.set_cons_zero, List.set_cons_succ]
        refine takeH (i := 64) (v := ?vv64) 124 rfl rfl (by kernel_rfl) (by kernel_rfl) (by kernel_rfl) (fun _ _ _ h => h) (Or.inl ⟨by kernel_rfl, ?yy64⟩) (by assumption) ?_
        case yy64 => intro w hSw; (try dsimp only at hSw); go_simp; (try with_reducible rfl)
        simp only [List.setIfInBounds_toArray, List.set_cons_zero, List.set_cons_succ]
        refine takeH (i := 65) (v := ?vv65) 125 rfl rfl (by kernel_rfl) (by kernel_rfl) (by kernel_rfl) (fun _ _ _ h => h) (Or.inl ⟨by kernel_rfl, ?yy65⟩) (by assumption) ?_
        case yy65 => intro w hSw; (try dsimp only at hSw); go_simp; (try with_reducible rfl)
        simp only [List.setIfInBounds_toArray, List.set_cons_zero, List.set_cons_succ]
        refine takeH (i := 66) (v := ?vv66) 126 rfl rfl (by kernel_rfl) (by kernel_rfl) (by kernel_rfl) (fun _ _ _ h => h) (Or.inl ⟨by kernel_rfl, ?yy66⟩) (by assumption) ?_
        case yy66 => intro w hSw; (try dsimp only at hSw); go_simp; (try with_reducible rfl)
        simp only [List.setIfInBounds_toArray, List.set_cons_zero, List.set_cons_succ]
        refine takeH (i := 67) (v := ?vv67) 127 rfl rfl (by kernel_rfl) (by kernel_rfl) (by kernel_rfl) (fun _ _ _ h => h) (Or.inl ⟨by kernel_rfl, ?yy67⟩) (by assumption) ?_
        case yy67 => intro w hSw; (try dsimp only at hSw); go_simp; (try with_reducible rfl)
        simp only [List.setIfInBounds_toArray, List.set_cons_zero, List.set_cons_succ]
        refine takeH (i := 68) (v := ?vv68) 128 rfl rfl (by kernel_rfl) (by kernel_rfl) (by kernel_rfl) (fun _ _ _ h => h) (Or.inl ⟨by kernel_rfl, ?yy68⟩) (by assumption) ?_
        case yy68 =>
          intro wq hSw
          obtain ⟨z0, z1, z2, z3, z4, z5, z6, z7⟩ := hSw
          go_simp
          (try with_reducible rfl)
        simp only [List.setIfInBounds_toArray, List.set_cons_zero, List.set_cons_succ]
        refine takeH (i := 69) (v := ?vv69) 129 rfl rfl (by kernel_rfl) (by kernel_rfl) (by kernel_rfl) (fun _ _ _ h => h) (Or.inl ⟨by kernel_rfl, ?yy69⟩) (by assumption) ?_
        case yy69 => intro w hSw; (try dsimp only at hSw); go_simp; (try with_reducible rfl)
        simp only [List.setIfInBounds_toArray, List.set_cons_zero, List.set_cons_succ]
        refine takeH (i := 70) (v := ?vv70) 130 rfl rfl (by kernel_rfl) (by kernel_rfl) (by kernel_rfl) (fun _ _ _ h => h) (Or.inl ⟨by kernel_rfl, ?yy70⟩) (by assumption) ?_
        case yy70 => intro w hSw; (try dsimp only at hSw); go_simp; (try with_reducible rfl)
        simp only [List.setIfInBounds_toArray, List.set_cons_zero, List.set_cons_succ]
        refine wpAnyH_done (by kernel_rfl) ?_ _
        have HX5 := Lib.hid (btrans HX3.out HX3.out.size (btrans (Below.refl wr.heap.size wr).drew (Nat.le_refl _) hb1))
        go_wp2
        go_roundw
        case rel => exact ⟨k + 1, by omega, by go_num, HX5.out⟩
        case measure => simp [intOf]; omega
      have h0i : decide ((0 : Int) < (k : Int)) = false := by rw [decide_eq_false]; omega
      have hs0 : wr.drew.cell? ⟨ba, oa + k * 4, none⟩ = some (.int .i64 xk) ∧ wr.drew.cell? ⟨ba, oa + k * 4 + 1, none⟩ = some (.string (bs xt)) ∧ wr.drew.cell? ⟨ba, oa + k * 4 + 2, none⟩ = some (.int .i64 xn) ∧ wr.drew.cell? ⟨ba, oa + k * 4 + 3, none⟩ = some (.int .i64 xl) ∧ wr.drew.cell? ⟨bb, ob + k * 4, none⟩ = some (.int .i64 xk) ∧ wr.drew.cell? ⟨bb, ob + k * 4 + 1, none⟩ = some (.string (bs xt)) ∧ wr.drew.cell? ⟨bb, ob + k * 4 + 2, none⟩ = some (.int .i64 xn) := ⟨p0, p1, p2, p3, r0, r1, r2⟩
      have HS0 := Lib.hid hs0; clear hs0 p0 p1 p2 p3 r0 r1 r2
      go_upto_region 13 with (fail)
      go_wp2_with fail
      refine wp_region_held_drew (S := (fun w' => w'.cell? ⟨ba, oa + k * 4, none⟩ = some (.int .i64 xk) ∧ w'.cell? ⟨ba, oa + k * 4 + 1, none⟩ = some (.string (bs xt)) ∧ w'.cell? ⟨ba, oa + k * 4 + 2, none⟩ = some (.int .i64 xn) ∧ w'.cell? ⟨ba, oa + k * 4 + 3, none⟩ = some (.int .i64 xl) ∧ w'.cell? ⟨bb, ob + k * 4, none⟩ = some (.int .i64 xk) ∧ w'.cell? ⟨bb, ob + k * 4 + 1, none⟩ = some (.string (bs xt)) ∧ w'.cell? ⟨bb, ob + k * 4 + 2, none⟩ = some (.int .i64 xn))) (by kernel_rfl) ?_ (fun hHeld => ?_)
      · exact HS0.out
      refine takeH (i := 0) (v := ?vv71) 60 rfl rfl (by kernel_rfl) (by kernel_rfl) (by kernel_rfl) (fun _ _ _ h => h) (Or.inl ⟨by kernel_rfl, ?yy71⟩) (by assumption) ?_
      case yy71 => intro w hSw; (try dsimp only at hSw); go_simp; (try with_reducible rfl)
      simp only [List.setIfInBounds_toArray, List.set_cons_zero, List.set_cons_succ]
      refine takeH (i := 1) (v := ?vv72) 61 rfl rfl (by kernel_rfl) (by kernel_rfl) (by kernel_rfl) (fun _ _ _ h => h) (Or.inl ⟨by kernel_rfl, ?yy72⟩) (by assumption) ?_
      case yy72 => intro w hSw; (try dsimp only at hSw); go_simp; (try with_reducible rfl)
      simp only [List.setIfInBounds_toArray, List.set_cons_zero, List.set_cons_succ]
      refine takeH (i := 2) (v := ?vv73) 62 rfl rfl (by kernel_rfl) (by kernel_rfl) (by kernel_rfl) (fun _ _ _ h => h) (Or.inl ⟨by kernel_rfl, ?yy73⟩) (by assumption) ?_
      case yy73 => intro w hSw; (try dsimp only at hSw); go_simp; (try with_reducible rfl)
      simp only [List.setIfInBounds_toArray, List.set_cons_zero, List.set_cons_succ]
      refine takeH (i := 3) (v := ?vv74) 63 rfl rfl (by kernel_rfl) (by kernel_rfl) (by kernel_rfl) (fun _ _ _ h => h) (Or.inl ⟨by kernel_rfl, ?yy74⟩) (by assumption) ?_
      case yy74 =>
        intro wq hSw
        obtain ⟨z0, z1, z2, z3, z4, z5, z6⟩ := hSw
        go_simp
        (try with_reducible rfl)
      simp only [List.setIfInBounds_toArray, List.set_cons_zero, List.set_cons_succ]
      have hcl := fun W => RLValid_any ⟨xk, xt, xn, xl⟩ htl W
      simp only [tkV] at hcl
      refine wpAnyH_ready (rs := [4]) (by kernel_rfl) (by simp) ?_
      refine (AllReadyH.cons rfl (fun K hK => ?_) AllReadyH.nil)
      go_simp
      (refine (hcl _).mono ?_; rw [HV1.out]; rintro er w5 ⟨rfl, hb1⟩)
      (try go_wp2_with fail)
      refine hK.out _ _ ?_ (fun hHeld => ?_)
      · exact ⟨cell1_below hHeld.1 hb1, cell1_below hHeld.2.1 hb1, cell1_below hHeld.2.2.1 hb1, cell1_below hHeld.2.2.2.1 hb1, cell1_below hHeld.2.2.2.2.1 hb1, cell1_below hHeld.2.2.2.2.2.1 hb1, cell1_below hHeld.2.2.2.2.2.2 hb1⟩
      clear hK K
      (try simp only [Act.put, List.setIfInBounds_toArray, List.set_cons_zero, List.set_cons_succ])
      clear hcl
      refine takeH (i := 5) (v := ?vv75) 65 rfl rfl (by kernel_rfl) (by kernel_rfl) (by kernel_rfl) (fun _ _ _ h => h) (Or.inl ⟨by kernel_rfl, ?yy75⟩) (by assumption) ?_
      case yy75 => intro w hSw; (try dsimp only at hSw); go_simp; (try with_reducible rfl)
      simp only [List.setIfInBounds_toArray, List.set_cons_zero, List.set_cons_succ]
      refine takeH (i := 6) (v := ?vv76) 66 rfl rfl (by kernel_rfl) (by kernel_rfl) (by kernel_rfl) (fun _ _ _ h => h) (Or.inl ⟨by kernel_rfl, ?yy76⟩) (by assumption) ?_
      case yy76 => intro w hSw; (try dsimp only at hSw); go_simp; (try with_reducible rfl)
      simp only [List.setIfInBounds_toArray, List.set_cons_zero, List.set_cons_succ]
      refine takeH (i := 7) (v := ?vv77) 67 rfl rfl (by kernel_rfl) (by kernel_rfl) (by kernel_rfl) (fun _ _ _ h => h) (Or.inl ⟨by kernel_rfl, ?yy77⟩) (by assumption) ?_
      case yy77 => intro w hSw; (try dsimp only at hSw); go_simp; (try with_reducible rfl)
      simp only [List.setIfInBounds_toArray, List.set_cons_zero, List.set_cons_succ]
      refine takeH (i := 8) (v := ?vv78) 68 rfl rfl (by kernel_rfl) (by kernel_rfl) (by kernel_rfl) (fun _ _ _ h => h) (Or.inl ⟨by kernel_rfl, ?yy78⟩) (by assumption) ?_
      case yy78 => intro w hSw; (try dsimp only at hSw); go_simp; (try with_reducible rfl)
      simp only [List.setIfInBounds_toArray, List.set_cons_zero, List.set_cons_succ]
      refine takeH (i := 9) (v := ?vv79) 69 rfl rfl (by kernel_rfl) (by kernel_rfl) (by kernel_rfl) (fun _ _ _ h => h) (Or.inl ⟨by kernel_rfl, ?yy79⟩) (by assumption) ?_
      case yy79 => intro w hSw; (try dsimp only at hSw); go_simp; (try with_reducible rfl)
      simp only [List.setIfInBounds_toArray, List.set_cons_zero, List.set_cons_succ]
      refine takeH (i := 10) (v := ?vv80) 70 rfl rfl (by kernel_rfl) (by kernel_rfl) (by kernel_rfl) (fun _ _ _ h => h) (Or.inl ⟨by kernel_rfl, ?yy80⟩) (by assumption) ?_
      case yy80 => intro w hSw; (try dsimp only at hSw); go_simp; (try with_reducible rfl)
      simp only [List.setIfInBounds_toArray, List.set_cons_zero, List.set_cons_succ]
      refine takeH (i := 11) (v := ?vv81) 71 rfl rfl (by kernel_rfl) (by kernel_rfl) (by kernel_rfl) (fun _ _ _ h => h) (Or.inl ⟨by kernel_rfl, ?yy81⟩) (by assumption) ?_
      case yy81 =>
        intro wq hSw
        obtain ⟨z0, z1, z2, z3, z4, z5, z6⟩ := hSw
        go_simp
        (try with_reducible rfl)
      simp only [List.setIfInBounds_toArray, List.set_cons_zero, List.set_cons_succ]
      refine takeH (i := 12) (v := ?vv82) 72 rfl rfl (by kernel_rfl) (by kernel_rfl) (by kernel_rfl) (fun _ _ _ h => h) (Or.inl ⟨by kernel_rfl, ?yy82⟩) (by assumption) ?_
      case yy82 => intro w hSw; (try dsimp only at hSw); go_simp; (try with_reducible rfl)
      simp only [List.setIfInBounds_toArray, List.set_cons_zero, List.set_cons_succ]
      refine takeH (i := 13) (v := ?vv83) 73 rfl rfl (by kernel_rfl) (by kernel_rfl) (by kernel_rfl) (fun _ _ _ h => h) (Or.inl ⟨by kernel_rfl, ?yy83⟩) (by assumption) ?_
      case yy83 => intro w hSw; (try dsimp only at hSw); go_simp; (try with_reducible rfl)
      simp only [List.setIfInBounds_toArray, List.set_cons_zero, List.set_cons_succ]
      refine takeH (i := 14) (v := ?vv84) 74 rfl rfl (by kernel_rfl) (by kernel_rfl) (by kernel_rfl) (fun _ _ _ h => h) (Or.inl ⟨by kernel_rfl, ?yy84⟩) (by assumption) ?_
      case yy84 => intro w hSw; (try dsimp only at hSw); go_simp; (try with_reducible rfl)
      simp only [List.setIfInBounds_toArray, List.set_cons_zero, List.set_cons_succ]
      refine takeH (i := 15) (v := ?vv85) 75 rfl rfl (by kernel_rfl) (by kernel_rfl) (by kernel_rfl) (fun _ _ _ h => h) (Or.inl ⟨by kernel_rfl, ?yy85⟩) (by assumption) ?_
      case yy85 => intro w hSw; (try dsimp only at hSw); go_simp; (try with_reducible rfl)
      simp only [List.setIfInBounds_toArray, List.set_cons_zero, List.set_cons_succ]
      refine takeH (i := 16) (v := ?vv86) 76 rfl rfl (by kernel_rfl) (by kernel_rfl) (by kernel_rfl) (fun _ _ _ h => h) (Or.inl ⟨by kernel_rfl, ?yy86⟩) (by assumption) ?_
      case yy86 => intro w hSw; (try dsimp only at hSw); go_simp; (try with_reducible rfl)
      simp only [List.setIfInBounds_toArray, List.set_cons_zero, List.set_cons_succ]
      refine takeH (i := 17) (v := ?vv87) 77 rfl rfl (by kernel_rfl) (by kernel_rfl) (by kernel_rfl) (fun _ _ _ h => h) (Or.inl ⟨by kernel_rfl, ?yy87⟩) (by assumption) ?_
      case yy87 => intro w hSw; (try dsimp only at hSw); go_simp; (try with_reducible rfl)
      simp only [List.setIfInBounds_toArray, List.set_cons_zero, List.set_cons_succ]
      refine takeH (i := 18) (v := undef) 78 rfl rfl (by kernel_rfl) (by kernel_rfl) (by kernel_rfl) (fun _ _ _ h => h) (Or.inr ⟨by kernel_rfl, rfl⟩) (by assumption) ?_
      simp only [List.setIfInBounds_toArray, List.set_cons_zero, List.set_cons_succ]
      refine takeH (i := 19) (v := undef) 79 rfl rfl (by kernel_rfl) (by kernel_rfl) (by kernel_rfl) (fun _ _ _ h => h) (Or.inr ⟨by kernel_rfl, rfl⟩) (by assumption) ?_
      simp only [List.setIfInBounds_toArray, List.set_cons_zero, List.set_cons_succ]
      refine takeH (i := 20) (v := undef) 80 rfl rfl (by kernel_rfl) (by kernel_rfl) (by kernel_rfl) (fun _ _ _ h => h) (Or.inr ⟨by kernel_rfl, rfl⟩) (by assumption) ?_
      simp only [List.setIfInBounds_toArray, List.set_cons_zero, List.set_cons_succ]
      refine takeH (i := 21) (v := undef) 81 rfl rfl (by kernel_rfl) (by kernel_rfl) (by kernel_rfl) (fun _ _ _ h => h) (Or.inr ⟨by kernel_rfl, rfl⟩) (by assumption) ?_
      simp only [List.setIfInBounds_toArray, List.set_cons_zero, List.set_cons_succ]
      refine takeH (i := 22) (v := undef) 82 rfl rfl (by kernel_rfl) (by kernel_rfl) (by kernel_rfl) (fun _ _ _ h => h) (Or.inr ⟨by kernel_rfl, rfl⟩) (by assumption) ?_
      simp only [List.setIfInBounds_toArray, List.set_cons_zero, List.set_cons_succ]
      refine takeH (i := 23) (v := undef) 83 rfl rfl (by kernel_rfl) (by kernel_rfl) (by kernel_rfl) (fun _ _ _ h => h) (Or.inr ⟨by kernel_rfl, rfl⟩) (by assumption) ?_
      simp only [List.setIfInBounds_toArray, List.set_cons_zero, List.set_cons_succ]
      refine takeH (i := 24) (v := undef) 84 rfl rfl (by kernel_rfl) (by kernel_rfl) (by kernel_rfl) (fun _ _ _ h => h) (Or.inr ⟨by kernel_rfl, rfl⟩) (by assumption) ?_
      simp only [List.setIfInBounds_toArray, List.set_cons_zero, List.set_cons_succ]
      refine takeH (i := 25) (v := undef) 85 rfl rfl (by kernel_rfl) (by kernel_rfl) (by kernel_rfl) (fun _ _ _ h => h) (Or.inr ⟨by kernel_rfl, rfl⟩) (by assumption) ?_
      simp only [List.setIfInBounds_toArray, List.set_cons_zero, List.set_cons_succ]
      refine takeH (i := 26) (v := undef) 86 rfl rfl (by kernel_rfl) (by kernel_rfl) (by kernel_rfl) (fun _ _ _ h => h) (Or.inr ⟨by kernel_rfl, rfl⟩) (by assumption) ?_
      simp only [List.setIfInBounds_toArray, List.set_cons_zero, List.set_cons_succ]
      refine takeH (i := 27) (v := undef) 87 rfl rfl (by kernel_rfl) (by kernel_rfl) (by kernel_rfl) (fun _ _ _ h => h) (Or.inr ⟨by kernel_rfl, rfl⟩) (by assumption) ?_
      simp only [List.setIfInBounds_toArray, List.set_cons_zero, List.set_cons_succ]
      refine takeH (i := 28) (v := undef) 88 rfl rfl (by kernel_rfl) (by kernel_rfl) (by kernel_rfl) (fun _ _ _ h => h) (Or.inr ⟨by kernel_rfl, rfl⟩) (by assumption) ?_
      simp only [List.setIfInBounds_toArray, List.set_cons_zero, List.set_cons_succ]
      refine takeH (i := 29) (v := undef) 89 rfl rfl (by kernel_rfl) (by kernel_rfl) (by kernel_rfl) (fun _ _ _ h => h) (Or.inr ⟨by kernel_rfl, rfl⟩) (by assumption) ?_
      simp only [List.setIfInBounds_toArray, List.set_cons_zero, List.set_cons_succ]
      refine takeH (i := 30) (v := ?vv88) 90 rfl rfl (by kernel_rfl) (by kernel_rfl) (by kernel_rfl) (fun _ _ _ h => h) (Or.inl ⟨by kernel_rfl, ?yy88⟩) (by assumption) ?_
      case yy88 => intro w hSw; (try dsimp only at hSw); go_simp; (try with_reducible rfl)
      simp only [List.setIfInBounds_toArray, List.set_cons_zero, List.set_cons_succ]
      refine takeH (i := 31) (v := ?vv89) 91 rfl rfl (by kernel_rfl) (by kernel_rfl) (by kernel_rfl) (fun _ _ _ h => h) (Or.inl ⟨by kernel_rfl, ?yy89⟩) (by assumption) ?_
      case yy89 => intro w hSw; (try dsimp only at hSw); go_simp; (try with_reducible rfl)
      simp only [List.setIfInBounds_toArray, List.set_cons_zero, List.set_cons_succ]
      refine takeH (i := 32) (v := ?vv90) 92 rfl rfl (by kernel_rfl) (by kernel_rfl) (by kernel_rfl) (fun _ _ _ h => h) (Or.inl ⟨by kernel_rfl, ?yy90⟩) (by assumption) ?_
      case yy90 => intro w hSw; (try dsimp only at hSw); go_simp; (try with_reducible rfl)
      simp only [List.setIfInBounds_toArray, List.set_cons_zero, List.set_cons_succ]
      refine takeH (i := 33) (v := ?vv91) 93 rfl rfl (by kernel_rfl) (by kernel_rfl) (by kernel_rfl) (fun _ _ _ h => h) (Or.inl ⟨by kernel_rfl, ?yy91⟩) (by assumption) ?_
      case yy91 => intro w hSw; (try dsimp only at hSw); go_simp; (try with_reducible rfl)
      simp only [List.setIfInBounds_toArray, List.set_cons_zero, List.set_cons_succ]
      refine takeH (i := 34) (v := ?vv92) 94 rfl rfl (by kernel_rfl) (by kernel_rfl) (by kernel_rfl) (fun _ _ _ h => h) (Or.inl ⟨by kernel_rfl, ?yy92⟩) (by assumption) ?_
      case yy92 => intro w hSw; (try dsimp only at hSw); go_simp; (try with_reducible rfl)
      simp only [List.setIfInBounds_toArray, List.set_cons_zero, List.set_cons_succ]
      refine takeH (i := 35) (v := ?vv93) 95 rfl rfl (by kernel_rfl) (by kernel_rfl) (by kernel_rfl) (fun _ _ _ h => h) (Or.inl ⟨by kernel_rfl, ?yy93⟩) (by assumption) ?_
      case yy93 => intro w hSw; (try dsimp only at hSw); go_simp; (try with_reducible rfl)
      simp only [List.setIfInBounds_toArray, List.set_cons_zero, List.set_cons_succ]
      refine takeH (i := 36) (v := ?vv94) 96 rfl rfl (by kernel_rfl) (by kernel_rfl) (by kernel_rfl) (fun _ _ _ h => h) (Or.inl ⟨by kernel_rfl, ?yy94⟩) (by assumption) ?_
      case yy94 => intro w hSw; (try dsimp only at hSw); go_simp; (try with_reducible rfl)
      simp only [List.setIfInBounds_toArray, List.set_cons_zero, List.set_cons_succ]
      refine takeH (i := 37) (v := ?vv95) 97 rfl rfl (by kernel_rfl) (by kernel_rfl) (by kernel_rfl) (fun _ _ _ h => h) (Or.inl ⟨by kernel_rfl, ?yy95⟩) (by assumption) ?_
      case yy95 =>
        intro wq hSw
        obtain ⟨z0, z1, z2, z3, z4, z5, z6⟩ := hSw
        go_simp
        (try with_reducible rfl)
      simp only [List.setIfInBounds_toArray, List.set_cons_zero, List.set_cons_succ]
      refine takeH (i := 38) (v := ?vv96) 98 rfl rfl (by kernel_rfl) (by kernel_rfl) (by kernel_rfl) (fun _ _ _ h => h) (Or.inl ⟨by kernel_rfl, ?yy96⟩) (by assumption) ?_
      case yy96 => intro w hSw; (try dsimp only at hSw); go_simp; (try with_reducible rfl)
      simp only [List.setIfInBounds_toArray, List.set_cons_zero, List.set_cons_succ]
      refine takeH (i := 39) (v := ?vv97) 99 rfl rfl (by kernel_rfl) (by kernel_rfl) (by kernel_rfl) (fun _ _ _ h => h) (Or.inl ⟨by kernel_rfl, ?yy97⟩) (by assumption) ?_
      case yy97 => intro w hSw; (try dsimp only at hSw); go_simp; (try with_reducible rfl)
      simp only [List.setIfInBounds_toArray, List.set_cons_zero, List.set_cons_succ]
      refine takeH (i := 40) (v := ?vv98) 100 rfl rfl (by kernel_rfl) (by kernel_rfl) (by kernel_rfl) (fun _ _ _ h => h) (Or.inl ⟨by kernel_rfl, ?yy98⟩) (by assumption) ?_
      case yy98 => intro w hSw; (try dsimp only at hSw); go_simp; (try with_reducible rfl)
      simp only [List.setIfInBounds_toArray, List.set_cons_zero, List.set_cons_succ]
      refine takeH (i := 41) (v := ?vv99) 101 rfl rfl (by kernel_rfl) (by kernel_rfl) (by kernel_rfl) (fun _ _ _ h => h) (Or.inl ⟨by kernel_rfl, ?yy99⟩) (by assumption) ?_
      case yy99 => intro w hSw; (try dsimp only at hSw); go_simp; (try with_reducible rfl)
      simp only [List.setIfInBounds_toArray, List.set_cons_zero, List.set_cons_succ]
      refine takeH (i := 42) (v := ?vv100) 102 rfl rfl (by kernel_rfl) (by kernel_rfl) (by kernel_rfl) (fun _ _ _ h => h) (Or.inl ⟨by kernel_rfl, ?yy100⟩) (by assumption) ?_
      case yy100 =>
        intro wq hSw
        obtain ⟨z0, z1, z2, z3, z4, z5, z6⟩ := hSw
        go_simp
        (try with_reducible rfl)
      simp only [List.setIfInBounds_toArray, List.set_cons_zero, List.set_cons_succ]
      refine takeH (i := 43) (v := ?vv101) 103 rfl rfl (by kernel_rfl) (by kernel_rfl) (by kernel_rfl) (fun _ _ _ h => h) (Or.inl ⟨by kernel_rfl, ?yy101⟩) (by assumption) ?_
      case yy101 => intro w hSw; (try dsimp only at hSw); go_simp; (try with_reducible rfl)
      simp only [List.setIfInBounds_toArray, List.set_cons_zero, List.set_cons_succ]
      refine takeH (i := 44) (v := ?vv102) 104 rfl rfl (by kernel_rfl) (by kernel_rfl) (by kernel_rfl) (fun _ _ _ h => h) (Or.inl ⟨by kernel_rfl, ?yy102⟩) (by assumption) ?_
      case yy102 => intro w hSw; (try dsimp only at hSw); go_simp; (try with_reducible rfl)
      simp only [List.setIfInBounds_toArray, List.set_cons_zero, List.set_cons_succ]
      refine takeH (i := 45) (v := ?vv103) 105 rfl rfl (by kernel_rfl) (by kernel_rfl) (by kernel_rfl) (fun _ _ _ h => h) (Or.inl ⟨by kernel_rfl, ?yy103⟩) (by assumption) ?_
      case yy103 => intro w hSw; (try dsimp only at hSw); go_simp; (try with_reducible rfl)
      simp only [List.setIfInBounds_toArray, List.set_cons_zero, List.set_cons_succ]
      refine takeH (i := 46) (v := ?vv104) 106 rfl rfl (by kernel_rfl) (by kernel_rfl) (by kernel_rfl) (fun _ _ _ h => h) (Or.inl ⟨by kernel_rfl, ?yy104⟩) (by assumption) ?_
      case yy104 => intro w hSw; (try dsimp only at hSw); go_simp; (try with_reducible rfl)
      simp only [List.setIfInBounds_toArray, List.set_cons_zero, List.set_cons_succ]
      refine takeH (i := 47) (v := ?vv105) 107 rfl rfl (by kernel_rfl) (by kernel_rfl) (by kernel_rfl) (fun _ _ _ h => h) (Or.inl ⟨by kernel_rfl, ?yy105⟩) (by assumption) ?_
      case yy105 => intro w hSw; (try dsimp only at hSw); go_simp; (try with_reducible rfl)
      simp only [List.setIfInBounds_toArray, List.set_cons_zero, List.set_cons_succ]
      refine takeH (i := 48) (v := ?vv106) 108 rfl rfl (by kernel_rfl) (by kernel_rfl) (by kernel_rfl) (fun _ _ _ h => h) (Or.inl ⟨by kernel_rfl, ?yy106⟩) (by assumption) ?_
      case yy106 => intro w hSw; (try dsimp only at hSw); go_simp; (try with_reducible rfl)
      simp only [List.setIfInBounds_toArray, List.set_cons_zero, List.set_cons_succ]
      refine takeH (i := 49) (v := ?vv107) 109 rfl rfl (by kernel_rfl) (by kernel_rfl) (by kernel_rfl) (fun _ _ _ h => h) (Or.inl ⟨by kernel_rfl, ?yy107⟩) (by assumption) ?_
      case yy107 => intro w hSw; (try dsimp only at hSw); go_simp; (try with_reducible rfl)
      simp only [List.setIfInBounds_toArray, List.set_cons_zero, List.set_cons_succ]
      refine takeH (i := 50) (v := ?vv108) 110 rfl rfl (by kernel_rfl) (by kernel_rfl) (by kernel_rfl) (fun _ _ _ h => h) (Or.inl ⟨by kernel_rfl, ?yy108⟩) (by assumption) ?_
      case yy108 =>
        intro wq hSw
        obtain ⟨z0, z1, z2, z3, z4, z5, z6⟩ := hSw
        go_simp
        (try with_reducible rfl)
      simp only [List.setIfInBounds_toArray, List.set_cons_zero, List.set_cons_succ]
      refine takeH (i := 51) (v := ?vv109) 111 rfl rfl (by kernel_rfl) (by kernel_rfl) (by kernel_rfl) (fun _ _ _ h => h) (Or.inl ⟨by kernel_rfl, ?yy109⟩) (by assumption) ?_
      case yy109 => intro w hSw; (try dsimp only at hSw); go_simp; (try with_reducible rfl)
      simp only [List.setIfInBounds_toArray, List.set_cons_zero, List.set_cons_succ]
      refine takeH (i := 52) (v := ?vv110) 112 rfl rfl (by kernel_rfl) (by kernel_rfl) (by kernel_rfl) (fun _ _ _ h => h) (Or.inl ⟨by kernel_rfl, ?yy110⟩) (by assumption) ?_
      case yy110 => intro w hSw; (try dsimp only at hSw); go_simp; (try with_reducible rfl)
      simp only [List.setIfInBounds_toArray, List.set_cons_zero, List.set_cons_succ]
      refine takeH (i := 53) (v := ?vv111) 113 rfl rfl (by kernel_rfl) (by kernel_rfl) (by kernel_rfl) (fun _ _ _ h => h) (Or.inl ⟨by kernel_rfl, ?yy111⟩) (by assumption) ?_
      case yy111 => intro w hSw; (try dsimp only at hSw); go_simp; (try with_reducible rfl)
      simp only [List.setIfInBounds_toArray, List.set_cons_zero, List.set_cons_succ]
      refine takeH (i := 54) (v := ?vv112) 114 rfl rfl (by kernel_rfl) (by kernel_rfl) (by kernel_rfl) (fun _ _ _ h => h) (Or.inl ⟨by kernel_rfl, ?yy112⟩) (by assumption) ?_
      case yy112 => intro w hSw; (try dsimp only at hSw); go_simp; (try with_reducible rfl)
      simp only [List.setIfInBounds_toArray, List.set_cons_zero, List.set_cons_succ]
      refine takeH (i := 55) (v := ?vv113) 115 rfl rfl (by kernel_rfl) (by kernel_rfl) (by kernel_rfl) (fun _ _ _ h => h) (Or.inl ⟨by kernel_rfl, ?yy113⟩) (by assumption) ?_
      case yy113 =>
        intro wq hSw
        obtain ⟨z0, z1, z2, z3, z4, z5, z6⟩ := hSw
        go_simp
        (try with_reducible rfl)
      simp only [List.setIfInBounds_toArray, List.set_cons_zero, List.set_cons_succ]
      refine takeH (i := 56) (v := ?vv114) 116 rfl rfl (by kernel_rfl) (by kernel_rfl) (by kernel_rfl) (fun _ _ _ h => h) (Or.inl ⟨by kernel_rfl, ?yy114⟩) (by assumption) ?_
      case yy114 => intro w hSw; (try dsimp only at hSw); go_simp; (try with_reducible rfl)
      simp only [List.setIfInBounds_toArray, List.set_cons_zero, List.set_cons_succ]
      refine takeH (i := 57) (v := ?vv115) 117 rfl rfl (by kernel_rfl) (by kernel_rfl) (by kernel_rfl) (fun _ _ _ h => h) (Or.inl ⟨by kernel_rfl, ?yy115⟩) (by assumption) ?_
      case yy115 => intro w hSw; (try dsimp only at hSw); go_simp; (try with_reducible rfl)
      simp only [List.setIfInBounds_toArray, List.set_cons_zero, List.set_cons_succ]
      refine takeH (i := 58) (v := ?vv116) 118 rfl rfl (by kernel_rfl) (by kernel_rfl) (by kernel_rfl) (fun _ _ _ h => h) (Or.inl ⟨by kernel_rfl, ?yy116⟩) (by assumption) ?_
      case yy116 => intro w hSw; (try dsimp only at hSw); go_simp; (try with_reducible rfl)
      simp only [List.setIfInBounds_toArray, List.set_cons_zero, List.set_cons_succ]
      refine takeH (i := 59) (v := ?vv117) 119 rfl rfl (by kernel_rfl) (by kernel_rfl) (by kernel_rfl) (fun _ _ _ h => h) (Or.inl ⟨by kernel_rfl, ?yy117⟩) (by assumption) ?_
      case yy117 => intro w hSw; (try dsimp only at hSw); go_simp; (try with_reducible rfl)
      simp only [List.setIfInBounds_toArray, List.set_cons_zero, List.set_cons_succ]
      refine takeH (i := 60) (v := ?vv118) 120 rfl rfl (by kernel_rfl) (by kernel_rfl) (by kernel_rfl) (fun _ _ _ h => h) (Or.inl ⟨by kernel_rfl, ?yy118⟩) (by assumption) ?_
      case yy118 => intro w hSw; (try dsimp only at hSw); go_simp; (try with_reducible rfl)
      simp only [List.setIfInBounds_toArray, List.set_cons_zero, List.set_cons_succ]
      refine takeH (i := 61) (v := ?vv119) 121 rfl rfl (by kernel_rfl) (by kernel_rfl) (by kernel_rfl) (fun _ _ _ h => h) (Or.inl ⟨by kernel_rfl, ?yy119⟩) (by assumption) ?_
      case yy119 => intro w hSw; (try dsimp only at hSw); go_simp; (try with_reducible rfl)
      simp only [List.setIfInBounds_toArray, List.set_cons_zero, List.set_cons_succ]
      refine takeH (i := 62) (v := ?vv120) 122 rfl rfl (by kernel_rfl) (by kernel_rfl) (by kernel_rfl) (fun _ _ _ h => h) (Or.inl ⟨by kernel_rfl, ?yy120⟩) (by assumption) ?_
      case yy120 => intro w hSw; (try dsimp only at hSw); go_simp; (try with_reducible rfl)
      simp only [List.setIfInBounds_toArray, List.set_cons_zero, List.set_cons_succ]
      refine takeH (i := 63) (v := ?vv121) 123 rfl rfl (by kernel_rfl) (by kernel_rfl) (by kernel_rfl) (fun _ _ _ h => h) (Or.inl ⟨by kernel_rfl, ?yy121⟩) (by assumption) ?_
      case yy121 =>
        intro wq hSw
        obtain ⟨z0, z1, z2, z3, z4, z5, z6⟩ := hSw
        go_simp
        (try with_reducible rfl)
      simp only [List.setIfInBounds_toArray, List.set_cons_zero, List.set_cons_succ]
      refine takeH (i := 64) (v := ?vv122) 124 rfl rfl (by kernel_rfl) (by kernel_rfl) (by kernel_rfl) (fun _ _ _ h => h) (Or.inl ⟨by kernel_rfl, ?yy122⟩) (by assumption) ?_
      case yy122 => intro w hSw; (try dsimp only at hSw); go_simp; (try with_reducible rfl)
      simp only [List.setIfInBounds_toArray, List.set_cons_zero, List.set_cons_succ]
      refine takeH (i := 65) (v := ?vv123) 125 rfl rfl (by kernel_rfl) (by kernel_rfl) (by kernel_rfl) (fun _ _ _ h => h) (Or.inl ⟨by kernel_rfl, ?yy123⟩) (by assumption) ?_
      case yy123 => intro w hSw; (try dsimp only at hSw); go_simp; (try with_reducible rfl)
      simp only [List.setIfInBounds_toArray, List.set_cons_zero, List.set_cons_succ]
      refine takeH (i := 66) (v := ?vv124) 126 rfl rfl (by kernel_rfl) (by kernel_rfl) (by kernel_rfl) (fun _ _ _ h => h) (Or.inl ⟨by kernel_rfl, ?yy124⟩) (by assumption) ?_
      case yy124 => intro w hSw; (try dsimp only at hSw); go_simp; (try with_reducible rfl)
      simp only [List.setIfInBounds_toArray, List.set_cons_zero, List.set_cons_succ]
      refine takeH (i := 67) (v := ?vv125) 127 rfl rfl (by kernel_rfl) (by kernel_rfl) (by kernel_rfl) (fun _ _ _ h => h) (Or.inl ⟨by kernel_rfl, ?yy125⟩) (by assumption) ?_
      case yy125 => intro w hSw; (try dsimp only at hSw); go_simp; (try with_reducible rfl)
      simp only [List.setIfInBounds_toArray, List.set_cons_zero, List.set_cons_succ]
      refine takeH (i := 68) (v := ?vv126) 128 rfl rfl (by kernel_rfl) (by kernel_rfl) (by kernel_rfl) (fun _ _ _ h => h) (Or.inl ⟨by kernel_rfl, ?yy126⟩) (by assumption) ?_
      case yy126 =>
        intro wq hSw
        obtain ⟨z0, z1, z2, z3, z4, z5, z6⟩ := hSw
        go_simp
        (try with_reducible rfl)
      simp only [List.setIfInBounds_toArray, List.set_cons_zero, List.set_cons_succ]
      refine takeH (i := 69) (v := ?vv127) 129 rfl rfl (by kernel_rfl) (by kernel_rfl) (by kernel_rfl) (fun _ _ _ h => h) (Or.inl ⟨by kernel_rfl, ?yy127⟩) (by assumption) ?_
      case yy127 => intro w hSw; (try dsimp only at hSw); go_simp; (try with_reducible rfl)
      simp only [List.setIfInBounds_toArray, List.set_cons_zero, List.set_cons_succ]
      refine takeH (i := 70) (v := ?vv128) 130 rfl rfl (by kernel_rfl) (by kernel_rfl) (by kernel_rfl) (fun _ _ _ h => h) (Or.inl ⟨by kernel_rfl, ?yy128⟩) (by assumption) ?_
      case yy128 => intro w hSw; (try dsimp only at hSw); go_simp; (try with_reducible rfl)
      simp only [List.setIfInBounds_toArray, List.set_cons_zero, List.set_cons_succ]
      refine wpAnyH_done (by kernel_rfl) ?_ _
      have HX5 := Lib.hid (btrans HX3.out HX3.out.size (btrans (Below.refl wr.heap.size wr).drew (Nat.le_refl _) hb1))
      go_wp2
      go_roundw
      case rel => exact ⟨k + 1, by omega, by go_num, HX5.out⟩
      case measure => simp [intOf]; omega
    · have hlt' : ¬ (k : Int) < (M.length : Int) := by omega
      go_wp2_with fail
      refine (lives_any _ (hL.below HBr.out)).mono ?_
      rintro er wz ⟨rfl, hbz⟩
      go_wp2
      go_ret
      exact ⟨rfl, btrans HBr.out HBr.out.size hbz⟩
end Go.Proofs.YthdioaolnbdbgaaDoor
