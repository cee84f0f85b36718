/- The walks of layer 7's Same, of the law's examples and of LexerWords. No conditions. -/
import Derived.Test.YthdioaolnbdbgaaDoorLexD
import Derived.Test.YthdioaolnbdbgaaDoorRegion
namespace Go.Proofs.YthdioaolnbdbgaaDoor
open Go.RowKit

theorem tkLs_get : ∀ (M : List Tk) (k : Nat) (h : k < M.length), (tkLs M)[k * 4]? = some (.int .i64 M[k].k) ∧ (tkLs M)[k * 4 + 1]? = some (.string (bs M[k].t)) ∧ (tkLs M)[k * 4 + 2]? = some (.int .i64 M[k].n) ∧ (tkLs M)[k * 4 + 3]? = some (.int .i64 M[k].ln)
  | [], k, h => by simp at h
  | x :: r, 0, h => ⟨rfl, rfl, rfl, rfl⟩
  | x :: r, k + 1, h => by
    have ih := tkLs_get r k (by simpa using h)
    have e : ∀ j, (tkLs (x :: r))[j + 4]? = (tkLs r)[j]? := fun j => by
      show (tkL x ++ tkLs r)[j + 4]? = _
      rw [List.getElem?_append_right (by show 4 ≤ _; omega)]; rfl
    refine ⟨?_, ?_, ?_, ?_⟩
    · rw [show (k + 1) * 4 = k * 4 + 4 by omega, e]; exact ih.1
    · rw [show (k + 1) * 4 + 1 = (k * 4 + 1) + 4 by omega, e]; exact ih.2.1
    · rw [show (k + 1) * 4 + 2 = (k * 4 + 2) + 4 by omega, e]; exact ih.2.2.1
    · rw [show (k + 1) * 4 + 3 = (k * 4 + 3) + 4 by omega, e]; exact ih.2.2.2
/-- the cells of the k-th token -/
theorem tok_cells {W : World} {ad : Option Addr} {n cap : Nat} {M : List Tk} (h : CellsAt W (.slice ad n cap) n (tkLs M)) {k : Nat} (hk : k < M.length) : ∃ b off, ad = some ⟨b, off, none⟩ ∧ W.cell? ⟨b, off + k * 4, none⟩ = some (.int .i64 M[k].k) ∧ W.cell? ⟨b, off + k * 4 + 1, none⟩ = some (.string (bs M[k].t)) ∧ W.cell? ⟨b, off + k * 4 + 2, none⟩ = some (.int .i64 M[k].n) ∧ W.cell? ⟨b, off + k * 4 + 3, none⟩ = some (.int .i64 M[k].ln) := by
  obtain ⟨a, c, hs, hc⟩ := h
  obtain ⟨b, off, ha, hcell⟩ := hc (by intro e; have := tkLs_length M; rw [e] at this; simp at this; omega)
  cases hs
  obtain ⟨h1, h2, h3, h4⟩ := tkLs_get M k hk
  exact ⟨b, off, ha, hcell _ _ h1, by have := hcell _ _ h2; rwa [← Nat.add_assoc] at this, by have := hcell _ _ h3; rwa [← Nat.add_assoc] at this, by have := hcell _ _ h4; rwa [← Nat.add_assoc] at this⟩
theorem CellsAt.drew {W : World} {u : Value} {n : Nat} {xs : List Value} (h : CellsAt W u n xs) : CellsAt W.drew u n xs := h
theorem tk_ext (x y : Tk) : x = y ↔ x.k = y.k ∧ x.t = y.t ∧ x.n = y.n ∧ x.ln = y.ln := by cases x; cases y; simp
theorem same_no {M N : List Tk} {k : Nat} {R : Bool} (hk : k < M.length) (hn : k < N.length) (h : decide (M.drop k = N.drop k) = R) (hne : M[k] ≠ N[k]) : R = false := by
  rw [← h, List.drop_eq_getElem_cons hk, List.drop_eq_getElem_cons hn, decide_eq_false]; intro e; exact hne (List.cons.inj e).1
theorem same_go {M N : List Tk} {k : Nat} {R : Bool} (hk : k < M.length) (hn : k < N.length) (h : decide (M.drop k = N.drop k) = R) (he : M[k] = N[k]) : decide (M.drop (k + 1) = N.drop (k + 1)) = R := by
  rw [← h, List.drop_eq_getElem_cons hk, List.drop_eq_getElem_cons hn, he]; congr 1; rw [eq_iff_iff]; exact ⟨fun e => by rw [e], fun e => (List.cons.inj e).2⟩

set_option maxRecDepth 100000 in
set_option maxHeartbeats 8000000 in
theorem Same_any (va vb : Value) (M N : List Tk) (w : World) (hA : CellsAt w va M.length (tkLs M)) (hC : CellsAt w vb N.length (tkLs N)) (hM : M.length ≤ 9223372036854775807) :
    Calls Tryd.prog 18 #[va, vb] w fun e w' => e = .returned (.bool (decide (M = N))) ∧ Below w.heap.size w w' := by
  obtain ⟨aa, ca, rfl, -⟩ := id hA
  obtain ⟨ab, cb, rfl, -⟩ := id hC
  by_cases hl : M.length = N.length
  rotate_left
  · have tl : ((M.length : Int) != (N.length : Int)) = true := by rw [bne_iff_ne]; omega
    have hr : decide (M = N) = false := by rw [decide_eq_false]; intro e; exact hl (by rw [e])
    rw [hr]
    have HL := Lib.hid hl; clear hl hr
    go_enter Tryd.func18, Tryd.ntmps18
    go_wp2
    go_ret
    exact ⟨rfl, Below.refl _ _⟩
  have tl : ((M.length : Int) != (N.length : Int)) = false := by rw [hl]; simp
  obtain ⟨R, hR⟩ : ∃ R, decide (M = N) = R := ⟨_, rfl⟩
  rw [hR]
  have HL := Lib.hid hl; have HR := Lib.hid (show decide (M.drop 0 = N.drop 0) = R from hR); have HA := Lib.hid hA; have HC := Lib.hid hC; clear hl hR hA hC
  go_enter Tryd.func18, Tryd.ntmps18
  go_wp2
  go_loopw [5] (fun i wr => ∃ k : Nat, k ≤ M.length ∧ i = .int .i64 k ∧ Hid (decide (M.drop k = N.drop k) = R) ∧ Below w.heap.size w wr) (fun i _ => M.length - (intOf i).toNat)
  case atStart => exact ⟨0, Nat.zero_le _, rfl, HR, Below.refl _ _⟩
  case round =>
    obtain ⟨k, hk, rfl, HQ, hB⟩ := hrel
    clear HR
    have HB := Lib.hid hB; clear hB
    by_cases hlt : k < M.length
    · have hlt' : (k : Int) < (M.length : Int) := by omega
      have hlt2 : k < N.length := by rw [← HL.out]; exact hlt
      have hlt3 : (k : Int) < (N.length : Int) := by omega
      have hw1 : IntKind.i64.wrap ((k : Int) + 1) = (k : Int) + 1 := by rw [IntKind.wrap_i64]; omega
      obtain ⟨ba, oa, rfl, p0, p1, p2, p3⟩ := tok_cells (HA.out.below HB.out).drew hlt
      obtain ⟨bb, ob, rfl, r0, r1, r2, r3⟩ := tok_cells (HC.out.below HB.out).drew hlt2
      obtain ⟨⟨xk, xt, xn, xl⟩, hx⟩ : ∃ x, M[k] = x := ⟨_, rfl⟩
      obtain ⟨⟨yk, yt, yn, yl⟩, hy⟩ : ∃ y, N[k] = y := ⟨_, rfl⟩
      rw [hx] at p0 p1 p2 p3
      rw [hy] at r0 r1 r2 r3
      simp only at p0 p1 p2 p3 r0 r1 r2 r3
      have hs0 : wr.drew.cell? ⟨ba, oa + k * 4, none⟩ = some (.int .i64 xk) ∧ wr.drew.cell? ⟨ba, oa + k * 4 + 1, none⟩ = some (.string (bs xt)) ∧ wr.drew.cell? ⟨ba, oa + k * 4 + 2, none⟩ = some (.int .i64 xn) ∧ wr.drew.cell? ⟨ba, oa + k * 4 + 3, none⟩ = some (.int .i64 xl) ∧ wr.drew.cell? ⟨bb, ob + k * 4, none⟩ = some (.int .i64 yk) ∧ wr.drew.cell? ⟨bb, ob + k * 4 + 1, none⟩ = some (.string (bs yt)) ∧ wr.drew.cell? ⟨bb, ob + k * 4 + 2, none⟩ = some (.int .i64 yn) ∧ wr.drew.cell? ⟨bb, ob + k * 4 + 3, none⟩ = some (.int .i64 yl) := ⟨p0, p1, p2, p3, r0, r1, r2, r3⟩
      have HS0 := Lib.hid hs0; clear hs0 p0 p1 p2 p3 r0 r1 r2 r3
      by_cases e0 : xk = yk
      rotate_left
      · have t0 : (xk == yk) = false := by rw [beq_eq_false_iff_ne]; exact e0
        have HF := Lib.hid (same_no hlt hlt2 HQ.out (by rw [hx, hy]; intro e; exact e0 (by injection e)))
        have HX := Lib.hid hx; have HY := Lib.hid hy; clear hx hy e0
        go_upto_region 6 with (fail)
        go_wp2_with fail
        refine wp_region_held_drew (S := (fun w' => w'.cell? ⟨ba, oa + k * 4, none⟩ = some (.int .i64 xk) ∧ w'.cell? ⟨ba, oa + k * 4 + 1, none⟩ = some (.string (bs xt)) ∧ w'.cell? ⟨ba, oa + k * 4 + 2, none⟩ = some (.int .i64 xn) ∧ w'.cell? ⟨ba, oa + k * 4 + 3, none⟩ = some (.int .i64 xl) ∧ w'.cell? ⟨bb, ob + k * 4, none⟩ = some (.int .i64 yk) ∧ w'.cell? ⟨bb, ob + k * 4 + 1, none⟩ = some (.string (bs yt)) ∧ w'.cell? ⟨bb, ob + k * 4 + 2, none⟩ = some (.int .i64 yn) ∧ w'.cell? ⟨bb, ob + k * 4 + 3, none⟩ = some (.int .i64 yl))) (by kernel_rfl) ?_ (fun hHeld => ?_)
        · exact HS0.out
        refine takeH (i := 0) (v := ?vv1) 17 rfl rfl (by kernel_rfl) (by kernel_rfl) (by kernel_rfl) (fun _ _ _ h => h) (Or.inl ⟨by kernel_rfl, ?yy1⟩) (by assumption) ?_
        case yy1 => intro w hSw; (try dsimp only at hSw); go_simp; (try with_reducible rfl)
        simp only [List.setIfInBounds_toArray, List.set_cons_zero, List.set_cons_succ]
        refine takeH (i := 1) (v := ?vv2) 18 rfl rfl (by kernel_rfl) (by kernel_rfl) (by kernel_rfl) (fun _ _ _ h => h) (Or.inl ⟨by kernel_rfl, ?yy2⟩) (by assumption) ?_
        case yy2 => intro w hSw; (try dsimp only at hSw); go_simp; (try with_reducible rfl)
        simp only [List.setIfInBounds_toArray, List.set_cons_zero, List.set_cons_succ]
        refine takeH (i := 2) (v := ?vv3) 19 rfl rfl (by kernel_rfl) (by kernel_rfl) (by kernel_rfl) (fun _ _ _ h => h) (Or.inl ⟨by kernel_rfl, ?yy3⟩) (by assumption) ?_
        case yy3 => intro w hSw; (try dsimp only at hSw); go_simp; (try with_reducible rfl)
        simp only [List.setIfInBounds_toArray, List.set_cons_zero, List.set_cons_succ]
        refine takeH (i := 3) (v := ?vv4) 20 rfl rfl (by kernel_rfl) (by kernel_rfl) (by kernel_rfl) (fun _ _ _ h => h) (Or.inl ⟨by kernel_rfl, ?yy4⟩) (by assumption) ?_
        case yy4 =>
          intro wq hSw
          obtain ⟨z0, z1, z2, z3, z4, z5, z6, z7⟩ := hSw
          go_simp
          (try with_reducible rfl)
        simp only [List.setIfInBounds_toArray, List.set_cons_zero, List.set_cons_succ]
        refine takeH (i := 4) (v := ?vv5) 21 rfl rfl (by kernel_rfl) (by kernel_rfl) (by kernel_rfl) (fun _ _ _ h => h) (Or.inl ⟨by kernel_rfl, ?yy5⟩) (by assumption) ?_
        case yy5 => intro w hSw; (try dsimp only at hSw); go_simp; (try with_reducible rfl)
        simp only [List.setIfInBounds_toArray, List.set_cons_zero, List.set_cons_succ]
        refine takeH (i := 5) (v := ?vv6) 22 rfl rfl (by kernel_rfl) (by kernel_rfl) (by kernel_rfl) (fun _ _ _ h => h) (Or.inl ⟨by kernel_rfl, ?yy6⟩) (by assumption) ?_
        case yy6 => intro w hSw; (try dsimp only at hSw); go_simp; (try with_reducible rfl)
        simp only [List.setIfInBounds_toArray, List.set_cons_zero, List.set_cons_succ]
        refine takeH (i := 6) (v := ?vv7) 23 rfl rfl (by kernel_rfl) (by kernel_rfl) (by kernel_rfl) (fun _ _ _ h => h) (Or.inl ⟨by kernel_rfl, ?yy7⟩) (by assumption) ?_
        case yy7 => intro w hSw; (try dsimp only at hSw); go_simp; (try with_reducible rfl)
        simp only [List.setIfInBounds_toArray, List.set_cons_zero, List.set_cons_succ]
        refine takeH (i := 7) (v := ?vv8) 24 rfl rfl (by kernel_rfl) (by kernel_rfl) (by kernel_rfl) (fun _ _ _ h => h) (Or.inl ⟨by kernel_rfl, ?yy8⟩) (by assumption) ?_
        case yy8 =>
          intro wq hSw
          obtain ⟨z0, z1, z2, z3, z4, z5, z6, z7⟩ := hSw
          go_simp
          (try with_reducible rfl)
        simp only [List.setIfInBounds_toArray, List.set_cons_zero, List.set_cons_succ]
        refine takeH (i := 8) (v := ?vv9) 25 rfl rfl (by kernel_rfl) (by kernel_rfl) (by kernel_rfl) (fun _ _ _ h => h) (Or.inl ⟨by kernel_rfl, ?yy9⟩) (by assumption) ?_
        case yy9 => intro w hSw; (try dsimp only at hSw); go_simp; (try with_reducible rfl)
        simp only [List.setIfInBounds_toArray, List.set_cons_zero, List.set_cons_succ]
        refine wpAnyH_done (by kernel_rfl) ?_ _
        go_wp2
        go_ret
        exact ⟨by rw [HF.out] <;> rfl, HB.out.trans (Below.refl _ _).drew⟩
      have t0 : (xk == yk) = true := by rw [e0]; simp
      by_cases e1 : xt = yt
      rotate_left
      · have t1 : (xt == yt) = false := by rw [beq_eq_false_iff_ne]; exact e1
        have HF := Lib.hid (same_no hlt hlt2 HQ.out (by rw [hx, hy]; intro e; exact e1 (by injection e)))
        have HX := Lib.hid hx; have HY := Lib.hid hy; clear hx hy e0 e1
        go_upto_region 6 with (fail)
        go_wp2_with fail
        refine wp_region_held_drew (S := (fun w' => w'.cell? ⟨ba, oa + k * 4, none⟩ = some (.int .i64 xk) ∧ w'.cell? ⟨ba, oa + k * 4 + 1, none⟩ = some (.string (bs xt)) ∧ w'.cell? ⟨ba, oa + k * 4 + 2, none⟩ = some (.int .i64 xn) ∧ w'.cell? ⟨ba, oa + k * 4 + 3, none⟩ = some (.int .i64 xl) ∧ w'.cell? ⟨bb, ob + k * 4, none⟩ = some (.int .i64 yk) ∧ w'.cell? ⟨bb, ob + k * 4 + 1, none⟩ = some (.string (bs yt)) ∧ w'.cell? ⟨bb, ob + k * 4 + 2, none⟩ = some (.int .i64 yn) ∧ w'.cell? ⟨bb, ob + k * 4 + 3, none⟩ = some (.int .i64 yl))) (by kernel_rfl) ?_ (fun hHeld => ?_)
        · exact HS0.out
        refine takeH (i := 0) (v := ?vv10) 17 rfl rfl (by kernel_rfl) (by kernel_rfl) (by kernel_rfl) (fun _ _ _ h => h) (Or.inl ⟨by kernel_rfl, ?yy10⟩) (by assumption) ?_
        case yy10 => intro w hSw; (try dsimp only at hSw); go_simp; (try with_reducible rfl)
        simp only [List.setIfInBounds_toArray, List.set_cons_zero, List.set_cons_succ]
        refine takeH (i := 1) (v := ?vv11) 18 rfl rfl (by kernel_rfl) (by kernel_rfl) (by kernel_rfl) (fun _ _ _ h => h) (Or.inl ⟨by kernel_rfl, ?yy11⟩) (by assumption) ?_
        case yy11 => intro w hSw; (try dsimp only at hSw); go_simp; (try with_reducible rfl)
        simp only [List.setIfInBounds_toArray, List.set_cons_zero, List.set_cons_succ]
        refine takeH (i := 2) (v := ?vv12) 19 rfl rfl (by kernel_rfl) (by kernel_rfl) (by kernel_rfl) (fun _ _ _ h => h) (Or.inl ⟨by kernel_rfl, ?yy12⟩) (by assumption) ?_
        case yy12 => intro w hSw; (try dsimp only at hSw); go_simp; (try with_reducible rfl)
        simp only [List.setIfInBounds_toArray, List.set_cons_zero, List.set_cons_succ]
        refine takeH (i := 3) (v := ?vv13) 20 rfl rfl (by kernel_rfl) (by kernel_rfl) (by kernel_rfl) (fun _ _ _ h => h) (Or.inl ⟨by kernel_rfl, ?yy13⟩) (by assumption) ?_
        case yy13 =>
          intro wq hSw
          obtain ⟨z0, z1, z2, z3, z4, z5, z6, z7⟩ := hSw
          go_simp
          (try with_reducible rfl)
        simp only [List.setIfInBounds_toArray, List.set_cons_zero, List.set_cons_succ]
        refine takeH (i := 4) (v := ?vv14) 21 rfl rfl (by kernel_rfl) (by kernel_rfl) (by kernel_rfl) (fun _ _ _ h => h) (Or.inl ⟨by kernel_rfl, ?yy14⟩) (by assumption) ?_
        case yy14 => intro w hSw; (try dsimp only at hSw); go_simp; (try with_reducible rfl)
        simp only [List.setIfInBounds_toArray, List.set_cons_zero, List.set_cons_succ]
        refine takeH (i := 5) (v := ?vv15) 22 rfl rfl (by kernel_rfl) (by kernel_rfl) (by kernel_rfl) (fun _ _ _ h => h) (Or.inl ⟨by kernel_rfl, ?yy15⟩) (by assumption) ?_
        case yy15 => intro w hSw; (try dsimp only at hSw); go_simp; (try with_reducible rfl)
        simp only [List.setIfInBounds_toArray, List.set_cons_zero, List.set_cons_succ]
        refine takeH (i := 6) (v := ?vv16) 23 rfl rfl (by kernel_rfl) (by kernel_rfl) (by kernel_rfl) (fun _ _ _ h => h) (Or.inl ⟨by kernel_rfl, ?yy16⟩) (by assumption) ?_
        case yy16 => intro w hSw; (try dsimp only at hSw); go_simp; (try with_reducible rfl)
        simp only [List.setIfInBounds_toArray, List.set_cons_zero, List.set_cons_succ]
        refine takeH (i := 7) (v := ?vv17) 24 rfl rfl (by kernel_rfl) (by kernel_rfl) (by kernel_rfl) (fun _ _ _ h => h) (Or.inl ⟨by kernel_rfl, ?yy17⟩) (by assumption) ?_
        case yy17 =>
          intro wq hSw
          obtain ⟨z0, z1, z2, z3, z4, z5, z6, z7⟩ := hSw
          go_simp
          (try with_reducible rfl)
        simp only [List.setIfInBounds_toArray, List.set_cons_zero, List.set_cons_succ]
        refine takeH (i := 8) (v := ?vv18) 25 rfl rfl (by kernel_rfl) (by kernel_rfl) (by kernel_rfl) (fun _ _ _ h => h) (Or.inl ⟨by kernel_rfl, ?yy18⟩) (by assumption) ?_
        case yy18 => intro w hSw; (try dsimp only at hSw); go_simp; (try with_reducible rfl)
        simp only [List.setIfInBounds_toArray, List.set_cons_zero, List.set_cons_succ]
        refine wpAnyH_done (by kernel_rfl) ?_ _
        go_wp2
        go_ret
        exact ⟨by rw [HF.out] <;> rfl, HB.out.trans (Below.refl _ _).drew⟩
      have t1 : (xt == yt) = true := by rw [e1]; simp
      by_cases e2 : xn = yn
      rotate_left
      · have t2 : (xn == yn) = false := by rw [beq_eq_false_iff_ne]; exact e2
        have HF := Lib.hid (same_no hlt hlt2 HQ.out (by rw [hx, hy]; intro e; exact e2 (by injection e)))
        have HX := Lib.hid hx; have HY := Lib.hid hy; clear hx hy e0 e1 e2
        go_upto_region 6 with (fail)
        go_wp2_with fail
        refine wp_region_held_drew (S := (fun w' => w'.cell? ⟨ba, oa + k * 4, none⟩ = some (.int .i64 xk) ∧ w'.cell? ⟨ba, oa + k * 4 + 1, none⟩ = some (.string (bs xt)) ∧ w'.cell? ⟨ba, oa + k * 4 + 2, none⟩ = some (.int .i64 xn) ∧ w'.cell? ⟨ba, oa + k * 4 + 3, none⟩ = some (.int .i64 xl) ∧ w'.cell? ⟨bb, ob + k * 4, none⟩ = some (.int .i64 yk) ∧ w'.cell? ⟨bb, ob + k * 4 + 1, none⟩ = some (.string (bs yt)) ∧ w'.cell? ⟨bb, ob + k * 4 + 2, none⟩ = some (.int .i64 yn) ∧ w'.cell? ⟨bb, ob + k * 4 + 3, none⟩ = some (.int .i64 yl))) (by kernel_rfl) ?_ (fun hHeld => ?_)
        · exact HS0.out
        refine takeH (i := 0) (v := ?vv19) 17 rfl rfl (by kernel_rfl) (by kernel_rfl) (by kernel_rfl) (fun _ _ _ h => h) (Or.inl ⟨by kernel_rfl, ?yy19⟩) (by assumption) ?_
        case yy19 => intro w hSw; (try dsimp only at hSw); go_simp; (try with_reducible rfl)
        simp only [List.setIfInBounds_toArray, List.set_cons_zero, List.set_cons_succ]
        refine takeH (i := 1) (v := ?vv20) 18 rfl rfl (by kernel_rfl) (by kernel_rfl) (by kernel_rfl) (fun _ _ _ h => h) (Or.inl ⟨by kernel_rfl, ?yy20⟩) (by assumption) ?_
        case yy20 => intro w hSw; (try dsimp only at hSw); go_simp; (try with_reducible rfl)
        simp only [List.setIfInBounds_toArray, List.set_cons_zero, List.set_cons_succ]
        refine takeH (i := 2) (v := ?vv21) 19 rfl rfl (by kernel_rfl) (by kernel_rfl) (by kernel_rfl) (fun _ _ _ h => h) (Or.inl ⟨by kernel_rfl, ?yy21⟩) (by assumption) ?_
        case yy21 => intro w hSw; (try dsimp only at hSw); go_simp; (try with_reducible rfl)
        simp only [List.setIfInBounds_toArray, List.set_cons_zero, List.set_cons_succ]
        refine takeH (i := 3) (v := ?vv22) 20 rfl rfl (by kernel_rfl) (by kernel_rfl) (by kernel_rfl) (fun _ _ _ h => h) (Or.inl ⟨by kernel_rfl, ?yy22⟩) (by assumption) ?_
        case yy22 =>
          intro wq hSw
          obtain ⟨z0, z1, z2, z3, z4, z5, z6, z7⟩ := hSw
          go_simp
          (try with_reducible rfl)
        simp only [List.setIfInBounds_toArray, List.set_cons_zero, List.set_cons_succ]
        refine takeH (i := 4) (v := ?vv23) 21 rfl rfl (by kernel_rfl) (by kernel_rfl) (by kernel_rfl) (fun _ _ _ h => h) (Or.inl ⟨by kernel_rfl, ?yy23⟩) (by assumption) ?_
        case yy23 => intro w hSw; (try dsimp only at hSw); go_simp; (try with_reducible rfl)
        simp only [List.setIfInBounds_toArray, List.set_cons_zero, List.set_cons_succ]
        refine takeH (i := 5) (v := ?vv24) 22 rfl rfl (by kernel_rfl) (by kernel_rfl) (by kernel_rfl) (fun _ _ _ h => h) (Or.inl ⟨by kernel_rfl, ?yy24⟩) (by assumption) ?_
        case yy24 => intro w hSw; (try dsimp only at hSw); go_simp; (try with_reducible rfl)
        simp only [List.setIfInBounds_toArray, List.set_cons_zero, List.set_cons_succ]
        refine takeH (i := 6) (v := ?vv25) 23 rfl rfl (by kernel_rfl) (by kernel_rfl) (by kernel_rfl) (fun _ _ _ h => h) (Or.inl ⟨by kernel_rfl, ?yy25⟩) (by assumption) ?_
        case yy25 => intro w hSw; (try dsimp only at hSw); go_simp; (try with_reducible rfl)
        simp only [List.setIfInBounds_toArray, List.set_cons_zero, List.set_cons_succ]
        refine takeH (i := 7) (v := ?vv26) 24 rfl rfl (by kernel_rfl) (by kernel_rfl) (by kernel_rfl) (fun _ _ _ h => h) (Or.inl ⟨by kernel_rfl, ?yy26⟩) (by assumption) ?_
        case yy26 =>
          intro wq hSw
          obtain ⟨z0, z1, z2, z3, z4, z5, z6, z7⟩ := hSw
          go_simp
          (try with_reducible rfl)
        simp only [List.setIfInBounds_toArray, List.set_cons_zero, List.set_cons_succ]
        refine takeH (i := 8) (v := ?vv27) 25 rfl rfl (by kernel_rfl) (by kernel_rfl) (by kernel_rfl) (fun _ _ _ h => h) (Or.inl ⟨by kernel_rfl, ?yy27⟩) (by assumption) ?_
        case yy27 => intro w hSw; (try dsimp only at hSw); go_simp; (try with_reducible rfl)
        simp only [List.setIfInBounds_toArray, List.set_cons_zero, List.set_cons_succ]
        refine wpAnyH_done (by kernel_rfl) ?_ _
        go_wp2
        go_ret
        exact ⟨by rw [HF.out] <;> rfl, HB.out.trans (Below.refl _ _).drew⟩
      have t2 : (xn == yn) = true := by rw [e2]; simp
      by_cases e3 : xl = yl
      rotate_left
      · have t3 : (xl == yl) = false := by rw [beq_eq_false_iff_ne]; exact e3
        have HF := Lib.hid (same_no hlt hlt2 HQ.out (by rw [hx, hy]; intro e; exact e3 (by injection e)))
        have HX := Lib.hid hx; have HY := Lib.hid hy; clear hx hy e0 e1 e2 e3
        go_upto_region 6 with (fail)
        go_wp2_with fail
        refine wp_region_held_drew (S := (fun w' => w'.cell? ⟨ba, oa + k * 4, none⟩ = some (.int .i64 xk) ∧ w'.cell? ⟨ba, oa + k * 4 + 1, none⟩ = some (.string (bs xt)) ∧ w'.cell? ⟨ba, oa + k * 4 + 2, none⟩ = some (.int .i64 xn) ∧ w'.cell? ⟨ba, oa + k * 4 + 3, none⟩ = some (.int .i64 xl) ∧ w'.cell? ⟨bb, ob + k * 4, none⟩ = some (.int .i64 yk) ∧ w'.cell? ⟨bb, ob + k * 4 + 1, none⟩ = some (.string (bs yt)) ∧ w'.cell? ⟨bb, ob + k * 4 + 2, none⟩ = some (.int .i64 yn) ∧ w'.cell? ⟨bb, ob + k * 4 + 3, none⟩ = some (.int .i64 yl))) (by kernel_rfl) ?_ (fun hHeld => ?_)
        · exact HS0.out
        refine takeH (i := 0) (v := ?vv28) 17 rfl rfl (by kernel_rfl) (by kernel_rfl) (by kernel_rfl) (fun _ _ _ h => h) (Or.inl ⟨by kernel_rfl, ?yy28⟩) (by assumption) ?_
        case yy28 => intro w hSw; (try dsimp only at hSw); go_simp; (try with_reducible rfl)
        simp only [List.setIfInBounds_toArray, List.set_cons_zero, List.set_cons_succ]
        refine takeH (i := 1) (v := ?vv29) 18 rfl rfl (by kernel_rfl) (by kernel_rfl) (by kernel_rfl) (fun _ _ _ h => h) (Or.inl ⟨by kernel_rfl, ?yy29⟩) (by assumption) ?_
        case yy29 => intro w hSw; (try dsimp only at hSw); go_simp; (try with_reducible rfl)
        simp only [List.setIfInBounds_toArray, List.set_cons_zero, List.set_cons_succ]
        refine takeH (i := 2) (v := ?vv30) 19 rfl rfl (by kernel_rfl) (by kernel_rfl) (by kernel_rfl) (fun _ _ _ h => h) (Or.inl ⟨by kernel_rfl, ?yy30⟩) (by assumption) ?_
        case yy30 => intro w hSw; (try dsimp only at hSw); go_simp; (try with_reducible rfl)
        simp only [List.setIfInBounds_toArray, List.set_cons_zero, List.set_cons_succ]
        refine takeH (i := 3) (v := ?vv31) 20 rfl rfl (by kernel_rfl) (by kernel_rfl) (by kernel_rfl) (fun _ _ _ h => h) (Or.inl ⟨by kernel_rfl, ?yy31⟩) (by assumption) ?_
        case yy31 =>
          intro wq hSw
          obtain ⟨z0, z1, z2, z3, z4, z5, z6, z7⟩ := hSw
          go_simp
          (try with_reducible rfl)
        simp only [List.setIfInBounds_toArray, List.set_cons_zero, List.set_cons_succ]
        refine takeH (i := 4) (v := ?vv32) 21 rfl rfl (by kernel_rfl) (by kernel_rfl) (by kernel_rfl) (fun _ _ _ h => h) (Or.inl ⟨by kernel_rfl, ?yy32⟩) (by assumption) ?_
        case yy32 => intro w hSw; (try dsimp only at hSw); go_simp; (try with_reducible rfl)
        simp only [List.setIfInBounds_toArray, List.set_cons_zero, List.set_cons_succ]
        refine takeH (i := 5) (v := ?vv33) 22 rfl rfl (by kernel_rfl) (by kernel_rfl) (by kernel_rfl) (fun _ _ _ h => h) (Or.inl ⟨by kernel_rfl, ?yy33⟩) (by assumption) ?_
        case yy33 => intro w hSw; (try dsimp only at hSw); go_simp; (try with_reducible rfl)
        simp only [List.setIfInBounds_toArray, List.set_cons_zero, List.set_cons_succ]
        refine takeH (i := 6) (v := ?vv34) 23 rfl rfl (by kernel_rfl) (by kernel_rfl) (by kernel_rfl) (fun _ _ _ h => h) (Or.inl ⟨by kernel_rfl, ?yy34⟩) (by assumption) ?_
        case yy34 => intro w hSw; (try dsimp only at hSw); go_simp; (try with_reducible rfl)
        simp only [List.setIfInBounds_toArray, List.set_cons_zero, List.set_cons_succ]
        refine takeH (i := 7) (v := ?vv35) 24 rfl rfl (by kernel_rfl) (by kernel_rfl) (by kernel_rfl) (fun _ _ _ h => h) (Or.inl ⟨by kernel_rfl, ?yy35⟩) (by assumption) ?_
        case yy35 =>
          intro wq hSw
          obtain ⟨z0, z1, z2, z3, z4, z5, z6, z7⟩ := hSw
          go_simp
          (try with_reducible rfl)
        simp only [List.setIfInBounds_toArray, List.set_cons_zero, List.set_cons_succ]
        refine takeH (i := 8) (v := ?vv36) 25 rfl rfl (by kernel_rfl) (by kernel_rfl) (by kernel_rfl) (fun _ _ _ h => h) (Or.inl ⟨by kernel_rfl, ?yy36⟩) (by assumption) ?_
        case yy36 => intro w hSw; (try dsimp only at hSw); go_simp; (try with_reducible rfl)
        simp only [List.setIfInBounds_toArray, List.set_cons_zero, List.set_cons_succ]
        refine wpAnyH_done (by kernel_rfl) ?_ _
        go_wp2
        go_ret
        exact ⟨by rw [HF.out] <;> rfl, HB.out.trans (Below.refl _ _).drew⟩
      have t3 : (xl == yl) = true := by rw [e3]; simp
      have HN := Lib.hid (same_go hlt hlt2 HQ.out (by rw [hx, hy, e0, e1, e2, e3]))
      have HX := Lib.hid hx; have HY := Lib.hid hy; clear hx hy e0 e1 e2 e3
      go_upto_region 6 with (fail)
      go_wp2_with fail
      refine wp_region_held_drew (S := (fun w' => w'.cell? ⟨ba, oa + k * 4, none⟩ = some (.int .i64 xk) ∧ w'.cell? ⟨ba, oa + k * 4 + 1, none⟩ = some (.string (bs xt)) ∧ w'.cell? ⟨ba, oa + k * 4 + 2, none⟩ = some (.int .i64 xn) ∧ w'.cell? ⟨ba, oa + k * 4 + 3, none⟩ = some (.int .i64 xl) ∧ w'.cell? ⟨bb, ob + k * 4, none⟩ = some (.int .i64 yk) ∧ w'.cell? ⟨bb, ob + k * 4 + 1, none⟩ = some (.string (bs yt)) ∧ w'.cell? ⟨bb, ob + k * 4 + 2, none⟩ = some (.int .i64 yn) ∧ w'.cell? ⟨bb, ob + k * 4 + 3, none⟩ = some (.int .i64 yl))) (by kernel_rfl) ?_ (fun hHeld => ?_)
      · exact HS0.out
      refine takeH (i := 0) (v := ?vv37) 17 rfl rfl (by kernel_rfl) (by kernel_rfl) (by kernel_rfl) (fun _ _ _ h => h) (Or.inl ⟨by kernel_rfl, ?yy37⟩) (by assumption) ?_
      case yy37 => intro w hSw; (try dsimp only at hSw); go_simp; (try with_reducible rfl)
      simp only [List.setIfInBounds_toArray, List.set_cons_zero, List.set_cons_succ]
      refine takeH (i := 1) (v := ?vv38) 18 rfl rfl (by kernel_rfl) (by kernel_rfl) (by kernel_rfl) (fun _ _ _ h => h) (Or.inl ⟨by kernel_rfl, ?yy38⟩) (by assumption) ?_
      case yy38 => intro w hSw; (try dsimp only at hSw); go_simp; (try with_reducible rfl)
      simp only [List.setIfInBounds_toArray, List.set_cons_zero, List.set_cons_succ]
      refine takeH (i := 2) (v := ?vv39) 19 rfl rfl (by kernel_rfl) (by kernel_rfl) (by kernel_rfl) (fun _ _ _ h => h) (Or.inl ⟨by kernel_rfl, ?yy39⟩) (by assumption) ?_
      case yy39 => intro w hSw; (try dsimp only at hSw); go_simp; (try with_reducible rfl)
      simp only [List.setIfInBounds_toArray, List.set_cons_zero, List.set_cons_succ]
      refine takeH (i := 3) (v := ?vv40) 20 rfl rfl (by kernel_rfl) (by kernel_rfl) (by kernel_rfl) (fun _ _ _ h => h) (Or.inl ⟨by kernel_rfl, ?yy40⟩) (by assumption) ?_
      case yy40 =>
        intro wq hSw
        obtain ⟨z0, z1, z2, z3, z4, z5, z6, z7⟩ := hSw
        go_simp
        (try with_reducible rfl)
      simp only [List.setIfInBounds_toArray, List.set_cons_zero, List.set_cons_succ]
      refine takeH (i := 4) (v := ?vv41) 21 rfl rfl (by kernel_rfl) (by kernel_rfl) (by kernel_rfl) (fun _ _ _ h => h) (Or.inl ⟨by kernel_rfl, ?yy41⟩) (by assumption) ?_
      case yy41 => intro w hSw; (try dsimp only at hSw); go_simp; (try with_reducible rfl)
      simp only [List.setIfInBounds_toArray, List.set_cons_zero, List.set_cons_succ]
      refine takeH (i := 5) (v := ?vv42) 22 rfl rfl (by kernel_rfl) (by kernel_rfl) (by kernel_rfl) (fun _ _ _ h => h) (Or.inl ⟨by kernel_rfl, ?yy42⟩) (by assumption) ?_
      case yy42 => intro w hSw; (try dsimp only at hSw); go_simp; (try with_reducible rfl)
      simp only [List.setIfInBounds_toArray, List.set_cons_zero, List.set_cons_succ]
      refine takeH (i := 6) (v := ?vv43) 23 rfl rfl (by kernel_rfl) (by kernel_rfl) (by kernel_rfl) (fun _ _ _ h => h) (Or.inl ⟨by kernel_rfl, ?yy43⟩) (by assumption) ?_
      case yy43 => intro w hSw; (try dsimp only at hSw); go_simp; (try with_reducible rfl)
      simp only [List.setIfInBounds_toArray, List.set_cons_zero, List.set_cons_succ]
      refine takeH (i := 7) (v := ?vv44) 24 rfl rfl (by kernel_rfl) (by kernel_rfl) (by kernel_rfl) (fun _ _ _ h => h) (Or.inl ⟨by kernel_rfl, ?yy44⟩) (by assumption) ?_
      case yy44 =>
        intro wq hSw
        obtain ⟨z0, z1, z2, z3, z4, z5, z6, z7⟩ := hSw
        go_simp
        (try with_reducible rfl)
      simp only [List.setIfInBounds_toArray, List.set_cons_zero, List.set_cons_succ]
      refine takeH (i := 8) (v := ?vv45) 25 rfl rfl (by kernel_rfl) (by kernel_rfl) (by kernel_rfl) (fun _ _ _ h => h) (Or.inl ⟨by kernel_rfl, ?yy45⟩) (by assumption) ?_
      case yy45 => intro w hSw; (try dsimp only at hSw); go_simp; (try with_reducible rfl)
      simp only [List.setIfInBounds_toArray, List.set_cons_zero, List.set_cons_succ]
      refine wpAnyH_done (by kernel_rfl) ?_ _
      go_wp2
      go_roundw
      case rel => exact ⟨k + 1, by omega, by go_num, HN, HB.out.trans (Below.refl _ _).drew⟩
      case measure => simp [intOf]; omega
    · have hlt' : ¬ (k : Int) < (M.length : Int) := by omega
      have HF := Lib.hid (show R = true by rw [← HQ.out, List.drop_of_length_le (by omega), List.drop_of_length_le (by rw [← HL.out]; omega)]; rfl)
      go_wp2
      go_ret
      exact ⟨by rw [HF.out] <;> rfl, HB.out⟩
theorem lx1 : tokenS [108, 101, 116, 32, 120, 61, 49, 48, 59, 32, 35, 32, 116, 101, 110] = ([⟨2, [108, 101, 116], 0, 1⟩, ⟨1, [120], 0, 1⟩, ⟨5, [61], 0, 1⟩, ⟨3, [], 10, 1⟩, ⟨5, [59], 0, 1⟩], 0, 0) := by decide +kernel
theorem lx2 : tokenS [97, 10, 49, 120] = ([], 2, 5) := by decide +kernel
theorem lx3 : quoL [115, 97, 121, 32, 34, 104, 105, 34] = ([34, 115, 97, 121, 32, 92, 34, 104, 105, 92, 34, 34], 0) := by decide +kernel
set_option maxRecDepth 100000 in
set_option maxHeartbeats 8000000 in
theorem lives_any (w : World) (hL : Laid w) :
    Calls Tryd.prog 9 #[] w fun e w' => e = .returned (.bool true) ∧ Below w.heap.size w w' := by
  have HB := Lib.hid (Below.refl w.heap.size w)
  go_enter Tryd.func9, Tryd.ntmps9
  go_wp2_with fail
  refine (Tokenize_any [108, 101, 116, 32, 120, 61, 49, 48, 59, 32, 35, 32, 116, 101, 110] (by decide) _ (hL.below HB.out)).mono ?_
  rw [lx1]
  rintro er w1 ⟨v1, rfl, hc1, hb1⟩
  have HC1 := Lib.hid hc1; have HB := Lib.hid (btrans HB.out HB.out.size hb1)
  clear hc1 hb1
  go_wp2_with fail
  refine (Tokenize_any [97, 10, 49, 120] (by decide) _ (hL.below HB.out)).mono ?_
  rw [lx2]
  rintro er w2 ⟨v2, rfl, hc2, hb1⟩
  have HC2 := Lib.hid hc2; have HB := Lib.hid (btrans HB.out HB.out.size hb1)
  have HC1 := Lib.hid (HC1.out.below hb1); clear hc2 hb1
  go_wp2_with fail
  refine (LQuote_any [115, 97, 121, 32, 34, 104, 105, 34] (by decide) _).mono ?_
  rw [lx3]
  rintro er w3 ⟨rfl, hb1⟩
  have HC1 := Lib.hid (HC1.out.below hb1); have HB := Lib.hid (btrans HB.out HB.out.size hb1); clear hb1
  have hal := (Below.refl w3.heap.size w3).alloc (Nat.le_refl _) (.cells #[.int .i64 2, .string (bs [108, 101, 116]), .int .i64 0, .int .i64 1, .int .i64 1, .string (bs [120]), .int .i64 0, .int .i64 1, .int .i64 5, .string (bs [61]), .int .i64 0, .int .i64 1, .int .i64 3, .string (bs []), .int .i64 10, .int .i64 1, .int .i64 5, .string (bs [59]), .int .i64 0, .int .i64 1] 37)
  have HX := Lib.hid (Bx.new w3 #[.int .i64 2, .string (bs [108, 101, 116]), .int .i64 0, .int .i64 1, .int .i64 1, .string (bs [120]), .int .i64 0, .int .i64 1, .int .i64 5, .string (bs [61]), .int .i64 0, .int .i64 1, .int .i64 3, .string (bs []), .int .i64 10, .int .i64 1, .int .i64 5, .string (bs [59]), .int .i64 0, .int .i64 1] 37)
  have hx : CellsAt (w3.alloc (.cells #[.int .i64 2, .string (bs [108, 101, 116]), .int .i64 0, .int .i64 1, .int .i64 1, .string (bs [120]), .int .i64 0, .int .i64 1, .int .i64 5, .string (bs [61]), .int .i64 0, .int .i64 1, .int .i64 3, .string (bs []), .int .i64 10, .int .i64 1, .int .i64 5, .string (bs [59]), .int .i64 0, .int .i64 1] 37)) (.slice (some ⟨w3.heap.size, 0, none⟩) 5 5) 5 (tkLs [⟨2, [108, 101, 116], 0, 1⟩, ⟨1, [120], 0, 1⟩, ⟨5, [61], 0, 1⟩, ⟨3, [], 10, 1⟩, ⟨5, [59], 0, 1⟩]) := by
    refine ⟨_, _, rfl, fun _ => ⟨_, _, rfl, fun j y hj => ?_⟩⟩
    rw [Nat.zero_add, HX.out.cell j, ← hj]
    have hj2 : j < 20 := by
      rcases Nat.lt_or_ge j 20 with h | h
      · exact h
      · rw [List.getElem?_eq_none (by exact h)] at hj; cases hj
    match j, hj2 with
    | 0, _ => rfl
    | 1, _ => rfl
    | 2, _ => rfl
    | 3, _ => rfl
    | 4, _ => rfl
    | 5, _ => rfl
    | 6, _ => rfl
    | 7, _ => rfl
    | 8, _ => rfl
    | 9, _ => rfl
    | 10, _ => rfl
    | 11, _ => rfl
    | 12, _ => rfl
    | 13, _ => rfl
    | 14, _ => rfl
    | 15, _ => rfl
    | 16, _ => rfl
    | 17, _ => rfl
    | 18, _ => rfl
    | 19, _ => rfl
    | q + 20, h => exact absurd h (by omega)
  have HXC := Lib.hid hx; have HC1 := Lib.hid (HC1.out.below hal); have HB := Lib.hid (btrans HB.out HB.out.size hal); clear hx hal HX
  go_wp2_with fail
  refine (Same_any _ _ [⟨2, [108, 101, 116], 0, 1⟩, ⟨1, [120], 0, 1⟩, ⟨5, [61], 0, 1⟩, ⟨3, [], 10, 1⟩, ⟨5, [59], 0, 1⟩] [⟨2, [108, 101, 116], 0, 1⟩, ⟨1, [120], 0, 1⟩, ⟨5, [61], 0, 1⟩, ⟨3, [], 10, 1⟩, ⟨5, [59], 0, 1⟩] _ HC1.out HXC.out (by decide)).mono ?_
  rw [decide_eq_true rfl]
  rintro er w4 ⟨rfl, hb1⟩
  go_wp2
  go_ret
  exact ⟨rfl, btrans HB.out HB.out.size hb1⟩
set_option maxRecDepth 100000 in
set_option maxHeartbeats 8000000 in
theorem wordsWalk (l : List UInt8) (hl : l.length ≤ 140737488351232) (w : World) (hL : Laid w) :
    Calls Tryd.prog 3 #[.string (bs l)] w fun e w' => e = .returned (.bool true) ∧ Below w.heap.size w w' := by
  by_cases h3 : (200 : Int) < (l.length : Int)
  · skip
    go_enter Tryd.func3, Tryd.ntmps3
    go_wp2_with fail
    refine (lives_any _ hL).mono ?_
    rintro er wz ⟨rfl, hbz⟩
    go_wp2
    go_ret
    exact ⟨rfl, hbz⟩
  have hl6 : l.length ≤ 1000000 := by omega
  have hl7 : l.length ≤ 9223372036854775807 := by omega
  obtain ⟨⟨T, e⟩, hq⟩ : ∃ r, quoL l = r := ⟨_, rfl⟩
  obtain ⟨b1, h1⟩ : ∃ b, isKw l = b := ⟨_, rfl⟩
  obtain ⟨b2, h2⟩ : ∃ b, isNm l = b := ⟨_, rfl⟩
  have q1 : (b1 == b1) = true := by simp
  have q2 : (b2 == b2) = true := by simp
  have q3 : (T == T) = true := by simp
  have q4 : (e == e) = true := by simp
  have HQ := Lib.hid hq; have H1 := Lib.hid h1; have H2 := Lib.hid h2; clear hq h1 h2
  have HB := Lib.hid (Below.refl w.heap.size w)
  go_enter Tryd.func3, Tryd.ntmps3
  go_wp2_with fail
  refine (LQuote_any l hl7 _).mono ?_
  rw [HQ.out]
  rintro er w1 ⟨rfl, hb1⟩
  have HB := Lib.hid (btrans HB.out HB.out.size hb1); clear hb1
  go_wp2_with fail
  refine (RLQuote_any l hl7 _).mono ?_
  rw [HQ.out]
  rintro er w2 ⟨rfl, hb1⟩
  have HB := Lib.hid (btrans HB.out HB.out.size hb1); clear hb1
  go_wp2_with fail
  refine (IsKeyword_any l _).mono ?_
  rw [H1.out]
  rintro er w3 ⟨rfl, rfl⟩
  go_wp2_with fail
  refine (RIsKeyword_any l _).mono ?_
  rw [H1.out]
  rintro er w4 ⟨rfl, hb1⟩
  have HB := Lib.hid (btrans HB.out HB.out.size hb1); clear hb1
  go_wp2_with fail
  refine (IsName_any l hl6 _).mono ?_
  rw [H2.out]
  rintro er w5 ⟨rfl, hb1⟩
  have HB := Lib.hid (btrans HB.out HB.out.size hb1); clear hb1
  go_wp2_with fail
  refine (RIsName_any l hl6 _).mono ?_
  rw [H2.out]
  rintro er w6 ⟨rfl, hb1⟩
  have HB := Lib.hid (btrans HB.out HB.out.size hb1); clear hb1
  go_wp2_with fail
  refine (lives_any _ (hL.below HB.out)).mono ?_
  rintro er wz ⟨rfl, hbz⟩
  go_wp2
  go_ret
  exact ⟨rfl, btrans HB.out HB.out.size hbz⟩
end Go.Proofs.YthdioaolnbdbgaaDoor
