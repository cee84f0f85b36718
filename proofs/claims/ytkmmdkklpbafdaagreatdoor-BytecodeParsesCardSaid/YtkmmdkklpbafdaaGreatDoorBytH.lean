/- The walks of layer 16's Equal, of the reference's Equal, Few, Takes and Step. No conditions. -/
import Derived.Test.YtkmmdkklpbafdaaGreatDoorBytG
namespace Go.Proofs.YtkmmdkklpbafdaaGreatDoor
open Go.RowKit

theorem eq_no {α : Type} [DecidableEq α] {M N : List α} {k : Nat} {R : Bool} (hk : k < M.length) (hn : k < N.length) (h : decide (M.drop k = N.drop k) = R) (hne : M[k] ≠ N[k]) : R = false := by
  rw [← h, List.drop_eq_getElem_cons hk, List.drop_eq_getElem_cons hn, decide_eq_false]; intro e; exact hne (List.cons.inj e).1
theorem eq_go {α : Type} [DecidableEq α] {M N : List α} {k : Nat} {R : Bool} (hk : k < M.length) (hn : k < N.length) (h : decide (M.drop k = N.drop k) = R) (he : M[k] = N[k]) : decide (M.drop (k + 1) = N.drop (k + 1)) = R := by
  rw [← h, List.drop_eq_getElem_cons hk, List.drop_eq_getElem_cons hn, he]; congr 1; rw [eq_iff_iff]; exact ⟨fun e => by rw [e], fun e => (List.cons.inj e).2⟩
def fewS (c : Cd) : Bool := !(decide (80 < c.l.length) || decide (80 < c.p.length)) && c.l.all fun x => decide (x.s.length ≤ 200)
theorem few_big {c : Cd} (h : 80 < c.l.length ∨ 80 < c.p.length) : fewS c = false := by unfold fewS; rcases h with h | h <;> simp [h]
theorem few_no {c : Cd} (h : (c.l.all fun x => decide (x.s.length ≤ 200)) = false) : fewS c = false := by unfold fewS; rw [h, Bool.and_false]
theorem few_yes {c : Cd} (h1 : ¬ 80 < c.l.length) (h2 : ¬ 80 < c.p.length) (h : (c.l.all fun x => decide (x.s.length ≤ 200)) = true) : fewS c = true := by unfold fewS; rw [h, decide_eq_false h1, decide_eq_false h2]; rfl
theorem few_parts {c : Cd} (h : fewS c = true) : c.l.length ≤ 80 ∧ c.p.length ≤ 80 ∧ ∀ x ∈ c.l, x.s.length ≤ 200 := by
  unfold fewS at h
  simp only [Bool.and_eq_true, Bool.not_eq_true', Bool.or_eq_false_iff, decide_eq_false_iff_not, List.all_eq_true, decide_eq_true_eq] at h
  exact ⟨by omega, by omega, h.2⟩

set_option maxRecDepth 100000 in
set_option maxHeartbeats 8000000 in
theorem eqInt_any (va vb : Value) (M N : List Int) (w : World) (hA : CellsAt w va M.length (intsL M)) (hC : CellsAt w vb N.length (intsL N)) (hM : M.length ≤ 9223372036854775807) :
    Calls Tryz.prog 49 #[va, vb] w fun e w' => e = .returned (.bool (decide (M = N))) ∧ Below w.heap.size w w' := by
  obtain ⟨aa, ca, rfl, -⟩ := id hA
  obtain ⟨ab, cb, rfl, -⟩ := id hC
  by_cases hl : M.length = N.length
  rotate_left
  · have tl : ((M.length : Int) != (N.length : Int)) = true := by rw [bne_iff_ne]; omega
    have hr : decide (M = N) = false := by rw [decide_eq_false]; intro e; exact hl (by rw [e])
    rw [hr]
    have HL := Lib.hid hl; clear hl hr
    go_enter Tryz.func49, Tryz.ntmps49
    go_wp2
    go_ret
    exact ⟨rfl, Below.refl _ _⟩
  have tl : ((M.length : Int) != (N.length : Int)) = false := by rw [hl]; simp
  obtain ⟨R, hR⟩ : ∃ R, decide (M = N) = R := ⟨_, rfl⟩
  rw [hR]
  have HL := Lib.hid hl; have HR := Lib.hid (show decide (M.drop 0 = N.drop 0) = R from hR); have HA := Lib.hid hA; have HC := Lib.hid hC; clear hl hR hA hC
  go_enter Tryz.func49, Tryz.ntmps49
  go_wp2
  go_loopw [13] (fun i wr => ∃ k : Nat, k ≤ M.length ∧ i = .int .i64 k ∧ Hid (decide (M.drop k = N.drop k) = R) ∧ Below w.heap.size w wr) (fun i _ => M.length - (intOf i).toNat)
  case atStart => exact ⟨0, Nat.zero_le _, rfl, HR, Below.refl _ _⟩
  case round =>
    obtain ⟨k, hk, rfl, HQ, hB⟩ := hrel
    clear HR
    have HB := Lib.hid hB; clear hB
    by_cases hlt : k < M.length
    · have hlt' : (k : Int) < (M.length : Int) := by omega
      have hlt2 : k < N.length := by rw [← HL.out]; exact hlt
      have hlt3 : (k : Int) < (N.length : Int) := by omega
      have hw1 : IntKind.i64.wrap ((k : Int) + 1) = (k : Int) + 1 := by rw [IntKind.wrap_i64]; omega
      obtain ⟨ba, oa, hae, p0⟩ := int_cells (HA.out.below HB.out) hlt
      cases hae
      obtain ⟨bb, ob, hbe, r0⟩ := int_cells (HC.out.below HB.out) hlt2
      cases hbe
      obtain ⟨u, hx⟩ : ∃ x, M[k] = x := ⟨_, rfl⟩
      obtain ⟨v, hy⟩ : ∃ y, N[k] = y := ⟨_, rfl⟩
      rw [hx] at p0
      rw [hy] at r0
      have hs0 : wr.drew.cell? ⟨ba, oa + k, none⟩ = some (.int .i64 u) ∧ wr.drew.cell? ⟨bb, ob + k, none⟩ = some (.int .i64 v) := ⟨p0, r0⟩
      have HS0 := Lib.hid hs0; clear hs0 p0 r0
      by_cases e0 : u = v
      rotate_left
      · have t0 : (u == v) = false := by rw [beq_eq_false_iff_ne]; exact e0
        have HF := Lib.hid (eq_no hlt hlt2 HQ.out (by rw [hx, hy]; intro e; exact e0 e))
        have HXE := Lib.hid hx; have HYE := Lib.hid hy; clear hx hy e0
        go_upto_region 6 with (fail)
        go_wp2_with fail
        refine wp_region_held_drew (S := (fun w' => w'.cell? ⟨ba, oa + k, none⟩ = some (.int .i64 u) ∧ w'.cell? ⟨bb, ob + k, none⟩ = some (.int .i64 v))) (by kernel_rfl) ?_ (fun hHeld => ?_)
        · exact HS0.out
        refine takeH (i := 0) (v := ?vv1) 16 rfl rfl (by kernel_rfl) (by kernel_rfl) (by kernel_rfl) (fun _ _ _ h => h) (Or.inl ⟨by kernel_rfl, ?yy1⟩) (by assumption) ?_
        case yy1 => intro w hSw; (try dsimp only at hSw); go_simp; (try with_reducible rfl)
        simp only [List.setIfInBounds_toArray, List.set_cons_zero, List.set_cons_succ]
        refine takeH (i := 1) (v := ?vv2) 17 rfl rfl (by kernel_rfl) (by kernel_rfl) (by kernel_rfl) (fun _ _ _ h => h) (Or.inl ⟨by kernel_rfl, ?yy2⟩) (by assumption) ?_
        case yy2 => intro w hSw; (try dsimp only at hSw); go_simp; (try with_reducible rfl)
        simp only [List.setIfInBounds_toArray, List.set_cons_zero, List.set_cons_succ]
        refine takeH (i := 2) (v := ?vv3) 18 rfl rfl (by kernel_rfl) (by kernel_rfl) (by kernel_rfl) (fun _ _ _ h => h) (Or.inl ⟨by kernel_rfl, ?yy3⟩) (by assumption) ?_
        case yy3 => intro w hSw; (try dsimp only at hSw); go_simp; (try with_reducible rfl)
        simp only [List.setIfInBounds_toArray, List.set_cons_zero, List.set_cons_succ]
        refine takeH (i := 3) (v := ?vv4) 19 rfl rfl (by kernel_rfl) (by kernel_rfl) (by kernel_rfl) (fun _ _ _ h => h) (Or.inl ⟨by kernel_rfl, ?yy4⟩) (by assumption) ?_
        case yy4 =>
          intro wq hSw
          have z0 := hSw.1
          clear hSw
          go_simp
          (try with_reducible rfl)
        simp only [List.setIfInBounds_toArray, List.set_cons_zero, List.set_cons_succ]
        refine takeH (i := 4) (v := ?vv5) 20 rfl rfl (by kernel_rfl) (by kernel_rfl) (by kernel_rfl) (fun _ _ _ h => h) (Or.inl ⟨by kernel_rfl, ?yy5⟩) (by assumption) ?_
        case yy5 => intro w hSw; (try dsimp only at hSw); go_simp; (try with_reducible rfl)
        simp only [List.setIfInBounds_toArray, List.set_cons_zero, List.set_cons_succ]
        refine takeH (i := 5) (v := ?vv6) 21 rfl rfl (by kernel_rfl) (by kernel_rfl) (by kernel_rfl) (fun _ _ _ h => h) (Or.inl ⟨by kernel_rfl, ?yy6⟩) (by assumption) ?_
        case yy6 => intro w hSw; (try dsimp only at hSw); go_simp; (try with_reducible rfl)
        simp only [List.setIfInBounds_toArray, List.set_cons_zero, List.set_cons_succ]
        refine takeH (i := 6) (v := ?vv7) 22 rfl rfl (by kernel_rfl) (by kernel_rfl) (by kernel_rfl) (fun _ _ _ h => h) (Or.inl ⟨by kernel_rfl, ?yy7⟩) (by assumption) ?_
        case yy7 => intro w hSw; (try dsimp only at hSw); go_simp; (try with_reducible rfl)
        simp only [List.setIfInBounds_toArray, List.set_cons_zero, List.set_cons_succ]
        refine takeH (i := 7) (v := ?vv8) 23 rfl rfl (by kernel_rfl) (by kernel_rfl) (by kernel_rfl) (fun _ _ _ h => h) (Or.inl ⟨by kernel_rfl, ?yy8⟩) (by assumption) ?_
        case yy8 =>
          intro wq hSw
          have z0 := hSw.2
          clear hSw
          go_simp
          (try with_reducible rfl)
        simp only [List.setIfInBounds_toArray, List.set_cons_zero, List.set_cons_succ]
        refine takeH (i := 8) (v := ?vv9) 24 rfl rfl (by kernel_rfl) (by kernel_rfl) (by kernel_rfl) (fun _ _ _ h => h) (Or.inl ⟨by kernel_rfl, ?yy9⟩) (by assumption) ?_
        case yy9 => intro w hSw; (try dsimp only at hSw); go_simp; (try with_reducible rfl)
        simp only [List.setIfInBounds_toArray, List.set_cons_zero, List.set_cons_succ]
        refine wpAnyH_done (by kernel_rfl) ?_ _
        go_wp2
        go_ret
        exact ⟨by rw [HF.out] <;> rfl, HB.out.trans (Below.refl _ _).drew⟩
      have t0 : (u == v) = true := by rw [e0]; simp
      have HN := Lib.hid (eq_go hlt hlt2 HQ.out (by rw [hx, hy, e0]))
      have HXE := Lib.hid hx; have HYE := Lib.hid hy; clear hx hy e0
      go_upto_region 6 with (fail)
      go_wp2_with fail
      refine wp_region_held_drew (S := (fun w' => w'.cell? ⟨ba, oa + k, none⟩ = some (.int .i64 u) ∧ w'.cell? ⟨bb, ob + k, none⟩ = some (.int .i64 v))) (by kernel_rfl) ?_ (fun hHeld => ?_)
      · exact HS0.out
      refine takeH (i := 0) (v := ?vv10) 16 rfl rfl (by kernel_rfl) (by kernel_rfl) (by kernel_rfl) (fun _ _ _ h => h) (Or.inl ⟨by kernel_rfl, ?yy10⟩) (by assumption) ?_
      case yy10 => intro w hSw; (try dsimp only at hSw); go_simp; (try with_reducible rfl)
      simp only [List.setIfInBounds_toArray, List.set_cons_zero, List.set_cons_succ]
      refine takeH (i := 1) (v := ?vv11) 17 rfl rfl (by kernel_rfl) (by kernel_rfl) (by kernel_rfl) (fun _ _ _ h => h) (Or.inl ⟨by kernel_rfl, ?yy11⟩) (by assumption) ?_
      case yy11 => intro w hSw; (try dsimp only at hSw); go_simp; (try with_reducible rfl)
      simp only [List.setIfInBounds_toArray, List.set_cons_zero, List.set_cons_succ]
      refine takeH (i := 2) (v := ?vv12) 18 rfl rfl (by kernel_rfl) (by kernel_rfl) (by kernel_rfl) (fun _ _ _ h => h) (Or.inl ⟨by kernel_rfl, ?yy12⟩) (by assumption) ?_
      case yy12 => intro w hSw; (try dsimp only at hSw); go_simp; (try with_reducible rfl)
      simp only [List.setIfInBounds_toArray, List.set_cons_zero, List.set_cons_succ]
      refine takeH (i := 3) (v := ?vv13) 19 rfl rfl (by kernel_rfl) (by kernel_rfl) (by kernel_rfl) (fun _ _ _ h => h) (Or.inl ⟨by kernel_rfl, ?yy13⟩) (by assumption) ?_
      case yy13 =>
        intro wq hSw
        have z0 := hSw.1
        clear hSw
        go_simp
        (try with_reducible rfl)
      simp only [List.setIfInBounds_toArray, List.set_cons_zero, List.set_cons_succ]
      refine takeH (i := 4) (v := ?vv14) 20 rfl rfl (by kernel_rfl) (by kernel_rfl) (by kernel_rfl) (fun _ _ _ h => h) (Or.inl ⟨by kernel_rfl, ?yy14⟩) (by assumption) ?_
      case yy14 => intro w hSw; (try dsimp only at hSw); go_simp; (try with_reducible rfl)
      simp only [List.setIfInBounds_toArray, List.set_cons_zero, List.set_cons_succ]
      refine takeH (i := 5) (v := ?vv15) 21 rfl rfl (by kernel_rfl) (by kernel_rfl) (by kernel_rfl) (fun _ _ _ h => h) (Or.inl ⟨by kernel_rfl, ?yy15⟩) (by assumption) ?_
      case yy15 => intro w hSw; (try dsimp only at hSw); go_simp; (try with_reducible rfl)
      simp only [List.setIfInBounds_toArray, List.set_cons_zero, List.set_cons_succ]
      refine takeH (i := 6) (v := ?vv16) 22 rfl rfl (by kernel_rfl) (by kernel_rfl) (by kernel_rfl) (fun _ _ _ h => h) (Or.inl ⟨by kernel_rfl, ?yy16⟩) (by assumption) ?_
      case yy16 => intro w hSw; (try dsimp only at hSw); go_simp; (try with_reducible rfl)
      simp only [List.setIfInBounds_toArray, List.set_cons_zero, List.set_cons_succ]
      refine takeH (i := 7) (v := ?vv17) 23 rfl rfl (by kernel_rfl) (by kernel_rfl) (by kernel_rfl) (fun _ _ _ h => h) (Or.inl ⟨by kernel_rfl, ?yy17⟩) (by assumption) ?_
      case yy17 =>
        intro wq hSw
        have z0 := hSw.2
        clear hSw
        go_simp
        (try with_reducible rfl)
      simp only [List.setIfInBounds_toArray, List.set_cons_zero, List.set_cons_succ]
      refine takeH (i := 8) (v := ?vv18) 24 rfl rfl (by kernel_rfl) (by kernel_rfl) (by kernel_rfl) (fun _ _ _ h => h) (Or.inl ⟨by kernel_rfl, ?yy18⟩) (by assumption) ?_
      case yy18 => intro w hSw; (try dsimp only at hSw); go_simp; (try with_reducible rfl)
      simp only [List.setIfInBounds_toArray, List.set_cons_zero, List.set_cons_succ]
      refine wpAnyH_done (by kernel_rfl) ?_ _
      go_wp2
      go_roundw
      case rel => exact ⟨k + 1, by omega, by go_num, HN, HB.out.trans (Below.refl _ _).drew⟩
      case measure => simp [intOf]; omega
    · have hlt' : ¬ (k : Int) < (M.length : Int) := by omega
      have HF := Lib.hid (show R = true by rw [← HQ.out, List.drop_of_length_le (by omega), List.drop_of_length_le (by rw [← HL.out]; omega)]; rfl)
      go_wp2
      go_ret
      exact ⟨by rw [HF.out] <;> rfl, HB.out⟩
set_option maxRecDepth 100000 in
set_option maxHeartbeats 8000000 in
theorem eqIns_any (va vb : Value) (M N : List Ins) (w : World) (hA : CellsAt w va M.length (insLs M)) (hC : CellsAt w vb N.length (insLs N)) (hM : M.length ≤ 9223372036854775807) :
    Calls Tryz.prog 50 #[va, vb] w fun e w' => e = .returned (.bool (decide (M = N))) ∧ Below w.heap.size w w' := by
  obtain ⟨aa, ca, rfl, -⟩ := id hA
  obtain ⟨ab, cb, rfl, -⟩ := id hC
  by_cases hl : M.length = N.length
  rotate_left
  · have tl : ((M.length : Int) != (N.length : Int)) = true := by rw [bne_iff_ne]; omega
    have hr : decide (M = N) = false := by rw [decide_eq_false]; intro e; exact hl (by rw [e])
    rw [hr]
    have HL := Lib.hid hl; clear hl hr
    go_enter Tryz.func50, Tryz.ntmps50
    go_wp2
    go_ret
    exact ⟨rfl, Below.refl _ _⟩
  have tl : ((M.length : Int) != (N.length : Int)) = false := by rw [hl]; simp
  obtain ⟨R, hR⟩ : ∃ R, decide (M = N) = R := ⟨_, rfl⟩
  rw [hR]
  have HL := Lib.hid hl; have HR := Lib.hid (show decide (M.drop 0 = N.drop 0) = R from hR); have HA := Lib.hid hA; have HC := Lib.hid hC; clear hl hR hA hC
  go_enter Tryz.func50, Tryz.ntmps50
  go_wp2
  go_loopw [13] (fun i wr => ∃ k : Nat, k ≤ M.length ∧ i = .int .i64 k ∧ Hid (decide (M.drop k = N.drop k) = R) ∧ Below w.heap.size w wr) (fun i _ => M.length - (intOf i).toNat)
  case atStart => exact ⟨0, Nat.zero_le _, rfl, HR, Below.refl _ _⟩
  case round =>
    obtain ⟨k, hk, rfl, HQ, hB⟩ := hrel
    clear HR
    have HB := Lib.hid hB; clear hB
    by_cases hlt : k < M.length
    · have hlt' : (k : Int) < (M.length : Int) := by omega
      have hlt2 : k < N.length := by rw [← HL.out]; exact hlt
      have hlt3 : (k : Int) < (N.length : Int) := by omega
      have hw1 : IntKind.i64.wrap ((k : Int) + 1) = (k : Int) + 1 := by rw [IntKind.wrap_i64]; omega
      obtain ⟨ba, oa, hae, p0, p1, p2, p3, p4⟩ := ins_cells (HA.out.below HB.out) hlt
      cases hae
      obtain ⟨bb, ob, hbe, r0, r1, r2, r3, r4⟩ := ins_cells (HC.out.below HB.out) hlt2
      cases hbe
      obtain ⟨⟨op, a, b, n, s⟩, hx⟩ : ∃ x, M[k] = x := ⟨_, rfl⟩
      obtain ⟨⟨yop, ya, yb, yn, ys⟩, hy⟩ : ∃ y, N[k] = y := ⟨_, rfl⟩
      rw [hx] at p0 p1 p2 p3 p4
      rw [hy] at r0 r1 r2 r3 r4
      simp only at p0 p1 p2 p3 p4 r0 r1 r2 r3 r4
      have hs0 : InsAt ba (oa + k * 5) op a b n s wr.drew ∧ InsAt bb (ob + k * 5) yop ya yb yn ys wr.drew := ⟨⟨p0, p1, p2, p3, p4⟩, ⟨r0, r1, r2, r3, r4⟩⟩
      have HS0 := Lib.hid hs0; clear hs0 p0 p1 p2 p3 p4 r0 r1 r2 r3 r4
      by_cases e0 : op = yop
      rotate_left
      · have t0 : (op == yop) = false := by rw [beq_eq_false_iff_ne]; exact e0
        have HF := Lib.hid (eq_no hlt hlt2 HQ.out (by rw [hx, hy]; intro e; exact e0 (by injection e)))
        have HXE := Lib.hid hx; have HYE := Lib.hid hy; clear hx hy e0
        go_upto_region 6 with (fail)
        go_wp2_with fail
        refine wp_region_held_drew (S := (fun w' => InsAt ba (oa + k * 5) op a b n s w' ∧ InsAt bb (ob + k * 5) yop ya yb yn ys w')) (by kernel_rfl) ?_ (fun hHeld => ?_)
        · exact HS0.out
        refine takeH (i := 0) (v := ?vv19) 16 rfl rfl (by kernel_rfl) (by kernel_rfl) (by kernel_rfl) (fun _ _ _ h => h) (Or.inl ⟨by kernel_rfl, ?yy19⟩) (by assumption) ?_
        case yy19 => intro w hSw; (try dsimp only at hSw); go_simp; (try with_reducible rfl)
        simp only [List.setIfInBounds_toArray, List.set_cons_zero, List.set_cons_succ]
        refine takeH (i := 1) (v := ?vv20) 17 rfl rfl (by kernel_rfl) (by kernel_rfl) (by kernel_rfl) (fun _ _ _ h => h) (Or.inl ⟨by kernel_rfl, ?yy20⟩) (by assumption) ?_
        case yy20 => intro w hSw; (try dsimp only at hSw); go_simp; (try with_reducible rfl)
        simp only [List.setIfInBounds_toArray, List.set_cons_zero, List.set_cons_succ]
        refine takeH (i := 2) (v := ?vv21) 18 rfl rfl (by kernel_rfl) (by kernel_rfl) (by kernel_rfl) (fun _ _ _ h => h) (Or.inl ⟨by kernel_rfl, ?yy21⟩) (by assumption) ?_
        case yy21 => intro w hSw; (try dsimp only at hSw); go_simp; (try with_reducible rfl)
        simp only [List.setIfInBounds_toArray, List.set_cons_zero, List.set_cons_succ]
        refine takeH (i := 3) (v := ?vv22) 19 rfl rfl (by kernel_rfl) (by kernel_rfl) (by kernel_rfl) (fun _ _ _ h => h) (Or.inl ⟨by kernel_rfl, ?yy22⟩) (by assumption) ?_
        case yy22 =>
          intro wq hSw
          obtain ⟨z0, z1, z2, z3, z4⟩ := hSw.1
          clear hSw
          go_simp
          (try with_reducible rfl)
        simp only [List.setIfInBounds_toArray, List.set_cons_zero, List.set_cons_succ]
        refine takeH (i := 4) (v := ?vv23) 20 rfl rfl (by kernel_rfl) (by kernel_rfl) (by kernel_rfl) (fun _ _ _ h => h) (Or.inl ⟨by kernel_rfl, ?yy23⟩) (by assumption) ?_
        case yy23 => intro w hSw; (try dsimp only at hSw); go_simp; (try with_reducible rfl)
        simp only [List.setIfInBounds_toArray, List.set_cons_zero, List.set_cons_succ]
        refine takeH (i := 5) (v := ?vv24) 21 rfl rfl (by kernel_rfl) (by kernel_rfl) (by kernel_rfl) (fun _ _ _ h => h) (Or.inl ⟨by kernel_rfl, ?yy24⟩) (by assumption) ?_
        case yy24 => intro w hSw; (try dsimp only at hSw); go_simp; (try with_reducible rfl)
        simp only [List.setIfInBounds_toArray, List.set_cons_zero, List.set_cons_succ]
        refine takeH (i := 6) (v := ?vv25) 22 rfl rfl (by kernel_rfl) (by kernel_rfl) (by kernel_rfl) (fun _ _ _ h => h) (Or.inl ⟨by kernel_rfl, ?yy25⟩) (by assumption) ?_
        case yy25 => intro w hSw; (try dsimp only at hSw); go_simp; (try with_reducible rfl)
        simp only [List.setIfInBounds_toArray, List.set_cons_zero, List.set_cons_succ]
        refine takeH (i := 7) (v := ?vv26) 23 rfl rfl (by kernel_rfl) (by kernel_rfl) (by kernel_rfl) (fun _ _ _ h => h) (Or.inl ⟨by kernel_rfl, ?yy26⟩) (by assumption) ?_
        case yy26 =>
          intro wq hSw
          obtain ⟨z0, z1, z2, z3, z4⟩ := hSw.2
          clear hSw
          go_simp
          (try with_reducible rfl)
        simp only [List.setIfInBounds_toArray, List.set_cons_zero, List.set_cons_succ]
        refine takeH (i := 8) (v := ?vv27) 24 rfl rfl (by kernel_rfl) (by kernel_rfl) (by kernel_rfl) (fun _ _ _ h => h) (Or.inl ⟨by kernel_rfl, ?yy27⟩) (by assumption) ?_
        case yy27 => intro w hSw; (try dsimp only at hSw); go_simp; (try with_reducible rfl)
        simp only [List.setIfInBounds_toArray, List.set_cons_zero, List.set_cons_succ]
        refine wpAnyH_done (by kernel_rfl) ?_ _
        go_wp2
        go_ret
        exact ⟨by rw [HF.out] <;> rfl, HB.out.trans (Below.refl _ _).drew⟩
      have t0 : (op == yop) = true := by rw [e0]; simp
      by_cases e1 : a = ya
      rotate_left
      · have t1 : (a == ya) = false := by rw [beq_eq_false_iff_ne]; exact e1
        have HF := Lib.hid (eq_no hlt hlt2 HQ.out (by rw [hx, hy]; intro e; exact e1 (by injection e)))
        have HXE := Lib.hid hx; have HYE := Lib.hid hy; clear hx hy e0 e1
        go_upto_region 6 with (fail)
        go_wp2_with fail
        refine wp_region_held_drew (S := (fun w' => InsAt ba (oa + k * 5) op a b n s w' ∧ InsAt bb (ob + k * 5) yop ya yb yn ys w')) (by kernel_rfl) ?_ (fun hHeld => ?_)
        · exact HS0.out
        refine takeH (i := 0) (v := ?vv28) 16 rfl rfl (by kernel_rfl) (by kernel_rfl) (by kernel_rfl) (fun _ _ _ h => h) (Or.inl ⟨by kernel_rfl, ?yy28⟩) (by assumption) ?_
        case yy28 => intro w hSw; (try dsimp only at hSw); go_simp; (try with_reducible rfl)
        simp only [List.setIfInBounds_toArray, List.set_cons_zero, List.set_cons_succ]
        refine takeH (i := 1) (v := ?vv29) 17 rfl rfl (by kernel_rfl) (by kernel_rfl) (by kernel_rfl) (fun _ _ _ h => h) (Or.inl ⟨by kernel_rfl, ?yy29⟩) (by assumption) ?_
        case yy29 => intro w hSw; (try dsimp only at hSw); go_simp; (try with_reducible rfl)
        simp only [List.setIfInBounds_toArray, List.set_cons_zero, List.set_cons_succ]
        refine takeH (i := 2) (v := ?vv30) 18 rfl rfl (by kernel_rfl) (by kernel_rfl) (by kernel_rfl) (fun _ _ _ h => h) (Or.inl ⟨by kernel_rfl, ?yy30⟩) (by assumption) ?_
        case yy30 => intro w hSw; (try dsimp only at hSw); go_simp; (try with_reducible rfl)
        simp only [List.setIfInBounds_toArray, List.set_cons_zero, List.set_cons_succ]
        refine takeH (i := 3) (v := ?vv31) 19 rfl rfl (by kernel_rfl) (by kernel_rfl) (by kernel_rfl) (fun _ _ _ h => h) (Or.inl ⟨by kernel_rfl, ?yy31⟩) (by assumption) ?_
        case yy31 =>
          intro wq hSw
          obtain ⟨z0, z1, z2, z3, z4⟩ := hSw.1
          clear hSw
          go_simp
          (try with_reducible rfl)
        simp only [List.setIfInBounds_toArray, List.set_cons_zero, List.set_cons_succ]
        refine takeH (i := 4) (v := ?vv32) 20 rfl rfl (by kernel_rfl) (by kernel_rfl) (by kernel_rfl) (fun _ _ _ h => h) (Or.inl ⟨by kernel_rfl, ?yy32⟩) (by assumption) ?_
        case yy32 => intro w hSw; (try dsimp only at hSw); go_simp; (try with_reducible rfl)
        simp only [List.setIfInBounds_toArray, List.set_cons_zero, List.set_cons_succ]
        refine takeH (i := 5) (v := ?vv33) 21 rfl rfl (by kernel_rfl) (by kernel_rfl) (by kernel_rfl) (fun _ _ _ h => h) (Or.inl ⟨by kernel_rfl, ?yy33⟩) (by assumption) ?_
        case yy33 => intro w hSw; (try dsimp only at hSw); go_simp; (try with_reducible rfl)
        simp only [List.setIfInBounds_toArray, List.set_cons_zero, List.set_cons_succ]
        refine takeH (i := 6) (v := ?vv34) 22 rfl rfl (by kernel_rfl) (by kernel_rfl) (by kernel_rfl) (fun _ _ _ h => h) (Or.inl ⟨by kernel_rfl, ?yy34⟩) (by assumption) ?_
        case yy34 => intro w hSw; (try dsimp only at hSw); go_simp; (try with_reducible rfl)
        simp only [List.setIfInBounds_toArray, List.set_cons_zero, List.set_cons_succ]
        refine takeH (i := 7) (v := ?vv35) 23 rfl rfl (by kernel_rfl) (by kernel_rfl) (by kernel_rfl) (fun _ _ _ h => h) (Or.inl ⟨by kernel_rfl, ?yy35⟩) (by assumption) ?_
        case yy35 =>
          intro wq hSw
          obtain ⟨z0, z1, z2, z3, z4⟩ := hSw.2
          clear hSw
          go_simp
          (try with_reducible rfl)
        simp only [List.setIfInBounds_toArray, List.set_cons_zero, List.set_cons_succ]
        refine takeH (i := 8) (v := ?vv36) 24 rfl rfl (by kernel_rfl) (by kernel_rfl) (by kernel_rfl) (fun _ _ _ h => h) (Or.inl ⟨by kernel_rfl, ?yy36⟩) (by assumption) ?_
        case yy36 => intro w hSw; (try dsimp only at hSw); go_simp; (try with_reducible rfl)
        simp only [List.setIfInBounds_toArray, List.set_cons_zero, List.set_cons_succ]
        refine wpAnyH_done (by kernel_rfl) ?_ _
        go_wp2
        go_ret
        exact ⟨by rw [HF.out] <;> rfl, HB.out.trans (Below.refl _ _).drew⟩
      have t1 : (a == ya) = true := by rw [e1]; simp
      by_cases e2 : b = yb
      rotate_left
      · have t2 : (b == yb) = false := by rw [beq_eq_false_iff_ne]; exact e2
        have HF := Lib.hid (eq_no hlt hlt2 HQ.out (by rw [hx, hy]; intro e; exact e2 (by injection e)))
        have HXE := Lib.hid hx; have HYE := Lib.hid hy; clear hx hy e0 e1 e2
        go_upto_region 6 with (fail)
        go_wp2_with fail
        refine wp_region_held_drew (S := (fun w' => InsAt ba (oa + k * 5) op a b n s w' ∧ InsAt bb (ob + k * 5) yop ya yb yn ys w')) (by kernel_rfl) ?_ (fun hHeld => ?_)
        · exact HS0.out
        refine takeH (i := 0) (v := ?vv37) 16 rfl rfl (by kernel_rfl) (by kernel_rfl) (by kernel_rfl) (fun _ _ _ h => h) (Or.inl ⟨by kernel_rfl, ?yy37⟩) (by assumption) ?_
        case yy37 => intro w hSw; (try dsimp only at hSw); go_simp; (try with_reducible rfl)
        simp only [List.setIfInBounds_toArray, List.set_cons_zero, List.set_cons_succ]
        refine takeH (i := 1) (v := ?vv38) 17 rfl rfl (by kernel_rfl) (by kernel_rfl) (by kernel_rfl) (fun _ _ _ h => h) (Or.inl ⟨by kernel_rfl, ?yy38⟩) (by assumption) ?_
        case yy38 => intro w hSw; (try dsimp only at hSw); go_simp; (try with_reducible rfl)
        simp only [List.setIfInBounds_toArray, List.set_cons_zero, List.set_cons_succ]
        refine takeH (i := 2) (v := ?vv39) 18 rfl rfl (by kernel_rfl) (by kernel_rfl) (by kernel_rfl) (fun _ _ _ h => h) (Or.inl ⟨by kernel_rfl, ?yy39⟩) (by assumption) ?_
        case yy39 => intro w hSw; (try dsimp only at hSw); go_simp; (try with_reducible rfl)
        simp only [List.setIfInBounds_toArray, List.set_cons_zero, List.set_cons_succ]
        refine takeH (i := 3) (v := ?vv40) 19 rfl rfl (by kernel_rfl) (by kernel_rfl) (by kernel_rfl) (fun _ _ _ h => h) (Or.inl ⟨by kernel_rfl, ?yy40⟩) (by assumption) ?_
        case yy40 =>
          intro wq hSw
          obtain ⟨z0, z1, z2, z3, z4⟩ := hSw.1
          clear hSw
          go_simp
          (try with_reducible rfl)
        simp only [List.setIfInBounds_toArray, List.set_cons_zero, List.set_cons_succ]
        refine takeH (i := 4) (v := ?vv41) 20 rfl rfl (by kernel_rfl) (by kernel_rfl) (by kernel_rfl) (fun _ _ _ h => h) (Or.inl ⟨by kernel_rfl, ?yy41⟩) (by assumption) ?_
        case yy41 => intro w hSw; (try dsimp only at hSw); go_simp; (try with_reducible rfl)
        simp only [List.setIfInBounds_toArray, List.set_cons_zero, List.set_cons_succ]
        refine takeH (i := 5) (v := ?vv42) 21 rfl rfl (by kernel_rfl) (by kernel_rfl) (by kernel_rfl) (fun _ _ _ h => h) (Or.inl ⟨by kernel_rfl, ?yy42⟩) (by assumption) ?_
        case yy42 => intro w hSw; (try dsimp only at hSw); go_simp; (try with_reducible rfl)
        simp only [List.setIfInBounds_toArray, List.set_cons_zero, List.set_cons_succ]
        refine takeH (i := 6) (v := ?vv43) 22 rfl rfl (by kernel_rfl) (by kernel_rfl) (by kernel_rfl) (fun _ _ _ h => h) (Or.inl ⟨by kernel_rfl, ?yy43⟩) (by assumption) ?_
        case yy43 => intro w hSw; (try dsimp only at hSw); go_simp; (try with_reducible rfl)
        simp only [List.setIfInBounds_toArray, List.set_cons_zero, List.set_cons_succ]
        refine takeH (i := 7) (v := ?vv44) 23 rfl rfl (by kernel_rfl) (by kernel_rfl) (by kernel_rfl) (fun _ _ _ h => h) (Or.inl ⟨by kernel_rfl, ?yy44⟩) (by assumption) ?_
        case yy44 =>
          intro wq hSw
          obtain ⟨z0, z1, z2, z3, z4⟩ := hSw.2
          clear hSw
          go_simp
          (try with_reducible rfl)
        simp only [List.setIfInBounds_toArray, List.set_cons_zero, List.set_cons_succ]
        refine takeH (i := 8) (v := ?vv45) 24 rfl rfl (by kernel_rfl) (by kernel_rfl) (by kernel_rfl) (fun _ _ _ h => h) (Or.inl ⟨by kernel_rfl, ?yy45⟩) (by assumption) ?_
        case yy45 => intro w hSw; (try dsimp only at hSw); go_simp; (try with_reducible rfl)
        simp only [List.setIfInBounds_toArray, List.set_cons_zero, List.set_cons_succ]
        refine wpAnyH_done (by kernel_rfl) ?_ _
        go_wp2
        go_ret
        exact ⟨by rw [HF.out] <;> rfl, HB.out.trans (Below.refl _ _).drew⟩
      have t2 : (b == yb) = true := by rw [e2]; simp
      by_cases e3 : n = yn
      rotate_left
      · have t3 : (n == yn) = false := by rw [beq_eq_false_iff_ne]; exact e3
        have HF := Lib.hid (eq_no hlt hlt2 HQ.out (by rw [hx, hy]; intro e; exact e3 (by injection e)))
        have HXE := Lib.hid hx; have HYE := Lib.hid hy; clear hx hy e0 e1 e2 e3
        go_upto_region 6 with (fail)
        go_wp2_with fail
        refine wp_region_held_drew (S := (fun w' => InsAt ba (oa + k * 5) op a b n s w' ∧ InsAt bb (ob + k * 5) yop ya yb yn ys w')) (by kernel_rfl) ?_ (fun hHeld => ?_)
        · exact HS0.out
        refine takeH (i := 0) (v := ?vv46) 16 rfl rfl (by kernel_rfl) (by kernel_rfl) (by kernel_rfl) (fun _ _ _ h => h) (Or.inl ⟨by kernel_rfl, ?yy46⟩) (by assumption) ?_
        case yy46 => intro w hSw; (try dsimp only at hSw); go_simp; (try with_reducible rfl)
        simp only [List.setIfInBounds_toArray, List.set_cons_zero, List.set_cons_succ]
        refine takeH (i := 1) (v := ?vv47) 17 rfl rfl (by kernel_rfl) (by kernel_rfl) (by kernel_rfl) (fun _ _ _ h => h) (Or.inl ⟨by kernel_rfl, ?yy47⟩) (by assumption) ?_
        case yy47 => intro w hSw; (try dsimp only at hSw); go_simp; (try with_reducible rfl)
        simp only [List.setIfInBounds_toArray, List.set_cons_zero, List.set_cons_succ]
        refine takeH (i := 2) (v := ?vv48) 18 rfl rfl (by kernel_rfl) (by kernel_rfl) (by kernel_rfl) (fun _ _ _ h => h) (Or.inl ⟨by kernel_rfl, ?yy48⟩) (by assumption) ?_
        case yy48 => intro w hSw; (try dsimp only at hSw); go_simp; (try with_reducible rfl)
        simp only [List.setIfInBounds_toArray, List.set_cons_zero, List.set_cons_succ]
        refine takeH (i := 3) (v := ?vv49) 19 rfl rfl (by kernel_rfl) (by kernel_rfl) (by kernel_rfl) (fun _ _ _ h => h) (Or.inl ⟨by kernel_rfl, ?yy49⟩) (by assumption) ?_
        case yy49 =>
          intro wq hSw
          obtain ⟨z0, z1, z2, z3, z4⟩ := hSw.1
          clear hSw
          go_simp
          (try with_reducible rfl)
        simp only [List.setIfInBounds_toArray, List.set_cons_zero, List.set_cons_succ]
        refine takeH (i := 4) (v := ?vv50) 20 rfl rfl (by kernel_rfl) (by kernel_rfl) (by kernel_rfl) (fun _ _ _ h => h) (Or.inl ⟨by kernel_rfl, ?yy50⟩) (by assumption) ?_
        case yy50 => intro w hSw; (try dsimp only at hSw); go_simp; (try with_reducible rfl)
        simp only [List.setIfInBounds_toArray, List.set_cons_zero, List.set_cons_succ]
        refine takeH (i := 5) (v := ?vv51) 21 rfl rfl (by kernel_rfl) (by kernel_rfl) (by kernel_rfl) (fun _ _ _ h => h) (Or.inl ⟨by kernel_rfl, ?yy51⟩) (by assumption) ?_
        case yy51 => intro w hSw; (try dsimp only at hSw); go_simp; (try with_reducible rfl)
        simp only [List.setIfInBounds_toArray, List.set_cons_zero, List.set_cons_succ]
        refine takeH (i := 6) (v := ?vv52) 22 rfl rfl (by kernel_rfl) (by kernel_rfl) (by kernel_rfl) (fun _ _ _ h => h) (Or.inl ⟨by kernel_rfl, ?yy52⟩) (by assumption) ?_
        case yy52 => intro w hSw; (try dsimp only at hSw); go_simp; (try with_reducible rfl)
        simp only [List.setIfInBounds_toArray, List.set_cons_zero, List.set_cons_succ]
        refine takeH (i := 7) (v := ?vv53) 23 rfl rfl (by kernel_rfl) (by kernel_rfl) (by kernel_rfl) (fun _ _ _ h => h) (Or.inl ⟨by kernel_rfl, ?yy53⟩) (by assumption) ?_
        case yy53 =>
          intro wq hSw
          obtain ⟨z0, z1, z2, z3, z4⟩ := hSw.2
          clear hSw
          go_simp
          (try with_reducible rfl)
        simp only [List.setIfInBounds_toArray, List.set_cons_zero, List.set_cons_succ]
        refine takeH (i := 8) (v := ?vv54) 24 rfl rfl (by kernel_rfl) (by kernel_rfl) (by kernel_rfl) (fun _ _ _ h => h) (Or.inl ⟨by kernel_rfl, ?yy54⟩) (by assumption) ?_
        case yy54 => intro w hSw; (try dsimp only at hSw); go_simp; (try with_reducible rfl)
        simp only [List.setIfInBounds_toArray, List.set_cons_zero, List.set_cons_succ]
        refine wpAnyH_done (by kernel_rfl) ?_ _
        go_wp2
        go_ret
        exact ⟨by rw [HF.out] <;> rfl, HB.out.trans (Below.refl _ _).drew⟩
      have t3 : (n == yn) = true := by rw [e3]; simp
      by_cases e4 : s = ys
      rotate_left
      · have t4 : (s == ys) = false := by rw [beq_eq_false_iff_ne]; exact e4
        have HF := Lib.hid (eq_no hlt hlt2 HQ.out (by rw [hx, hy]; intro e; exact e4 (by injection e)))
        have HXE := Lib.hid hx; have HYE := Lib.hid hy; clear hx hy e0 e1 e2 e3 e4
        go_upto_region 6 with (fail)
        go_wp2_with fail
        refine wp_region_held_drew (S := (fun w' => InsAt ba (oa + k * 5) op a b n s w' ∧ InsAt bb (ob + k * 5) yop ya yb yn ys w')) (by kernel_rfl) ?_ (fun hHeld => ?_)
        · exact HS0.out
        refine takeH (i := 0) (v := ?vv55) 16 rfl rfl (by kernel_rfl) (by kernel_rfl) (by kernel_rfl) (fun _ _ _ h => h) (Or.inl ⟨by kernel_rfl, ?yy55⟩) (by assumption) ?_
        case yy55 => intro w hSw; (try dsimp only at hSw); go_simp; (try with_reducible rfl)
        simp only [List.setIfInBounds_toArray, List.set_cons_zero, List.set_cons_succ]
        refine takeH (i := 1) (v := ?vv56) 17 rfl rfl (by kernel_rfl) (by kernel_rfl) (by kernel_rfl) (fun _ _ _ h => h) (Or.inl ⟨by kernel_rfl, ?yy56⟩) (by assumption) ?_
        case yy56 => intro w hSw; (try dsimp only at hSw); go_simp; (try with_reducible rfl)
        simp only [List.setIfInBounds_toArray, List.set_cons_zero, List.set_cons_succ]
        refine takeH (i := 2) (v := ?vv57) 18 rfl rfl (by kernel_rfl) (by kernel_rfl) (by kernel_rfl) (fun _ _ _ h => h) (Or.inl ⟨by kernel_rfl, ?yy57⟩) (by assumption) ?_
        case yy57 => intro w hSw; (try dsimp only at hSw); go_simp; (try with_reducible rfl)
        simp only [List.setIfInBounds_toArray, List.set_cons_zero, List.set_cons_succ]
        refine takeH (i := 3) (v := ?vv58) 19 rfl rfl (by kernel_rfl) (by kernel_rfl) (by kernel_rfl) (fun _ _ _ h => h) (Or.inl ⟨by kernel_rfl, ?yy58⟩) (by assumption) ?_
        case yy58 =>
          intro wq hSw
          obtain ⟨z0, z1, z2, z3, z4⟩ := hSw.1
          clear hSw
          go_simp
          (try with_reducible rfl)
        simp only [List.setIfInBounds_toArray, List.set_cons_zero, List.set_cons_succ]
        refine takeH (i := 4) (v := ?vv59) 20 rfl rfl (by kernel_rfl) (by kernel_rfl) (by kernel_rfl) (fun _ _ _ h => h) (Or.inl ⟨by kernel_rfl, ?yy59⟩) (by assumption) ?_
        case yy59 => intro w hSw; (try dsimp only at hSw); go_simp; (try with_reducible rfl)
        simp only [List.setIfInBounds_toArray, List.set_cons_zero, List.set_cons_succ]
        refine takeH (i := 5) (v := ?vv60) 21 rfl rfl (by kernel_rfl) (by kernel_rfl) (by kernel_rfl) (fun _ _ _ h => h) (Or.inl ⟨by kernel_rfl, ?yy60⟩) (by assumption) ?_
        case yy60 => intro w hSw; (try dsimp only at hSw); go_simp; (try with_reducible rfl)
        simp only [List.setIfInBounds_toArray, List.set_cons_zero, List.set_cons_succ]
        refine takeH (i := 6) (v := ?vv61) 22 rfl rfl (by kernel_rfl) (by kernel_rfl) (by kernel_rfl) (fun _ _ _ h => h) (Or.inl ⟨by kernel_rfl, ?yy61⟩) (by assumption) ?_
        case yy61 => intro w hSw; (try dsimp only at hSw); go_simp; (try with_reducible rfl)
        simp only [List.setIfInBounds_toArray, List.set_cons_zero, List.set_cons_succ]
        refine takeH (i := 7) (v := ?vv62) 23 rfl rfl (by kernel_rfl) (by kernel_rfl) (by kernel_rfl) (fun _ _ _ h => h) (Or.inl ⟨by kernel_rfl, ?yy62⟩) (by assumption) ?_
        case yy62 =>
          intro wq hSw
          obtain ⟨z0, z1, z2, z3, z4⟩ := hSw.2
          clear hSw
          go_simp
          (try with_reducible rfl)
        simp only [List.setIfInBounds_toArray, List.set_cons_zero, List.set_cons_succ]
        refine takeH (i := 8) (v := ?vv63) 24 rfl rfl (by kernel_rfl) (by kernel_rfl) (by kernel_rfl) (fun _ _ _ h => h) (Or.inl ⟨by kernel_rfl, ?yy63⟩) (by assumption) ?_
        case yy63 => intro w hSw; (try dsimp only at hSw); go_simp; (try with_reducible rfl)
        simp only [List.setIfInBounds_toArray, List.set_cons_zero, List.set_cons_succ]
        refine wpAnyH_done (by kernel_rfl) ?_ _
        go_wp2
        go_ret
        exact ⟨by rw [HF.out] <;> rfl, HB.out.trans (Below.refl _ _).drew⟩
      have t4 : (s == ys) = true := by rw [e4]; simp
      have HN := Lib.hid (eq_go hlt hlt2 HQ.out (by rw [hx, hy, e0, e1, e2, e3, e4]))
      have HXE := Lib.hid hx; have HYE := Lib.hid hy; clear hx hy e0 e1 e2 e3 e4
      go_upto_region 6 with (fail)
      go_wp2_with fail
      refine wp_region_held_drew (S := (fun w' => InsAt ba (oa + k * 5) op a b n s w' ∧ InsAt bb (ob + k * 5) yop ya yb yn ys w')) (by kernel_rfl) ?_ (fun hHeld => ?_)
      · exact HS0.out
      refine takeH (i := 0) (v := ?vv64) 16 rfl rfl (by kernel_rfl) (by kernel_rfl) (by kernel_rfl) (fun _ _ _ h => h) (Or.inl ⟨by kernel_rfl, ?yy64⟩) (by assumption) ?_
      case yy64 => intro w hSw; (try dsimp only at hSw); go_simp; (try with_reducible rfl)
      simp only [List.setIfInBounds_toArray, List.set_cons_zero, List.set_cons_succ]
      refine takeH (i := 1) (v := ?vv65) 17 rfl rfl (by kernel_rfl) (by kernel_rfl) (by kernel_rfl) (fun _ _ _ h => h) (Or.inl ⟨by kernel_rfl, ?yy65⟩) (by assumption) ?_
      case yy65 => intro w hSw; (try dsimp only at hSw); go_simp; (try with_reducible rfl)
      simp only [List.setIfInBounds_toArray, List.set_cons_zero, List.set_cons_succ]
      refine takeH (i := 2) (v := ?vv66) 18 rfl rfl (by kernel_rfl) (by kernel_rfl) (by kernel_rfl) (fun _ _ _ h => h) (Or.inl ⟨by kernel_rfl, ?yy66⟩) (by assumption) ?_
      case yy66 => intro w hSw; (try dsimp only at hSw); go_simp; (try with_reducible rfl)
      simp only [List.setIfInBounds_toArray, List.set_cons_zero, List.set_cons_succ]
      refine takeH (i := 3) (v := ?vv67) 19 rfl rfl (by kernel_rfl) (by kernel_rfl) (by kernel_rfl) (fun _ _ _ h => h) (Or.inl ⟨by kernel_rfl, ?yy67⟩) (by assumption) ?_
      case yy67 =>
        intro wq hSw
        obtain ⟨z0, z1, z2, z3, z4⟩ := hSw.1
        clear hSw
        go_simp
        (try with_reducible rfl)
      simp only [List.setIfInBounds_toArray, List.set_cons_zero, List.set_cons_succ]
      refine takeH (i := 4) (v := ?vv68) 20 rfl rfl (by kernel_rfl) (by kernel_rfl) (by kernel_rfl) (fun _ _ _ h => h) (Or.inl ⟨by kernel_rfl, ?yy68⟩) (by assumption) ?_
      case yy68 => intro w hSw; (try dsimp only at hSw); go_simp; (try with_reducible rfl)
      simp only [List.setIfInBounds_toArray, List.set_cons_zero, List.set_cons_succ]
      refine takeH (i := 5) (v := ?vv69) 21 rfl rfl (by kernel_rfl) (by kernel_rfl) (by kernel_rfl) (fun _ _ _ h => h) (Or.inl ⟨by kernel_rfl, ?yy69⟩) (by assumption) ?_
      case yy69 => intro w hSw; (try dsimp only at hSw); go_simp; (try with_reducible rfl)
      simp only [List.setIfInBounds_toArray, List.set_cons_zero, List.set_cons_succ]
      refine takeH (i := 6) (v := ?vv70) 22 rfl rfl (by kernel_rfl) (by kernel_rfl) (by kernel_rfl) (fun _ _ _ h => h) (Or.inl ⟨by kernel_rfl, ?yy70⟩) (by assumption) ?_
      case yy70 => intro w hSw; (try dsimp only at hSw); go_simp; (try with_reducible rfl)
      simp only [List.setIfInBounds_toArray, List.set_cons_zero, List.set_cons_succ]
      refine takeH (i := 7) (v := ?vv71) 23 rfl rfl (by kernel_rfl) (by kernel_rfl) (by kernel_rfl) (fun _ _ _ h => h) (Or.inl ⟨by kernel_rfl, ?yy71⟩) (by assumption) ?_
      case yy71 =>
        intro wq hSw
        obtain ⟨z0, z1, z2, z3, z4⟩ := hSw.2
        clear hSw
        go_simp
        (try with_reducible rfl)
      simp only [List.setIfInBounds_toArray, List.set_cons_zero, List.set_cons_succ]
      refine takeH (i := 8) (v := ?vv72) 24 rfl rfl (by kernel_rfl) (by kernel_rfl) (by kernel_rfl) (fun _ _ _ h => h) (Or.inl ⟨by kernel_rfl, ?yy72⟩) (by assumption) ?_
      case yy72 => intro w hSw; (try dsimp only at hSw); go_simp; (try with_reducible rfl)
      simp only [List.setIfInBounds_toArray, List.set_cons_zero, List.set_cons_succ]
      refine wpAnyH_done (by kernel_rfl) ?_ _
      go_wp2
      go_roundw
      case rel => exact ⟨k + 1, by omega, by go_num, HN, HB.out.trans (Below.refl _ _).drew⟩
      case measure => simp [intOf]; omega
    · have hlt' : ¬ (k : Int) < (M.length : Int) := by omega
      have HF := Lib.hid (show R = true by rw [← HQ.out, List.drop_of_length_le (by omega), List.drop_of_length_le (by rw [← HL.out]; omega)]; rfl)
      go_wp2
      go_ret
      exact ⟨by rw [HF.out] <;> rfl, HB.out⟩
set_option maxRecDepth 100000 in
set_option maxHeartbeats 16000000 in
theorem Equal_any (pa ia pb ib : Option Addr) (pc ic qc jc : Nat) (P Q : List Int) (sl tl : Int) (l m : List Ins) (w : World) (hP : CellsAt w (.slice pa P.length pc) P.length (intsL P)) (hI : CellsAt w (.slice ia l.length ic) l.length (insLs l)) (hQ : CellsAt w (.slice pb Q.length qc) Q.length (intsL Q)) (hJ : CellsAt w (.slice ib m.length jc) m.length (insLs m)) (hp : P.length ≤ 9223372036854775806) (hl : l.length ≤ 9223372036854775806) :
    Calls Tryz.prog 22 #[.agg #[.slice pa P.length pc, .int .i64 sl, .slice ia l.length ic], .agg #[.slice pb Q.length qc, .int .i64 tl, .slice ib m.length jc]] w fun e w' => e = .returned (.bool (decide ((⟨P, sl, l⟩ : Cd) = ⟨Q, tl, m⟩))) ∧ Below w.heap.size w w' := by
  obtain ⟨V, hV⟩ : ∃ V, decide ((⟨P, sl, l⟩ : Cd) = ⟨Q, tl, m⟩) = V := ⟨_, rfl⟩
  rw [hV]
  have HV := Lib.hid hV; clear hV
  have HPA := Lib.hid hP; have HIA := Lib.hid hI; have HQA := Lib.hid hQ; have HJA := Lib.hid hJ; clear hP hI hQ hJ
  obtain ⟨v0, hW0, hb0, hc0, hd0⟩ := boxes2 w #[.slice pa P.length pc, .int .i64 sl, .slice ia l.length ic] 25 #[.slice pb Q.length qc, .int .i64 tl, .slice ib m.length jc] 25
  have HW := Lib.hid hW0; have HB := Lib.hid hb0; have HC := Lib.hid hc0; have HD := Lib.hid hd0; clear hW0 hb0 hc0 hd0
  go_enter Tryz.func22, Tryz.ntmps22
  go_upto_region 1 with (fail)
  rw [HW.out]
  clear HW
  by_cases e1 : sl = tl
  rotate_left
  · have t1 : (sl == tl) = false := by rw [beq_eq_false_iff_ne]; exact e1
    have HF := Lib.hid (show V = false by rw [← HV.out, decide_eq_false]; intro e; exact e1 (by injection e))
    clear e1
    obtain ⟨c0, c1, c2⟩ := HC.out.c3
    obtain ⟨d0, d1, d2⟩ := HD.out.c3
    go_wp2
    go_ret
    exact ⟨by rw [HF.out] <;> rfl, HB.out⟩
  have t1 : (sl == tl) = true := by rw [e1]; simp
  have E1 := Lib.hid e1; clear e1
  obtain ⟨c0, c1, c2⟩ := HC.out.c3
  obtain ⟨d0, d1, d2⟩ := HD.out.c3
  obtain ⟨pv, hpv⟩ : ∃ t, decide (P = Q) = t := ⟨_, rfl⟩
  have HPV := Lib.hid hpv; clear hpv
  go_wp2_with fail
  refine (eqInt_any _ _ P Q _ (HPA.out.below HB.out) (HQA.out.below HB.out) (by omega)).mono ?_
  rw [HPV.out]
  rintro er w1 ⟨rfl, hb1⟩
  clear c0 c1 c2 d0 d1 d2
  have HB := Lib.hid (btrans HB.out HB.out.size hb1); have HC := Lib.hid (HC.out.call hb1); have HD := Lib.hid (HD.out.call hb1); clear hb1
  obtain ⟨c0, c1, c2⟩ := HC.out.c3
  obtain ⟨d0, d1, d2⟩ := HD.out.c3
  cases pv with
  | false =>
    have HF := Lib.hid (show V = false by rw [← HV.out, decide_eq_false]; intro e; have := HPV.out; rw [decide_eq_false_iff_not] at this; exact this (by injection e))
    go_wp2
    go_ret
    exact ⟨by rw [HF.out] <;> rfl, HB.out⟩
  | true =>
    obtain ⟨iv, hiv⟩ : ∃ t, decide (l = m) = t := ⟨_, rfl⟩
    have HIV := Lib.hid hiv; clear hiv
    go_wp2_with fail
    refine (eqIns_any _ _ l m _ (HIA.out.below HB.out) (HJA.out.below HB.out) (by omega)).mono ?_
    rw [HIV.out]
    rintro er w2 ⟨rfl, hb1⟩
    clear c0 c1 c2 d0 d1 d2
    have HB := Lib.hid (btrans HB.out HB.out.size hb1); clear hb1
    have HF := Lib.hid (show V = iv by rw [← HV.out, ← HIV.out]; have h1 := E1.out; have h2 : P = Q := of_decide_eq_true HPV.out; subst h1 h2; congr 1; rw [eq_iff_iff]; exact ⟨fun e => by injection e, fun e => by rw [e]⟩)
    go_wp2
    go_ret
    exact ⟨by rw [HF.out] <;> rfl, HB.out⟩
set_option maxRecDepth 100000 in
set_option maxHeartbeats 16000000 in
theorem REqual_any (pa ia pb ib : Option Addr) (pc ic qc jc : Nat) (P Q : List Int) (sl tl : Int) (l m : List Ins) (w : World) (hP : CellsAt w (.slice pa P.length pc) P.length (intsL P)) (hI : CellsAt w (.slice ia l.length ic) l.length (insLs l)) (hQ : CellsAt w (.slice pb Q.length qc) Q.length (intsL Q)) (hJ : CellsAt w (.slice ib m.length jc) m.length (insLs m)) (hp : P.length ≤ 9223372036854775806) (hl : l.length ≤ 9223372036854775806) :
    Calls Tryz.prog 15 #[.agg #[.slice pa P.length pc, .int .i64 sl, .slice ia l.length ic], .agg #[.slice pb Q.length qc, .int .i64 tl, .slice ib m.length jc]] w fun e w' => e = .returned (.bool (decide ((⟨P, sl, l⟩ : Cd) = ⟨Q, tl, m⟩))) ∧ Below w.heap.size w w' := by
  obtain ⟨V, hV⟩ : ∃ V, decide ((⟨P, sl, l⟩ : Cd) = ⟨Q, tl, m⟩) = V := ⟨_, rfl⟩
  rw [hV]
  have HV := Lib.hid hV; clear hV
  have HPA := Lib.hid hP; have HIA := Lib.hid hI; have HQA := Lib.hid hQ; have HJA := Lib.hid hJ; clear hP hI hQ hJ
  obtain ⟨v0, hW0, hb0, hc0, hd0⟩ := boxes2 w #[.slice pa P.length pc, .int .i64 sl, .slice ia l.length ic] 25 #[.slice pb Q.length qc, .int .i64 tl, .slice ib m.length jc] 25
  have HW := Lib.hid hW0; have HB := Lib.hid hb0; have HC := Lib.hid hc0; have HD := Lib.hid hd0; clear hW0 hb0 hc0 hd0
  go_enter Tryz.func15, Tryz.ntmps15
  go_upto_region 1 with (fail)
  rw [HW.out]
  clear HW
  by_cases e1 : P.length = Q.length
  rotate_left
  · have t1 : ((P.length : Int) != (Q.length : Int)) = true := by rw [bne_iff_ne]; omega
    have HF := Lib.hid (show V = false by rw [← HV.out, decide_eq_false]; intro e; exact e1 (by injection e with h1; rw [h1]))
    clear e1
    obtain ⟨c0, c1, c2⟩ := HC.out.c3
    obtain ⟨d0, d1, d2⟩ := HD.out.c3
    go_wp2
    go_ret
    exact ⟨by rw [HF.out] <;> rfl, HB.out⟩
  have t1 : ((P.length : Int) != (Q.length : Int)) = false := by rw [e1]; simp
  have E1 := Lib.hid e1; clear e1
  by_cases e2 : sl = tl
  rotate_left
  · have t2 : (sl != tl) = true := by rw [bne_iff_ne]; exact e2
    have HF := Lib.hid (show V = false by rw [← HV.out, decide_eq_false]; intro e; exact e2 (by injection e))
    clear e2
    obtain ⟨c0, c1, c2⟩ := HC.out.c3
    obtain ⟨d0, d1, d2⟩ := HD.out.c3
    go_wp2
    go_ret
    exact ⟨by rw [HF.out] <;> rfl, HB.out⟩
  have t2 : (sl != tl) = false := by rw [e2]; simp
  have E2 := Lib.hid e2; clear e2
  by_cases e3 : l.length = m.length
  rotate_left
  · have t3 : ((l.length : Int) != (m.length : Int)) = true := by rw [bne_iff_ne]; omega
    have HF := Lib.hid (show V = false by rw [← HV.out, decide_eq_false]; intro e; exact e3 (by injection e with h1 h2 h3; rw [h3]))
    clear e3
    obtain ⟨c0, c1, c2⟩ := HC.out.c3
    obtain ⟨d0, d1, d2⟩ := HD.out.c3
    go_wp2
    go_ret
    exact ⟨by rw [HF.out] <;> rfl, HB.out⟩
  have t3 : ((l.length : Int) != (m.length : Int)) = false := by rw [e3]; simp
  have E3 := Lib.hid e3; clear e3
  obtain ⟨c0, c1, c2⟩ := HC.out.c3
  obtain ⟨d0, d1, d2⟩ := HD.out.c3
  obtain ⟨pv, hpv⟩ : ∃ t, decide (P.drop 0 = Q.drop 0) = t := ⟨_, rfl⟩
  obtain ⟨iv, hiv⟩ : ∃ t, decide (l.drop 0 = m.drop 0) = t := ⟨_, rfl⟩
  have HVV := Lib.hid (show V = (pv && iv) by rw [← HV.out, ← hpv, ← hiv, List.drop_zero, List.drop_zero, List.drop_zero, List.drop_zero]; have h1 := E2.out; subst h1; by_cases h2 : P = Q <;> simp [h2])
  have HR := Lib.hid hpv; have HIV := Lib.hid hiv; clear hpv hiv HV
  go_wp2
  go_loopw [5] (fun i wr => ∃ k : Nat, k ≤ P.length ∧ i = .int .i64 k ∧ Hid (decide (P.drop k = Q.drop k) = pv) ∧ Hid (Bx w.heap.size #[.slice pa P.length pc, .int .i64 sl, .slice ia l.length ic] 25 wr) ∧ Hid (Bx (w.heap.size + 1) #[.slice pb Q.length qc, .int .i64 tl, .slice ib m.length jc] 25 wr) ∧ Below w.heap.size w wr) (fun i _ => P.length - (intOf i).toNat)
  case atStart => exact ⟨0, Nat.zero_le _, rfl, HR, HC, HD, HB.out⟩
  case round =>
    clear c0 c1 c2 d0 d1 d2 HB HC HD
    obtain ⟨k, hk, rfl, HQ, HC, HD, hB⟩ := hrel
    have HB := Lib.hid hB; clear hB
    obtain ⟨c0, c1, c2⟩ := HC.out.c3
    obtain ⟨d0, d1, d2⟩ := HD.out.c3
    by_cases hlt : k < P.length
    · have hlt' : (k : Int) < (P.length : Int) := by omega
      have hlt2 : k < Q.length := by rw [← E1.out]; exact hlt
      have hlt3 : (k : Int) < (Q.length : Int) := by omega
      have hw1 : IntKind.i64.wrap ((k : Int) + 1) = (k : Int) + 1 := by rw [IntKind.wrap_i64]; omega
      obtain ⟨ba, oa, hae, p0⟩ := int_cells (HPA.out.below HB.out) hlt
      cases hae
      obtain ⟨bb, ob, hbe, r0⟩ := int_cells (HQA.out.below HB.out) hlt2
      cases hbe
      obtain ⟨u, hx⟩ : ∃ x, P[k] = x := ⟨_, rfl⟩
      obtain ⟨v, hy⟩ : ∃ y, Q[k] = y := ⟨_, rfl⟩
      rw [hx] at p0
      rw [hy] at r0
      have hs0 : wr.drew.cell? ⟨ba, oa + k, none⟩ = some (.int .i64 u) ∧ wr.drew.cell? ⟨bb, ob + k, none⟩ = some (.int .i64 v) ∧ Bx w.heap.size #[.slice (some ⟨ba, oa, none⟩) P.length pc, .int .i64 sl, .slice ia l.length ic] 25 wr.drew ∧ Bx (w.heap.size + 1) #[.slice (some ⟨bb, ob, none⟩) Q.length qc, .int .i64 tl, .slice ib m.length jc] 25 wr.drew := ⟨p0, r0, HC.out, HD.out⟩
      have HS0 := Lib.hid hs0; clear hs0 p0 r0
      by_cases e0 : u = v
      rotate_left
      · have t0 : (u == v) = false := by rw [beq_eq_false_iff_ne]; exact e0
        have HF := Lib.hid (eq_no hlt hlt2 HQ.out (by rw [hx, hy]; intro e; exact e0 e))
        have HXE := Lib.hid hx; have HYE := Lib.hid hy; clear hx hy e0
        go_upto_region 6 with (fail)
        clear c0 c1 c2 d0 d1 d2
        go_wp2_with fail
        refine wp_region_held_drew (S := (fun w' => w'.cell? ⟨ba, oa + k, none⟩ = some (.int .i64 u) ∧ w'.cell? ⟨bb, ob + k, none⟩ = some (.int .i64 v) ∧ Bx w.heap.size #[.slice (some ⟨ba, oa, none⟩) P.length pc, .int .i64 sl, .slice ia l.length ic] 25 w' ∧ Bx (w.heap.size + 1) #[.slice (some ⟨bb, ob, none⟩) Q.length qc, .int .i64 tl, .slice ib m.length jc] 25 w')) (by kernel_rfl) ?_ (fun hHeld => ?_)
        · exact HS0.out
        refine takeH (i := 0) (v := ?vv73) 37 rfl rfl (by kernel_rfl) (by kernel_rfl) (by kernel_rfl) (fun _ _ _ h => h) (Or.inl ⟨by kernel_rfl, ?yy73⟩) (by assumption) ?_
        case yy73 => intro w hSw; (try dsimp only at hSw); go_simp; (try with_reducible rfl)
        simp only [List.setIfInBounds_toArray, List.set_cons_zero, List.set_cons_succ]
        refine takeH (i := 1) (v := ?vv74) 38 rfl rfl (by kernel_rfl) (by kernel_rfl) (by kernel_rfl) (fun _ _ _ h => h) (Or.inl ⟨by kernel_rfl, ?yy74⟩) (by assumption) ?_
        case yy74 =>
          intro wq hSw
          obtain ⟨y0, y1, y2⟩ := hSw.2.2.1.c3
          clear hSw
          go_simp
          (try with_reducible rfl)
        simp only [List.setIfInBounds_toArray, List.set_cons_zero, List.set_cons_succ]
        refine takeH (i := 2) (v := ?vv75) 39 rfl rfl (by kernel_rfl) (by kernel_rfl) (by kernel_rfl) (fun _ _ _ h => h) (Or.inl ⟨by kernel_rfl, ?yy75⟩) (by assumption) ?_
        case yy75 => intro w hSw; (try dsimp only at hSw); go_simp; (try with_reducible rfl)
        simp only [List.setIfInBounds_toArray, List.set_cons_zero, List.set_cons_succ]
        refine takeH (i := 3) (v := ?vv76) 40 rfl rfl (by kernel_rfl) (by kernel_rfl) (by kernel_rfl) (fun _ _ _ h => h) (Or.inl ⟨by kernel_rfl, ?yy76⟩) (by assumption) ?_
        case yy76 => intro w hSw; (try dsimp only at hSw); go_simp; (try with_reducible rfl)
        simp only [List.setIfInBounds_toArray, List.set_cons_zero, List.set_cons_succ]
        refine takeH (i := 4) (v := ?vv77) 41 rfl rfl (by kernel_rfl) (by kernel_rfl) (by kernel_rfl) (fun _ _ _ h => h) (Or.inl ⟨by kernel_rfl, ?yy77⟩) (by assumption) ?_
        case yy77 =>
          intro wq hSw
          have z0 := hSw.1
          clear hSw
          go_simp
          (try with_reducible rfl)
        simp only [List.setIfInBounds_toArray, List.set_cons_zero, List.set_cons_succ]
        refine takeH (i := 5) (v := ?vv78) 42 rfl rfl (by kernel_rfl) (by kernel_rfl) (by kernel_rfl) (fun _ _ _ h => h) (Or.inl ⟨by kernel_rfl, ?yy78⟩) (by assumption) ?_
        case yy78 => intro w hSw; (try dsimp only at hSw); go_simp; (try with_reducible rfl)
        simp only [List.setIfInBounds_toArray, List.set_cons_zero, List.set_cons_succ]
        refine takeH (i := 6) (v := ?vv79) 43 rfl rfl (by kernel_rfl) (by kernel_rfl) (by kernel_rfl) (fun _ _ _ h => h) (Or.inl ⟨by kernel_rfl, ?yy79⟩) (by assumption) ?_
        case yy79 =>
          intro wq hSw
          obtain ⟨y0, y1, y2⟩ := hSw.2.2.2.c3
          clear hSw
          go_simp
          (try with_reducible rfl)
        simp only [List.setIfInBounds_toArray, List.set_cons_zero, List.set_cons_succ]
        refine takeH (i := 7) (v := ?vv80) 44 rfl rfl (by kernel_rfl) (by kernel_rfl) (by kernel_rfl) (fun _ _ _ h => h) (Or.inl ⟨by kernel_rfl, ?yy80⟩) (by assumption) ?_
        case yy80 => intro w hSw; (try dsimp only at hSw); go_simp; (try with_reducible rfl)
        simp only [List.setIfInBounds_toArray, List.set_cons_zero, List.set_cons_succ]
        refine takeH (i := 8) (v := ?vv81) 45 rfl rfl (by kernel_rfl) (by kernel_rfl) (by kernel_rfl) (fun _ _ _ h => h) (Or.inl ⟨by kernel_rfl, ?yy81⟩) (by assumption) ?_
        case yy81 => intro w hSw; (try dsimp only at hSw); go_simp; (try with_reducible rfl)
        simp only [List.setIfInBounds_toArray, List.set_cons_zero, List.set_cons_succ]
        refine takeH (i := 9) (v := ?vv82) 46 rfl rfl (by kernel_rfl) (by kernel_rfl) (by kernel_rfl) (fun _ _ _ h => h) (Or.inl ⟨by kernel_rfl, ?yy82⟩) (by assumption) ?_
        case yy82 =>
          intro wq hSw
          have z0 := hSw.2.1
          clear hSw
          go_simp
          (try with_reducible rfl)
        simp only [List.setIfInBounds_toArray, List.set_cons_zero, List.set_cons_succ]
        refine takeH (i := 10) (v := ?vv83) 47 rfl rfl (by kernel_rfl) (by kernel_rfl) (by kernel_rfl) (fun _ _ _ h => h) (Or.inl ⟨by kernel_rfl, ?yy83⟩) (by assumption) ?_
        case yy83 => intro w hSw; (try dsimp only at hSw); go_simp; (try with_reducible rfl)
        simp only [List.setIfInBounds_toArray, List.set_cons_zero, List.set_cons_succ]
        refine wpAnyH_done (by kernel_rfl) ?_ _
        have HFF := Lib.hid (show V = false by rw [HVV.out, HF.out]; simp)
        go_wp2
        go_ret
        exact ⟨by rw [HFF.out] <;> rfl, HB.out.trans (Below.refl _ _).drew⟩
      have t0 : (u == v) = true := by rw [e0]; simp
      have HN := Lib.hid (eq_go hlt hlt2 HQ.out (by rw [hx, hy, e0]))
      have HXE := Lib.hid hx; have HYE := Lib.hid hy; clear hx hy e0
      go_upto_region 6 with (fail)
      clear c0 c1 c2 d0 d1 d2
      go_wp2_with fail
      refine wp_region_held_drew (S := (fun w' => w'.cell? ⟨ba, oa + k, none⟩ = some (.int .i64 u) ∧ w'.cell? ⟨bb, ob + k, none⟩ = some (.int .i64 v) ∧ Bx w.heap.size #[.slice (some ⟨ba, oa, none⟩) P.length pc, .int .i64 sl, .slice ia l.length ic] 25 w' ∧ Bx (w.heap.size + 1) #[.slice (some ⟨bb, ob, none⟩) Q.length qc, .int .i64 tl, .slice ib m.length jc] 25 w')) (by kernel_rfl) ?_ (fun hHeld => ?_)
      · exact HS0.out
      refine takeH (i := 0) (v := ?vv84) 37 rfl rfl (by kernel_rfl) (by kernel_rfl) (by kernel_rfl) (fun _ _ _ h => h) (Or.inl ⟨by kernel_rfl, ?yy84⟩) (by assumption) ?_
      case yy84 => intro w hSw; (try dsimp only at hSw); go_simp; (try with_reducible rfl)
      simp only [List.setIfInBounds_toArray, List.set_cons_zero, List.set_cons_succ]
      refine takeH (i := 1) (v := ?vv85) 38 rfl rfl (by kernel_rfl) (by kernel_rfl) (by kernel_rfl) (fun _ _ _ h => h) (Or.inl ⟨by kernel_rfl, ?yy85⟩) (by assumption) ?_
      case yy85 =>
        intro wq hSw
        obtain ⟨y0, y1, y2⟩ := hSw.2.2.1.c3
        clear hSw
        go_simp
        (try with_reducible rfl)
      simp only [List.setIfInBounds_toArray, List.set_cons_zero, List.set_cons_succ]
      refine takeH (i := 2) (v := ?vv86) 39 rfl rfl (by kernel_rfl) (by kernel_rfl) (by kernel_rfl) (fun _ _ _ h => h) (Or.inl ⟨by kernel_rfl, ?yy86⟩) (by assumption) ?_
      case yy86 => intro w hSw; (try dsimp only at hSw); go_simp; (try with_reducible rfl)
      simp only [List.setIfInBounds_toArray, List.set_cons_zero, List.set_cons_succ]
      refine takeH (i := 3) (v := ?vv87) 40 rfl rfl (by kernel_rfl) (by kernel_rfl) (by kernel_rfl) (fun _ _ _ h => h) (Or.inl ⟨by kernel_rfl, ?yy87⟩) (by assumption) ?_
      case yy87 => intro w hSw; (try dsimp only at hSw); go_simp; (try with_reducible rfl)
      simp only [List.setIfInBounds_toArray, List.set_cons_zero, List.set_cons_succ]
      refine takeH (i := 4) (v := ?vv88) 41 rfl rfl (by kernel_rfl) (by kernel_rfl) (by kernel_rfl) (fun _ _ _ h => h) (Or.inl ⟨by kernel_rfl, ?yy88⟩) (by assumption) ?_
      case yy88 =>
        intro wq hSw
        have z0 := hSw.1
        clear hSw
        go_simp
        (try with_reducible rfl)
      simp only [List.setIfInBounds_toArray, List.set_cons_zero, List.set_cons_succ]
      refine takeH (i := 5) (v := ?vv89) 42 rfl rfl (by kernel_rfl) (by kernel_rfl) (by kernel_rfl) (fun _ _ _ h => h) (Or.inl ⟨by kernel_rfl, ?yy89⟩) (by assumption) ?_
      case yy89 => intro w hSw; (try dsimp only at hSw); go_simp; (try with_reducible rfl)
      simp only [List.setIfInBounds_toArray, List.set_cons_zero, List.set_cons_succ]
      refine takeH (i := 6) (v := ?vv90) 43 rfl rfl (by kernel_rfl) (by kernel_rfl) (by kernel_rfl) (fun _ _ _ h => h) (Or.inl ⟨by kernel_rfl, ?yy90⟩) (by assumption) ?_
      case yy90 =>
        intro wq hSw
        obtain ⟨y0, y1, y2⟩ := hSw.2.2.2.c3
        clear hSw
        go_simp
        (try with_reducible rfl)
      simp only [List.setIfInBounds_toArray, List.set_cons_zero, List.set_cons_succ]
      refine takeH (i := 7) (v := ?vv91) 44 rfl rfl (by kernel_rfl) (by kernel_rfl) (by kernel_rfl) (fun _ _ _ h => h) (Or.inl ⟨by kernel_rfl, ?yy91⟩) (by assumption) ?_
      case yy91 => intro w hSw; (try dsimp only at hSw); go_simp; (try with_reducible rfl)
      simp only [List.setIfInBounds_toArray, List.set_cons_zero, List.set_cons_succ]
      refine takeH (i := 8) (v := ?vv92) 45 rfl rfl (by kernel_rfl) (by kernel_rfl) (by kernel_rfl) (fun _ _ _ h => h) (Or.inl ⟨by kernel_rfl, ?yy92⟩) (by assumption) ?_
      case yy92 => intro w hSw; (try dsimp only at hSw); go_simp; (try with_reducible rfl)
      simp only [List.setIfInBounds_toArray, List.set_cons_zero, List.set_cons_succ]
      refine takeH (i := 9) (v := ?vv93) 46 rfl rfl (by kernel_rfl) (by kernel_rfl) (by kernel_rfl) (fun _ _ _ h => h) (Or.inl ⟨by kernel_rfl, ?yy93⟩) (by assumption) ?_
      case yy93 =>
        intro wq hSw
        have z0 := hSw.2.1
        clear hSw
        go_simp
        (try with_reducible rfl)
      simp only [List.setIfInBounds_toArray, List.set_cons_zero, List.set_cons_succ]
      refine takeH (i := 10) (v := ?vv94) 47 rfl rfl (by kernel_rfl) (by kernel_rfl) (by kernel_rfl) (fun _ _ _ h => h) (Or.inl ⟨by kernel_rfl, ?yy94⟩) (by assumption) ?_
      case yy94 => intro w hSw; (try dsimp only at hSw); go_simp; (try with_reducible rfl)
      simp only [List.setIfInBounds_toArray, List.set_cons_zero, List.set_cons_succ]
      refine wpAnyH_done (by kernel_rfl) ?_ _
      go_wp2
      go_roundw
      case rel => exact ⟨k + 1, by omega, by go_num, HN, Lib.hid HC.out.drew, Lib.hid HD.out.drew, HB.out.trans (Below.refl _ _).drew⟩
      case measure => simp [intOf]; omega
    · have hlt' : ¬ (k : Int) < (P.length : Int) := by omega
      have HPV := Lib.hid (show pv = true by rw [← HQ.out, List.drop_of_length_le (by omega), List.drop_of_length_le (by rw [← E1.out]; omega)]; rfl)
      clear HQ hlt hk
      go_wp2
      go_loopw [6] (fun i wr => ∃ k : Nat, k ≤ l.length ∧ i = .int .i64 k ∧ Hid (decide (l.drop k = m.drop k) = iv) ∧ Hid (Bx w.heap.size #[.slice pa P.length pc, .int .i64 sl, .slice ia l.length ic] 25 wr) ∧ Hid (Bx (w.heap.size + 1) #[.slice pb Q.length qc, .int .i64 tl, .slice ib m.length jc] 25 wr) ∧ Below w.heap.size w wr) (fun i _ => l.length - (intOf i).toNat)
      case atStart => exact ⟨0, Nat.zero_le _, rfl, HIV, HC, HD, HB.out⟩
      case round =>
        clear c0 c1 c2 d0 d1 d2 HB HC HD
        obtain ⟨k, hk, rfl, HQ, HC, HD, hB⟩ := hrel
        have HB := Lib.hid hB; clear hB
        obtain ⟨c0, c1, c2⟩ := HC.out.c3
        obtain ⟨d0, d1, d2⟩ := HD.out.c3
        by_cases hlt : k < l.length
        · have hlt' : (k : Int) < (l.length : Int) := by omega
          have hlt2 : k < m.length := by rw [← E3.out]; exact hlt
          have hlt3 : (k : Int) < (m.length : Int) := by omega
          have hw1 : IntKind.i64.wrap ((k : Int) + 1) = (k : Int) + 1 := by rw [IntKind.wrap_i64]; omega
          obtain ⟨ba, oa, hae, p0, p1, p2, p3, p4⟩ := ins_cells (HIA.out.below HB.out) hlt
          cases hae
          obtain ⟨bb, ob, hbe, r0, r1, r2, r3, r4⟩ := ins_cells (HJA.out.below HB.out) hlt2
          cases hbe
          obtain ⟨⟨op, a, b, n, s⟩, hx⟩ : ∃ x, l[k] = x := ⟨_, rfl⟩
          obtain ⟨⟨yop, ya, yb, yn, ys⟩, hy⟩ : ∃ y, m[k] = y := ⟨_, rfl⟩
          rw [hx] at p0 p1 p2 p3 p4
          rw [hy] at r0 r1 r2 r3 r4
          simp only at p0 p1 p2 p3 p4 r0 r1 r2 r3 r4
          have hs0 : InsAt ba (oa + k * 5) op a b n s wr.drew ∧ InsAt bb (ob + k * 5) yop ya yb yn ys wr.drew ∧ Bx w.heap.size #[.slice pa P.length pc, .int .i64 sl, .slice (some ⟨ba, oa, none⟩) l.length ic] 25 wr.drew ∧ Bx (w.heap.size + 1) #[.slice pb Q.length qc, .int .i64 tl, .slice (some ⟨bb, ob, none⟩) m.length jc] 25 wr.drew := ⟨⟨p0, p1, p2, p3, p4⟩, ⟨r0, r1, r2, r3, r4⟩, HC.out, HD.out⟩
          have HS0 := Lib.hid hs0; clear hs0 p0 p1 p2 p3 p4 r0 r1 r2 r3 r4
          by_cases e0 : op = yop
          rotate_left
          · have t0 : (op == yop) = false := by rw [beq_eq_false_iff_ne]; exact e0
            have HF := Lib.hid (eq_no hlt hlt2 HQ.out (by rw [hx, hy]; intro e; exact e0 (by injection e)))
            have HXE := Lib.hid hx; have HYE := Lib.hid hy; clear hx hy e0
            go_upto_region 11 with (fail)
            clear c0 c1 c2 d0 d1 d2
            go_wp2_with fail
            refine wp_region_held_drew (S := (fun w' => InsAt ba (oa + k * 5) op a b n s w' ∧ InsAt bb (ob + k * 5) yop ya yb yn ys w' ∧ Bx w.heap.size #[.slice pa P.length pc, .int .i64 sl, .slice (some ⟨ba, oa, none⟩) l.length ic] 25 w' ∧ Bx (w.heap.size + 1) #[.slice pb Q.length qc, .int .i64 tl, .slice (some ⟨bb, ob, none⟩) m.length jc] 25 w')) (by kernel_rfl) ?_ (fun hHeld => ?_)
            · exact HS0.out
            refine takeH (i := 0) (v := ?vv95) 55 rfl rfl (by kernel_rfl) (by kernel_rfl) (by kernel_rfl) (fun _ _ _ h => h) (Or.inl ⟨by kernel_rfl, ?yy95⟩) (by assumption) ?_
            case yy95 => intro w hSw; (try dsimp only at hSw); go_simp; (try with_reducible rfl)
            simp only [List.setIfInBounds_toArray, List.set_cons_zero, List.set_cons_succ]
            refine takeH (i := 1) (v := ?vv96) 56 rfl rfl (by kernel_rfl) (by kernel_rfl) (by kernel_rfl) (fun _ _ _ h => h) (Or.inl ⟨by kernel_rfl, ?yy96⟩) (by assumption) ?_
            case yy96 =>
              intro wq hSw
              obtain ⟨y0, y1, y2⟩ := hSw.2.2.1.c3
              clear hSw
              go_simp
              (try with_reducible rfl)
            simp only [List.setIfInBounds_toArray, List.set_cons_zero, List.set_cons_succ]
            refine takeH (i := 2) (v := ?vv97) 57 rfl rfl (by kernel_rfl) (by kernel_rfl) (by kernel_rfl) (fun _ _ _ h => h) (Or.inl ⟨by kernel_rfl, ?yy97⟩) (by assumption) ?_
            case yy97 => intro w hSw; (try dsimp only at hSw); go_simp; (try with_reducible rfl)
            simp only [List.setIfInBounds_toArray, List.set_cons_zero, List.set_cons_succ]
            refine takeH (i := 3) (v := ?vv98) 58 rfl rfl (by kernel_rfl) (by kernel_rfl) (by kernel_rfl) (fun _ _ _ h => h) (Or.inl ⟨by kernel_rfl, ?yy98⟩) (by assumption) ?_
            case yy98 => intro w hSw; (try dsimp only at hSw); go_simp; (try with_reducible rfl)
            simp only [List.setIfInBounds_toArray, List.set_cons_zero, List.set_cons_succ]
            refine takeH (i := 4) (v := ?vv99) 59 rfl rfl (by kernel_rfl) (by kernel_rfl) (by kernel_rfl) (fun _ _ _ h => h) (Or.inl ⟨by kernel_rfl, ?yy99⟩) (by assumption) ?_
            case yy99 =>
              intro wq hSw
              obtain ⟨z0, z1, z2, z3, z4⟩ := hSw.1
              clear hSw
              go_simp
              (try with_reducible rfl)
            simp only [List.setIfInBounds_toArray, List.set_cons_zero, List.set_cons_succ]
            refine takeH (i := 5) (v := ?vv100) 60 rfl rfl (by kernel_rfl) (by kernel_rfl) (by kernel_rfl) (fun _ _ _ h => h) (Or.inl ⟨by kernel_rfl, ?yy100⟩) (by assumption) ?_
            case yy100 => intro w hSw; (try dsimp only at hSw); go_simp; (try with_reducible rfl)
            simp only [List.setIfInBounds_toArray, List.set_cons_zero, List.set_cons_succ]
            refine takeH (i := 6) (v := ?vv101) 61 rfl rfl (by kernel_rfl) (by kernel_rfl) (by kernel_rfl) (fun _ _ _ h => h) (Or.inl ⟨by kernel_rfl, ?yy101⟩) (by assumption) ?_
            case yy101 =>
              intro wq hSw
              obtain ⟨y0, y1, y2⟩ := hSw.2.2.2.c3
              clear hSw
              go_simp
              (try with_reducible rfl)
            simp only [List.setIfInBounds_toArray, List.set_cons_zero, List.set_cons_succ]
            refine takeH (i := 7) (v := ?vv102) 62 rfl rfl (by kernel_rfl) (by kernel_rfl) (by kernel_rfl) (fun _ _ _ h => h) (Or.inl ⟨by kernel_rfl, ?yy102⟩) (by assumption) ?_
            case yy102 => intro w hSw; (try dsimp only at hSw); go_simp; (try with_reducible rfl)
            simp only [List.setIfInBounds_toArray, List.set_cons_zero, List.set_cons_succ]
            refine takeH (i := 8) (v := ?vv103) 63 rfl rfl (by kernel_rfl) (by kernel_rfl) (by kernel_rfl) (fun _ _ _ h => h) (Or.inl ⟨by kernel_rfl, ?yy103⟩) (by assumption) ?_
            case yy103 => intro w hSw; (try dsimp only at hSw); go_simp; (try with_reducible rfl)
            simp only [List.setIfInBounds_toArray, List.set_cons_zero, List.set_cons_succ]
            refine takeH (i := 9) (v := ?vv104) 64 rfl rfl (by kernel_rfl) (by kernel_rfl) (by kernel_rfl) (fun _ _ _ h => h) (Or.inl ⟨by kernel_rfl, ?yy104⟩) (by assumption) ?_
            case yy104 =>
              intro wq hSw
              obtain ⟨z0, z1, z2, z3, z4⟩ := hSw.2.1
              clear hSw
              go_simp
              (try with_reducible rfl)
            simp only [List.setIfInBounds_toArray, List.set_cons_zero, List.set_cons_succ]
            refine takeH (i := 10) (v := ?vv105) 65 rfl rfl (by kernel_rfl) (by kernel_rfl) (by kernel_rfl) (fun _ _ _ h => h) (Or.inl ⟨by kernel_rfl, ?yy105⟩) (by assumption) ?_
            case yy105 => intro w hSw; (try dsimp only at hSw); go_simp; (try with_reducible rfl)
            simp only [List.setIfInBounds_toArray, List.set_cons_zero, List.set_cons_succ]
            refine wpAnyH_done (by kernel_rfl) ?_ _
            have HFF := Lib.hid (show V = false by rw [HVV.out, HF.out]; simp)
            go_wp2
            go_ret
            exact ⟨by rw [HFF.out] <;> rfl, HB.out.trans (Below.refl _ _).drew⟩
          have t0 : (op == yop) = true := by rw [e0]; simp
          by_cases e1 : a = ya
          rotate_left
          · have t1 : (a == ya) = false := by rw [beq_eq_false_iff_ne]; exact e1
            have HF := Lib.hid (eq_no hlt hlt2 HQ.out (by rw [hx, hy]; intro e; exact e1 (by injection e)))
            have HXE := Lib.hid hx; have HYE := Lib.hid hy; clear hx hy e0 e1
            go_upto_region 11 with (fail)
            clear c0 c1 c2 d0 d1 d2
            go_wp2_with fail
            refine wp_region_held_drew (S := (fun w' => InsAt ba (oa + k * 5) op a b n s w' ∧ InsAt bb (ob + k * 5) yop ya yb yn ys w' ∧ Bx w.heap.size #[.slice pa P.length pc, .int .i64 sl, .slice (some ⟨ba, oa, none⟩) l.length ic] 25 w' ∧ Bx (w.heap.size + 1) #[.slice pb Q.length qc, .int .i64 tl, .slice (some ⟨bb, ob, none⟩) m.length jc] 25 w')) (by kernel_rfl) ?_ (fun hHeld => ?_)
            · exact HS0.out
            refine takeH (i := 0) (v := ?vv106) 55 rfl rfl (by kernel_rfl) (by kernel_rfl) (by kernel_rfl) (fun _ _ _ h => h) (Or.inl ⟨by kernel_rfl, ?yy106⟩) (by assumption) ?_
            case yy106 => intro w hSw; (try dsimp only at hSw); go_simp; (try with_reducible rfl)
            simp only [List.setIfInBounds_toArray, List.set_cons_zero, List.set_cons_succ]
            refine takeH (i := 1) (v := ?vv107) 56 rfl rfl (by kernel_rfl) (by kernel_rfl) (by kernel_rfl) (fun _ _ _ h => h) (Or.inl ⟨by kernel_rfl, ?yy107⟩) (by assumption) ?_
            case yy107 =>
              intro wq hSw
              obtain ⟨y0, y1, y2⟩ := hSw.2.2.1.c3
              clear hSw
              go_simp
              (try with_reducible rfl)
            simp only [List.setIfInBounds_toArray, List.set_cons_zero, List.set_cons_succ]
            refine takeH (i := 2) (v := ?vv108) 57 rfl rfl (by kernel_rfl) (by kernel_rfl) (by kernel_rfl) (fun _ _ _ h => h) (Or.inl ⟨by kernel_rfl, ?yy108⟩) (by assumption) ?_
            case yy108 => intro w hSw; (try dsimp only at hSw); go_simp; (try with_reducible rfl)
            simp only [List.setIfInBounds_toArray, List.set_cons_zero, List.set_cons_succ]
            refine takeH (i := 3) (v := ?vv109) 58 rfl rfl (by kernel_rfl) (by kernel_rfl) (by kernel_rfl) (fun _ _ _ h => h) (Or.inl ⟨by kernel_rfl, ?yy109⟩) (by assumption) ?_
            case yy109 => intro w hSw; (try dsimp only at hSw); go_simp; (try with_reducible rfl)
            simp only [List.setIfInBounds_toArray, List.set_cons_zero, List.set_cons_succ]
            refine takeH (i := 4) (v := ?vv110) 59 rfl rfl (by kernel_rfl) (by kernel_rfl) (by kernel_rfl) (fun _ _ _ h => h) (Or.inl ⟨by kernel_rfl, ?yy110⟩) (by assumption) ?_
            case yy110 =>
              intro wq hSw
              obtain ⟨z0, z1, z2, z3, z4⟩ := hSw.1
              clear hSw
              go_simp
              (try with_reducible rfl)
            simp only [List.setIfInBounds_toArray, List.set_cons_zero, List.set_cons_succ]
            refine takeH (i := 5) (v := ?vv111) 60 rfl rfl (by kernel_rfl) (by kernel_rfl) (by kernel_rfl) (fun _ _ _ h => h) (Or.inl ⟨by kernel_rfl, ?yy111⟩) (by assumption) ?_
            case yy111 => intro w hSw; (try dsimp only at hSw); go_simp; (try with_reducible rfl)
            simp only [List.setIfInBounds_toArray, List.set_cons_zero, List.set_cons_succ]
            refine takeH (i := 6) (v := ?vv112) 61 rfl rfl (by kernel_rfl) (by kernel_rfl) (by kernel_rfl) (fun _ _ _ h => h) (Or.inl ⟨by kernel_rfl, ?yy112⟩) (by assumption) ?_
            case yy112 =>
              intro wq hSw
              obtain ⟨y0, y1, y2⟩ := hSw.2.2.2.c3
              clear hSw
              go_simp
              (try with_reducible rfl)
            simp only [List.setIfInBounds_toArray, List.set_cons_zero, List.set_cons_succ]
            refine takeH (i := 7) (v := ?vv113) 62 rfl rfl (by kernel_rfl) (by kernel_rfl) (by kernel_rfl) (fun _ _ _ h => h) (Or.inl ⟨by kernel_rfl, ?yy113⟩) (by assumption) ?_
            case yy113 => intro w hSw; (try dsimp only at hSw); go_simp; (try with_reducible rfl)
            simp only [List.setIfInBounds_toArray, List.set_cons_zero, List.set_cons_succ]
            refine takeH (i := 8) (v := ?vv114) 63 rfl rfl (by kernel_rfl) (by kernel_rfl) (by kernel_rfl) (fun _ _ _ h => h) (Or.inl ⟨by kernel_rfl, ?yy114⟩) (by assumption) ?_
            case yy114 => intro w hSw; (try dsimp only at hSw); go_simp; (try with_reducible rfl)
            simp only [List.setIfInBounds_toArray, List.set_cons_zero, List.set_cons_succ]
            refine takeH (i := 9) (v := ?vv115) 64 rfl rfl (by kernel_rfl) (by kernel_rfl) (by kernel_rfl) (fun _ _ _ h => h) (Or.inl ⟨by kernel_rfl, ?yy115⟩) (by assumption) ?_
            case yy115 =>
              intro wq hSw
              obtain ⟨z0, z1, z2, z3, z4⟩ := hSw.2.1
              clear hSw
              go_simp
              (try with_reducible rfl)
            simp only [List.setIfInBounds_toArray, List.set_cons_zero, List.set_cons_succ]
            refine takeH (i := 10) (v := ?vv116) 65 rfl rfl (by kernel_rfl) (by kernel_rfl) (by kernel_rfl) (fun _ _ _ h => h) (Or.inl ⟨by kernel_rfl, ?yy116⟩) (by assumption) ?_
            case yy116 => intro w hSw; (try dsimp only at hSw); go_simp; (try with_reducible rfl)
            simp only [List.setIfInBounds_toArray, List.set_cons_zero, List.set_cons_succ]
            refine wpAnyH_done (by kernel_rfl) ?_ _
            have HFF := Lib.hid (show V = false by rw [HVV.out, HF.out]; simp)
            go_wp2
            go_ret
            exact ⟨by rw [HFF.out] <;> rfl, HB.out.trans (Below.refl _ _).drew⟩
          have t1 : (a == ya) = true := by rw [e1]; simp
          by_cases e2 : b = yb
          rotate_left
          · have t2 : (b == yb) = false := by rw [beq_eq_false_iff_ne]; exact e2
            have HF := Lib.hid (eq_no hlt hlt2 HQ.out (by rw [hx, hy]; intro e; exact e2 (by injection e)))
            have HXE := Lib.hid hx; have HYE := Lib.hid hy; clear hx hy e0 e1 e2
            go_upto_region 11 with (fail)
            clear c0 c1 c2 d0 d1 d2
            go_wp2_with fail
            refine wp_region_held_drew (S := (fun w' => InsAt ba (oa + k * 5) op a b n s w' ∧ InsAt bb (ob + k * 5) yop ya yb yn ys w' ∧ Bx w.heap.size #[.slice pa P.length pc, .int .i64 sl, .slice (some ⟨ba, oa, none⟩) l.length ic] 25 w' ∧ Bx (w.heap.size + 1) #[.slice pb Q.length qc, .int .i64 tl, .slice (some ⟨bb, ob, none⟩) m.length jc] 25 w')) (by kernel_rfl) ?_ (fun hHeld => ?_)
            · exact HS0.out
            refine takeH (i := 0) (v := ?vv117) 55 rfl rfl (by kernel_rfl) (by kernel_rfl) (by kernel_rfl) (fun _ _ _ h => h) (Or.inl ⟨by kernel_rfl, ?yy117⟩) (by assumption) ?_
            case yy117 => intro w hSw; (try dsimp only at hSw); go_simp; (try with_reducible rfl)
            simp only [List.setIfInBounds_toArray, List.set_cons_zero, List.set_cons_succ]
            refine takeH (i := 1) (v := ?vv118) 56 rfl rfl (by kernel_rfl) (by kernel_rfl) (by kernel_rfl) (fun _ _ _ h => h) (Or.inl ⟨by kernel_rfl, ?yy118⟩) (by assumption) ?_
            case yy118 =>
              intro wq hSw
              obtain ⟨y0, y1, y2⟩ := hSw.2.2.1.c3
              clear hSw
              go_simp
              (try with_reducible rfl)
            simp only [List.setIfInBounds_toArray, List.set_cons_zero, List.set_cons_succ]
            refine takeH (i := 2) (v := ?vv119) 57 rfl rfl (by kernel_rfl) (by kernel_rfl) (by kernel_rfl) (fun _ _ _ h => h) (Or.inl ⟨by kernel_rfl, ?yy119⟩) (by assumption) ?_
            case yy119 => intro w hSw; (try dsimp only at hSw); go_simp; (try with_reducible rfl)
            simp only [List.setIfInBounds_toArray, List.set_cons_zero, List.set_cons_succ]
            refine takeH (i := 3) (v := ?vv120) 58 rfl rfl (by kernel_rfl) (by kernel_rfl) (by kernel_rfl) (fun _ _ _ h => h) (Or.inl ⟨by kernel_rfl, ?yy120⟩) (by assumption) ?_
            case yy120 => intro w hSw; (try dsimp only at hSw); go_simp; (try with_reducible rfl)
            simp only [List.setIfInBounds_toArray, List.set_cons_zero, List.set_cons_succ]
            refine takeH (i := 4) (v := ?vv121) 59 rfl rfl (by kernel_rfl) (by kernel_rfl) (by kernel_rfl) (fun _ _ _ h => h) (Or.inl ⟨by kernel_rfl, ?yy121⟩) (by assumption) ?_
            case yy121 =>
              intro wq hSw
              obtain ⟨z0, z1, z2, z3, z4⟩ := hSw.1
              clear hSw
              go_simp
              (try with_reducible rfl)
            simp only [List.setIfInBounds_toArray, List.set_cons_zero, List.set_cons_succ]
            refine takeH (i := 5) (v := ?vv122) 60 rfl rfl (by kernel_rfl) (by kernel_rfl) (by kernel_rfl) (fun _ _ _ h => h) (Or.inl ⟨by kernel_rfl, ?yy122⟩) (by assumption) ?_
            case yy122 => intro w hSw; (try dsimp only at hSw); go_simp; (try with_reducible rfl)
            simp only [List.setIfInBounds_toArray, List.set_cons_zero, List.set_cons_succ]
            refine takeH (i := 6) (v := ?vv123) 61 rfl rfl (by kernel_rfl) (by kernel_rfl) (by kernel_rfl) (fun _ _ _ h => h) (Or.inl ⟨by kernel_rfl, ?yy123⟩) (by assumption) ?_
            case yy123 =>
              intro wq hSw
              obtain ⟨y0, y1, y2⟩ := hSw.2.2.2.c3
              clear hSw
              go_simp
              (try with_reducible rfl)
            simp only [List.setIfInBounds_toArray, List.set_cons_zero, List.set_cons_succ]
            refine takeH (i := 7) (v := ?vv124) 62 rfl rfl (by kernel_rfl) (by kernel_rfl) (by kernel_rfl) (fun _ _ _ h => h) (Or.inl ⟨by kernel_rfl, ?yy124⟩) (by assumption) ?_
            case yy124 => intro w hSw; (try dsimp only at hSw); go_simp; (try with_reducible rfl)
            simp only [List.setIfInBounds_toArray, List.set_cons_zero, List.set_cons_succ]
            refine takeH (i := 8) (v := ?vv125) 63 rfl rfl (by kernel_rfl) (by kernel_rfl) (by kernel_rfl) (fun _ _ _ h => h) (Or.inl ⟨by kernel_rfl, ?yy125⟩) (by assumption) ?_
            case yy125 => intro w hSw; (try dsimp only at hSw); go_simp; (try with_reducible rfl)
            simp only [List.setIfInBounds_toArray, List.set_cons_zero, List.set_cons_succ]
            refine takeH (i := 9) (v := ?vv126) 64 rfl rfl (by kernel_rfl) (by kernel_rfl) (by kernel_rfl) (fun _ _ _ h => h) (Or.inl ⟨by kernel_rfl, ?yy126⟩) (by assumption) ?_
            case yy126 =>
              intro wq hSw
              obtain ⟨z0, z1, z2, z3, z4⟩ := hSw.2.1
              clear hSw
              go_simp
              (try with_reducible rfl)
            simp only [List.setIfInBounds_toArray, List.set_cons_zero, List.set_cons_succ]
            refine takeH (i := 10) (v := ?vv127) 65 rfl rfl (by kernel_rfl) (by kernel_rfl) (by kernel_rfl) (fun _ _ _ h => h) (Or.inl ⟨by kernel_rfl, ?yy127⟩) (by assumption) ?_
            case yy127 => intro w hSw; (try dsimp only at hSw); go_simp; (try with_reducible rfl)
            simp only [List.setIfInBounds_toArray, List.set_cons_zero, List.set_cons_succ]
            refine wpAnyH_done (by kernel_rfl) ?_ _
            have HFF := Lib.hid (show V = false by rw [HVV.out, HF.out]; simp)
            go_wp2
            go_ret
            exact ⟨by rw [HFF.out] <;> rfl, HB.out.trans (Below.refl _ _).drew⟩
          have t2 : (b == yb) = true := by rw [e2]; simp
          by_cases e3 : n = yn
          rotate_left
          · have t3 : (n == yn) = false := by rw [beq_eq_false_iff_ne]; exact e3
            have HF := Lib.hid (eq_no hlt hlt2 HQ.out (by rw [hx, hy]; intro e; exact e3 (by injection e)))
            have HXE := Lib.hid hx; have HYE := Lib.hid hy; clear hx hy e0 e1 e2 e3
            go_upto_region 11 with (fail)
            clear c0 c1 c2 d0 d1 d2
            go_wp2_with fail
            refine wp_region_held_drew (S := (fun w' => InsAt ba (oa + k * 5) op a b n s w' ∧ InsAt bb (ob + k * 5) yop ya yb yn ys w' ∧ Bx w.heap.size #[.slice pa P.length pc, .int .i64 sl, .slice (some ⟨ba, oa, none⟩) l.length ic] 25 w' ∧ Bx (w.heap.size + 1) #[.slice pb Q.length qc, .int .i64 tl, .slice (some ⟨bb, ob, none⟩) m.length jc] 25 w')) (by kernel_rfl) ?_ (fun hHeld => ?_)
            · exact HS0.out
            refine takeH (i := 0) (v := ?vv128) 55 rfl rfl (by kernel_rfl) (by kernel_rfl) (by kernel_rfl) (fun _ _ _ h => h) (Or.inl ⟨by kernel_rfl, ?yy128⟩) (by assumption) ?_
            case yy128 => intro w hSw; (try dsimp only at hSw); go_simp; (try with_reducible rfl)
            simp only [List.setIfInBounds_toArray, List.set_cons_zero, List.set_cons_succ]
            refine takeH (i := 1) (v := ?vv129) 56 rfl rfl (by kernel_rfl) (by kernel_rfl) (by kernel_rfl) (fun _ _ _ h => h) (Or.inl ⟨by kernel_rfl, ?yy129⟩) (by assumption) ?_
            case yy129 =>
              intro wq hSw
              obtain ⟨y0, y1, y2⟩ := hSw.2.2.1.c3
              clear hSw
              go_simp
              (try with_reducible rfl)
            simp only [List.setIfInBounds_toArray, List.set_cons_zero, List.set_cons_succ]
            refine takeH (i := 2) (v := ?vv130) 57 rfl rfl (by kernel_rfl) (by kernel_rfl) (by kernel_rfl) (fun _ _ _ h => h) (Or.inl ⟨by kernel_rfl, ?yy130⟩) (by assumption) ?_
            case yy130 => intro w hSw; (try dsimp only at hSw); go_simp; (try with_reducible rfl)
            simp only [List.setIfInBounds_toArray, List.set_cons_zero, List.set_cons_succ]
            refine takeH (i := 3) (v := ?vv131) 58 rfl rfl (by kernel_rfl) (by kernel_rfl) (by kernel_rfl) (fun _ _ _ h => h) (Or.inl ⟨by kernel_rfl, ?yy131⟩) (by assumption) ?_
            case yy131 => intro w hSw; (try dsimp only at hSw); go_simp; (try with_reducible rfl)
            simp only [List.setIfInBounds_toArray, List.set_cons_zero, List.set_cons_succ]
            refine takeH (i := 4) (v := ?vv132) 59 rfl rfl (by kernel_rfl) (by kernel_rfl) (by kernel_rfl) (fun _ _ _ h => h) (Or.inl ⟨by kernel_rfl, ?yy132⟩) (by assumption) ?_
            case yy132 =>
              intro wq hSw
              obtain ⟨z0, z1, z2, z3, z4⟩ := hSw.1
              clear hSw
              go_simp
              (try with_reducible rfl)
            simp only [List.setIfInBounds_toArray, List.set_cons_zero, List.set_cons_succ]
            refine takeH (i := 5) (v := ?vv133) 60 rfl rfl (by kernel_rfl) (by kernel_rfl) (by kernel_rfl) (fun _ _ _ h => h) (Or.inl ⟨by kernel_rfl, ?yy133⟩) (by assumption) ?_
            case yy133 => intro w hSw; (try dsimp only at hSw); go_simp; (try with_reducible rfl)
            simp only [List.setIfInBounds_toArray, List.set_cons_zero, List.set_cons_succ]
            refine takeH (i := 6) (v := ?vv134) 61 rfl rfl (by kernel_rfl) (by kernel_rfl) (by kernel_rfl) (fun _ _ _ h => h) (Or.inl ⟨by kernel_rfl, ?yy134⟩) (by assumption) ?_
            case yy134 =>
              intro wq hSw
              obtain ⟨y0, y1, y2⟩ := hSw.2.2.2.c3
              clear hSw
              go_simp
              (try with_reducible rfl)
            simp only [List.setIfInBounds_toArray, List.set_cons_zero, List.set_cons_succ]
            refine takeH (i := 7) (v := ?vv135) 62 rfl rfl (by kernel_rfl) (by kernel_rfl) (by kernel_rfl) (fun _ _ _ h => h) (Or.inl ⟨by kernel_rfl, ?yy135⟩) (by assumption) ?_
            case yy135 => intro w hSw; (try dsimp only at hSw); go_simp; (try with_reducible rfl)
            simp only [List.setIfInBounds_toArray, List.set_cons_zero, List.set_cons_succ]
            refine takeH (i := 8) (v := ?vv136) 63 rfl rfl (by kernel_rfl) (by kernel_rfl) (by kernel_rfl) (fun _ _ _ h => h) (Or.inl ⟨by kernel_rfl, ?yy136⟩) (by assumption) ?_
            case yy136 => intro w hSw; (try dsimp only at hSw); go_simp; (try with_reducible rfl)
            simp only [List.setIfInBounds_toArray, List.set_cons_zero, List.set_cons_succ]
            refine takeH (i := 9) (v := ?vv137) 64 rfl rfl (by kernel_rfl) (by kernel_rfl) (by kernel_rfl) (fun _ _ _ h => h) (Or.inl ⟨by kernel_rfl, ?yy137⟩) (by assumption) ?_
            case yy137 =>
              intro wq hSw
              obtain ⟨z0, z1, z2, z3, z4⟩ := hSw.2.1
              clear hSw
              go_simp
              (try with_reducible rfl)
            simp only [List.setIfInBounds_toArray, List.set_cons_zero, List.set_cons_succ]
            refine takeH (i := 10) (v := ?vv138) 65 rfl rfl (by kernel_rfl) (by kernel_rfl) (by kernel_rfl) (fun _ _ _ h => h) (Or.inl ⟨by kernel_rfl, ?yy138⟩) (by assumption) ?_
            case yy138 => intro w hSw; (try dsimp only at hSw); go_simp; (try with_reducible rfl)
            simp only [List.setIfInBounds_toArray, List.set_cons_zero, List.set_cons_succ]
            refine wpAnyH_done (by kernel_rfl) ?_ _
            have HFF := Lib.hid (show V = false by rw [HVV.out, HF.out]; simp)
            go_wp2
            go_ret
            exact ⟨by rw [HFF.out] <;> rfl, HB.out.trans (Below.refl _ _).drew⟩
          have t3 : (n == yn) = true := by rw [e3]; simp
          by_cases e4 : s = ys
          rotate_left
          · have t4 : (s == ys) = false := by rw [beq_eq_false_iff_ne]; exact e4
            have HF := Lib.hid (eq_no hlt hlt2 HQ.out (by rw [hx, hy]; intro e; exact e4 (by injection e)))
            have HXE := Lib.hid hx; have HYE := Lib.hid hy; clear hx hy e0 e1 e2 e3 e4
            go_upto_region 11 with (fail)
            clear c0 c1 c2 d0 d1 d2
            go_wp2_with fail
            refine wp_region_held_drew (S := (fun w' => InsAt ba (oa + k * 5) op a b n s w' ∧ InsAt bb (ob + k * 5) yop ya yb yn ys w' ∧ Bx w.heap.size #[.slice pa P.length pc, .int .i64 sl, .slice (some ⟨ba, oa, none⟩) l.length ic] 25 w' ∧ Bx (w.heap.size + 1) #[.slice pb Q.length qc, .int .i64 tl, .slice (some ⟨bb, ob, none⟩) m.length jc] 25 w')) (by kernel_rfl) ?_ (fun hHeld => ?_)
            · exact HS0.out
            refine takeH (i := 0) (v := ?vv139) 55 rfl rfl (by kernel_rfl) (by kernel_rfl) (by kernel_rfl) (fun _ _ _ h => h) (Or.inl ⟨by kernel_rfl, ?yy139⟩) (by assumption) ?_
            case yy139 => intro w hSw; (try dsimp only at hSw); go_simp; (try with_reducible rfl)
            simp only [List.setIfInBounds_toArray, List.set_cons_zero, List.set_cons_succ]
            refine takeH (i := 1) (v := ?vv140) 56 rfl rfl (by kernel_rfl) (by kernel_rfl) (by kernel_rfl) (fun _ _ _ h => h) (Or.inl ⟨by kernel_rfl, ?yy140⟩) (by assumption) ?_
            case yy140 =>
              intro wq hSw
              obtain ⟨y0, y1, y2⟩ := hSw.2.2.1.c3
              clear hSw
              go_simp
              (try with_reducible rfl)
            simp only [List.setIfInBounds_toArray, List.set_cons_zero, List.set_cons_succ]
            refine takeH (i := 2) (v := ?vv141) 57 rfl rfl (by kernel_rfl) (by kernel_rfl) (by kernel_rfl) (fun _ _ _ h => h) (Or.inl ⟨by kernel_rfl, ?yy141⟩) (by assumption) ?_
            case yy141 => intro w hSw; (try dsimp only at hSw); go_simp; (try with_reducible rfl)
            simp only [List.setIfInBounds_toArray, List.set_cons_zero, List.set_cons_succ]
            refine takeH (i := 3) (v := ?vv142) 58 rfl rfl (by kernel_rfl) (by kernel_rfl) (by kernel_rfl) (fun _ _ _ h => h) (Or.inl ⟨by kernel_rfl, ?yy142⟩) (by assumption) ?_
            case yy142 => intro w hSw; (try dsimp only at hSw); go_simp; (try with_reducible rfl)
            simp only [List.setIfInBounds_toArray, List.set_cons_zero, List.set_cons_succ]
            refine takeH (i := 4) (v := ?vv143) 59 rfl rfl (by kernel_rfl) (by kernel_rfl) (by kernel_rfl) (fun _ _ _ h => h) (Or.inl ⟨by kernel_rfl, ?yy143⟩) (by assumption) ?_
            case yy143 =>
              intro wq hSw
              obtain ⟨z0, z1, z2, z3, z4⟩ := hSw.1
              clear hSw
              go_simp
              (try with_reducible rfl)
            simp only [List.setIfInBounds_toArray, List.set_cons_zero, List.set_cons_succ]
            refine takeH (i := 5) (v := ?vv144) 60 rfl rfl (by kernel_rfl) (by kernel_rfl) (by kernel_rfl) (fun _ _ _ h => h) (Or.inl ⟨by kernel_rfl, ?yy144⟩) (by assumption) ?_
            case yy144 => intro w hSw; (try dsimp only at hSw); go_simp; (try with_reducible rfl)
            simp only [List.setIfInBounds_toArray, List.set_cons_zero, List.set_cons_succ]
            refine takeH (i := 6) (v := ?vv145) 61 rfl rfl (by kernel_rfl) (by kernel_rfl) (by kernel_rfl) (fun _ _ _ h => h) (Or.inl ⟨by kernel_rfl, ?yy145⟩) (by assumption) ?_
            case yy145 =>
              intro wq hSw
              obtain ⟨y0, y1, y2⟩ := hSw.2.2.2.c3
              clear hSw
              go_simp
              (try with_reducible rfl)
            simp only [List.setIfInBounds_toArray, List.set_cons_zero, List.set_cons_succ]
            refine takeH (i := 7) (v := ?vv146) 62 rfl rfl (by kernel_rfl) (by kernel_rfl) (by kernel_rfl) (fun _ _ _ h => h) (Or.inl ⟨by kernel_rfl, ?yy146⟩) (by assumption) ?_
            case yy146 => intro w hSw; (try dsimp only at hSw); go_simp; (try with_reducible rfl)
            simp only [List.setIfInBounds_toArray, List.set_cons_zero, List.set_cons_succ]
            refine takeH (i := 8) (v := ?vv147) 63 rfl rfl (by kernel_rfl) (by kernel_rfl) (by kernel_rfl) (fun _ _ _ h => h) (Or.inl ⟨by kernel_rfl, ?yy147⟩) (by assumption) ?_
            case yy147 => intro w hSw; (try dsimp only at hSw); go_simp; (try with_reducible rfl)
            simp only [List.setIfInBounds_toArray, List.set_cons_zero, List.set_cons_succ]
            refine takeH (i := 9) (v := ?vv148) 64 rfl rfl (by kernel_rfl) (by kernel_rfl) (by kernel_rfl) (fun _ _ _ h => h) (Or.inl ⟨by kernel_rfl, ?yy148⟩) (by assumption) ?_
            case yy148 =>
              intro wq hSw
              obtain ⟨z0, z1, z2, z3, z4⟩ := hSw.2.1
              clear hSw
              go_simp
              (try with_reducible rfl)
            simp only [List.setIfInBounds_toArray, List.set_cons_zero, List.set_cons_succ]
            refine takeH (i := 10) (v := ?vv149) 65 rfl rfl (by kernel_rfl) (by kernel_rfl) (by kernel_rfl) (fun _ _ _ h => h) (Or.inl ⟨by kernel_rfl, ?yy149⟩) (by assumption) ?_
            case yy149 => intro w hSw; (try dsimp only at hSw); go_simp; (try with_reducible rfl)
            simp only [List.setIfInBounds_toArray, List.set_cons_zero, List.set_cons_succ]
            refine wpAnyH_done (by kernel_rfl) ?_ _
            have HFF := Lib.hid (show V = false by rw [HVV.out, HF.out]; simp)
            go_wp2
            go_ret
            exact ⟨by rw [HFF.out] <;> rfl, HB.out.trans (Below.refl _ _).drew⟩
          have t4 : (s == ys) = true := by rw [e4]; simp
          have HN := Lib.hid (eq_go hlt hlt2 HQ.out (by rw [hx, hy, e0, e1, e2, e3, e4]))
          have HXE := Lib.hid hx; have HYE := Lib.hid hy; clear hx hy e0 e1 e2 e3 e4
          go_upto_region 11 with (fail)
          clear c0 c1 c2 d0 d1 d2
          go_wp2_with fail
          refine wp_region_held_drew (S := (fun w' => InsAt ba (oa + k * 5) op a b n s w' ∧ InsAt bb (ob + k * 5) yop ya yb yn ys w' ∧ Bx w.heap.size #[.slice pa P.length pc, .int .i64 sl, .slice (some ⟨ba, oa, none⟩) l.length ic] 25 w' ∧ Bx (w.heap.size + 1) #[.slice pb Q.length qc, .int .i64 tl, .slice (some ⟨bb, ob, none⟩) m.length jc] 25 w')) (by kernel_rfl) ?_ (fun hHeld => ?_)
          · exact HS0.out
          refine takeH (i := 0) (v := ?vv150) 55 rfl rfl (by kernel_rfl) (by kernel_rfl) (by kernel_rfl) (fun _ _ _ h => h) (Or.inl ⟨by kernel_rfl, ?yy150⟩) (by assumption) ?_
          case yy150 => intro w hSw; (try dsimp only at hSw); go_simp; (try with_reducible rfl)
          simp only [List.setIfInBounds_toArray, List.set_cons_zero, List.set_cons_succ]
          refine takeH (i := 1) (v := ?vv151) 56 rfl rfl (by kernel_rfl) (by kernel_rfl) (by kernel_rfl) (fun _ _ _ h => h) (Or.inl ⟨by kernel_rfl, ?yy151⟩) (by assumption) ?_
          case yy151 =>
            intro wq hSw
            obtain ⟨y0, y1, y2⟩ := hSw.2.2.1.c3
            clear hSw
            go_simp
            (try with_reducible rfl)
          simp only [List.setIfInBounds_toArray, List.set_cons_zero, List.set_cons_succ]
          refine takeH (i := 2) (v := ?vv152) 57 rfl rfl (by kernel_rfl) (by kernel_rfl) (by kernel_rfl) (fun _ _ _ h => h) (Or.inl ⟨by kernel_rfl, ?yy152⟩) (by assumption) ?_
          case yy152 => intro w hSw; (try dsimp only at hSw); go_simp; (try with_reducible rfl)
          simp only [List.setIfInBounds_toArray, List.set_cons_zero, List.set_cons_succ]
          refine takeH (i := 3) (v := ?vv153) 58 rfl rfl (by kernel_rfl) (by kernel_rfl) (by kernel_rfl) (fun _ _ _ h => h) (Or.inl ⟨by kernel_rfl, ?yy153⟩) (by assumption) ?_
          case yy153 => intro w hSw; (try dsimp only at hSw); go_simp; (try with_reducible rfl)
          simp only [List.setIfInBounds_toArray, List.set_cons_zero, List.set_cons_succ]
          refine takeH (i := 4) (v := ?vv154) 59 rfl rfl (by kernel_rfl) (by kernel_rfl) (by kernel_rfl) (fun _ _ _ h => h) (Or.inl ⟨by kernel_rfl, ?yy154⟩) (by assumption) ?_
          case yy154 =>
            intro wq hSw
            obtain ⟨z0, z1, z2, z3, z4⟩ := hSw.1
            clear hSw
            go_simp
            (try with_reducible rfl)
          simp only [List.setIfInBounds_toArray, List.set_cons_zero, List.set_cons_succ]
          refine takeH (i := 5) (v := ?vv155) 60 rfl rfl (by kernel_rfl) (by kernel_rfl) (by kernel_rfl) (fun _ _ _ h => h) (Or.inl ⟨by kernel_rfl, ?yy155⟩) (by assumption) ?_
          case yy155 => intro w hSw; (try dsimp only at hSw); go_simp; (try with_reducible rfl)
          simp only [List.setIfInBounds_toArray, List.set_cons_zero, List.set_cons_succ]
          refine takeH (i := 6) (v := ?vv156) 61 rfl rfl (by kernel_rfl) (by kernel_rfl) (by kernel_rfl) (fun _ _ _ h => h) (Or.inl ⟨by kernel_rfl, ?yy156⟩) (by assumption) ?_
          case yy156 =>
            intro wq hSw
            obtain ⟨y0, y1, y2⟩ := hSw.2.2.2.c3
            clear hSw
            go_simp
            (try with_reducible rfl)
          simp only [List.setIfInBounds_toArray, List.set_cons_zero, List.set_cons_succ]
          refine takeH (i := 7) (v := ?vv157) 62 rfl rfl (by kernel_rfl) (by kernel_rfl) (by kernel_rfl) (fun _ _ _ h => h) (Or.inl ⟨by kernel_rfl, ?yy157⟩) (by assumption) ?_
          case yy157 => intro w hSw; (try dsimp only at hSw); go_simp; (try with_reducible rfl)
          simp only [List.setIfInBounds_toArray, List.set_cons_zero, List.set_cons_succ]
          refine takeH (i := 8) (v := ?vv158) 63 rfl rfl (by kernel_rfl) (by kernel_rfl) (by kernel_rfl) (fun _ _ _ h => h) (Or.inl ⟨by kernel_rfl, ?yy158⟩) (by assumption) ?_
          case yy158 => intro w hSw; (try dsimp only at hSw); go_simp; (try with_reducible rfl)
          simp only [List.setIfInBounds_toArray, List.set_cons_zero, List.set_cons_succ]
          refine takeH (i := 9) (v := ?vv159) 64 rfl rfl (by kernel_rfl) (by kernel_rfl) (by kernel_rfl) (fun _ _ _ h => h) (Or.inl ⟨by kernel_rfl, ?yy159⟩) (by assumption) ?_
          case yy159 =>
            intro wq hSw
            obtain ⟨z0, z1, z2, z3, z4⟩ := hSw.2.1
            clear hSw
            go_simp
            (try with_reducible rfl)
          simp only [List.setIfInBounds_toArray, List.set_cons_zero, List.set_cons_succ]
          refine takeH (i := 10) (v := ?vv160) 65 rfl rfl (by kernel_rfl) (by kernel_rfl) (by kernel_rfl) (fun _ _ _ h => h) (Or.inl ⟨by kernel_rfl, ?yy160⟩) (by assumption) ?_
          case yy160 => intro w hSw; (try dsimp only at hSw); go_simp; (try with_reducible rfl)
          simp only [List.setIfInBounds_toArray, List.set_cons_zero, List.set_cons_succ]
          refine wpAnyH_done (by kernel_rfl) ?_ _
          go_wp2
          go_roundw
          case rel => exact ⟨k + 1, by omega, by go_num, HN, Lib.hid HC.out.drew, Lib.hid HD.out.drew, HB.out.trans (Below.refl _ _).drew⟩
          case measure => simp [intOf]; omega
        · have hlt' : ¬ (k : Int) < (l.length : Int) := by omega
          have HF := Lib.hid (show V = true by rw [HVV.out, HPV.out, ← HQ.out, List.drop_of_length_le (by omega), List.drop_of_length_le (by rw [← E3.out]; omega)]; rfl)
          go_wp2
          go_ret
          exact ⟨by rw [HF.out] <;> rfl, HB.out⟩
set_option maxRecDepth 100000 in
set_option maxHeartbeats 8000000 in
theorem Few_any (pa ia : Option Addr) (pc ic : Nat) (P : List Int) (sl : Int) (l : List Ins) (w : World) (hI : CellsAt w (.slice ia l.length ic) l.length (insLs l)) :
    Calls Tryz.prog 10 #[.agg #[.slice pa P.length pc, .int .i64 sl, .slice ia l.length ic]] w fun e w' => e = .returned (.bool (fewS ⟨P, sl, l⟩)) ∧ Below w.heap.size w w' := by
  obtain ⟨V, hV⟩ : ∃ V, fewS ⟨P, sl, l⟩ = V := ⟨_, rfl⟩
  rw [hV]
  have HV := Lib.hid hV; have HIA := Lib.hid hI; clear hV hI
  obtain ⟨v0, hW0, hb0, hc0⟩ := boxes1 w #[.slice pa P.length pc, .int .i64 sl, .slice ia l.length ic] 25
  have HW := Lib.hid hW0; have HB := Lib.hid hb0; have HC := Lib.hid hc0; clear hW0 hb0 hc0
  go_enter Tryz.func10, Tryz.ntmps10
  go_upto_region 1 with (fail)
  rw [HW.out]
  clear HW
  obtain ⟨c0, c1, c2⟩ := HC.out.c3
  by_cases h1 : 80 < l.length
  · have h1' : (80 : Int) < (l.length : Int) := by omega
    have HF := Lib.hid (HV.out.symm.trans (few_big (.inl h1)))
    go_wp2
    go_ret
    exact ⟨by rw [HF.out] <;> rfl, HB.out⟩
  have h1' : ¬ (80 : Int) < (l.length : Int) := by omega
  by_cases h2 : 80 < P.length
  · have h2' : (80 : Int) < (P.length : Int) := by omega
    have HF := Lib.hid (HV.out.symm.trans (few_big (.inr h2)))
    go_wp2
    go_ret
    exact ⟨by rw [HF.out] <;> rfl, HB.out⟩
  have h2' : ¬ (80 : Int) < (P.length : Int) := by omega
  go_wp2
  go_loopw [3] (fun i wr => ∃ k : Nat, k ≤ l.length ∧ i = .int .i64 k ∧ Hid ((l.take k).all (fun x => decide (x.s.length ≤ 200)) = true) ∧ Hid (Bx w.heap.size #[.slice pa P.length pc, .int .i64 sl, .slice ia l.length ic] 25 wr) ∧ Below w.heap.size w wr) (fun i _ => l.length - (intOf i).toNat)
  case atStart => exact ⟨0, Nat.zero_le _, rfl, Lib.hid rfl, HC, HB.out⟩
  case round =>
    clear c0 c1 c2 HB HC
    obtain ⟨k, hk, rfl, HQ, HC, hB⟩ := hrel
    have HB := Lib.hid hB; clear hB
    obtain ⟨c0, c1, c2⟩ := HC.out.c3
    by_cases hlt : k < l.length
    · have hlt' : (k : Int) < (l.length : Int) := by omega
      have hw1 : IntKind.i64.wrap ((k : Int) + 1) = (k : Int) + 1 := by rw [IntKind.wrap_i64]; omega
      obtain ⟨ba, oa, rfl, p0, p1, p2, p3, p4⟩ := ins_cells (HIA.out.below HB.out) hlt
      obtain ⟨⟨op, a, b, n, s⟩, hxe⟩ : ∃ x, l[k] = x := ⟨_, rfl⟩
      rw [hxe] at p0 p1 p2 p3 p4
      simp only at p0 p1 p2 p3 p4
      have HXE := Lib.hid hxe; clear hxe p0 p1 p2 p3
      by_cases h3 : s.length ≤ 200
      rotate_left
      · have h3' : (200 : Int) < (s.length : Int) := by omega
        have HF := Lib.hid (HV.out.symm.trans (few_no (all_no hlt (by rw [HXE.out]; exact decide_eq_false h3))))
        go_wp2
        go_ret
        exact ⟨by rw [HF.out] <;> rfl, HB.out⟩
      have h3' : ¬ (200 : Int) < (s.length : Int) := by omega
      have HN := Lib.hid (all_tk hlt HQ.out (by rw [HXE.out]; exact decide_eq_true h3))
      go_wp2
      go_roundw
      case rel => exact ⟨k + 1, by omega, by go_num, HN, HC, HB.out⟩
      case measure => simp [intOf]; omega
    · have hlt' : ¬ (k : Int) < (l.length : Int) := by omega
      have HF := Lib.hid (HV.out.symm.trans (few_yes (c := ⟨P, sl, l⟩) h1 h2 (all_full hlt HQ.out)))
      go_wp2
      go_ret
      exact ⟨by rw [HF.out] <;> rfl, HB.out⟩
set_option maxRecDepth 100000 in
set_option maxHeartbeats 8000000 in
theorem Takes_any (op a b n : Int) (s : List UInt8) (w : World) :
    Calls Tryz.prog 19 #[.agg #[.int .i64 op, .int .i64 a, .int .i64 b, .int .i64 n, .string (bs s)]] w fun e w' => e = .returned (.int .i64 (takeI ⟨op, a, b, n, s⟩)) ∧ Below w.heap.size w w' := by
  obtain ⟨tk, htk⟩ : ∃ t, takeI ⟨op, a, b, n, s⟩ = t := ⟨_, rfl⟩
  rw [htk]
  have HTK := Lib.hid htk; clear htk
  obtain ⟨v0, hW0, hb0, hx0⟩ := boxes1 w #[.int .i64 op, .int .i64 a, .int .i64 b, .int .i64 n, .string (bs s)] 39
  have HW := Lib.hid hW0; have HB := Lib.hid hb0; have HX := Lib.hid hx0; clear hW0 hb0 hx0
  go_enter Tryz.func19, Tryz.ntmps19
  go_upto_region 1 with (fail)
  rw [HW.out]
  clear HW
  obtain ⟨x0, x1, x2, x3, x4⟩ := HX.out.c5
  go_wp2_with fail
  have hcl := Rtakes_any ⟨op, a, b, n, s⟩
  simp only [insV] at hcl
  refine (hcl _).mono ?_
  rw [HTK.out]
  clear hcl
  rintro er w7 ⟨rfl, hb1⟩
  clear x0 x1 x2 x3 x4
  have HB := Lib.hid (btrans HB.out HB.out.size hb1); clear hb1
  go_wp2
  go_ret
  exact ⟨rfl, HB.out⟩
set_option maxRecDepth 100000 in
set_option maxHeartbeats 8000000 in
theorem Step_any (d op a b n : Int) (s : List UInt8) (w : World) (hd0 : -1000000 ≤ d) (hd1 : d ≤ 1000000) :
    Calls Tryz.prog 20 #[.int .i64 d, .agg #[.int .i64 op, .int .i64 a, .int .i64 b, .int .i64 n, .string (bs s)]] w fun e w' => e = .returned (.int .i64 (behI d ⟨op, a, b, n, s⟩)) ∧ Below w.heap.size w w' := by
  obtain ⟨tk, htk⟩ : ∃ t, takeI ⟨op, a, b, n, s⟩ = t := ⟨_, rfl⟩
  obtain ⟨pt, hpt⟩ : ∃ t, putI ⟨op, a, b, n, s⟩ = t := ⟨_, rfl⟩
  have htr := takeI_rng ⟨op, a, b, n, s⟩
  have hpr := putI_rng ⟨op, a, b, n, s⟩
  rw [htk] at htr
  rw [hpt] at hpr
  obtain ⟨ht0, ht1⟩ := htr
  obtain ⟨hp0, hp1⟩ := hpr
  have hbe : behI d ⟨op, a, b, n, s⟩ = d - tk + pt := by unfold behI; rw [htk, hpt]; omega
  rw [hbe]
  clear hbe
  have HTK := Lib.hid htk; have HPT := Lib.hid hpt; clear htk hpt
  have hw2 : IntKind.i64.wrap (d - tk) = d - tk := by rw [IntKind.wrap_i64]; omega
  have hw3 : IntKind.i64.wrap (d - tk + pt) = d - tk + pt := by rw [IntKind.wrap_i64]; omega
  obtain ⟨v0, hW0, hb0, hx0⟩ := boxes1 w #[.int .i64 op, .int .i64 a, .int .i64 b, .int .i64 n, .string (bs s)] 39
  have HW := Lib.hid hW0; have HB := Lib.hid hb0; have HX := Lib.hid hx0; clear hW0 hb0 hx0
  go_enter Tryz.func20, Tryz.ntmps20
  go_upto_region 1 with (fail)
  rw [HW.out]
  clear HW
  have hs0 : Bx w.heap.size #[.int .i64 op, .int .i64 a, .int .i64 b, .int .i64 n, .string (bs s)] 39 v0.drew := HX.out
  have HS0 := Lib.hid hs0; clear hs0
  go_wp2_with fail
  refine wp_region_held_drew (S := (fun w' => Bx w.heap.size #[.int .i64 op, .int .i64 a, .int .i64 b, .int .i64 n, .string (bs s)] 39 w')) (by kernel_rfl) ?_ (fun hHeld => ?_)
  · exact HS0.out
  refine takeH (i := 0) (v := ?vv161) 5 rfl rfl (by kernel_rfl) (by kernel_rfl) (by kernel_rfl) (fun _ _ _ h => h) (Or.inl ⟨by kernel_rfl, ?yy161⟩) (by assumption) ?_
  case yy161 => intro w hSw; (try dsimp only at hSw); go_simp; (try with_reducible rfl)
  simp only [List.setIfInBounds_toArray, List.set_cons_zero, List.set_cons_succ]
  refine takeH (i := 1) (v := ?vv162) 6 rfl rfl (by kernel_rfl) (by kernel_rfl) (by kernel_rfl) (fun _ _ _ h => h) (Or.inl ⟨by kernel_rfl, ?yy162⟩) (by assumption) ?_
  case yy162 =>
    intro wq hSw
    obtain ⟨x0, x1, x2, x3, x4⟩ := hSw.c5
    clear hSw
    go_simp
    (try with_reducible rfl)
  simp only [List.setIfInBounds_toArray, List.set_cons_zero, List.set_cons_succ]
  refine takeH (i := 4) (v := ?vv163) 9 rfl rfl (by kernel_rfl) (by kernel_rfl) (by kernel_rfl) (fun _ _ _ h => h) (Or.inl ⟨by kernel_rfl, ?yy163⟩) (by assumption) ?_
  case yy163 =>
    intro wq hSw
    obtain ⟨x0, x1, x2, x3, x4⟩ := hSw.c5
    clear hSw
    go_simp
    (try with_reducible rfl)
  simp only [List.setIfInBounds_toArray, List.set_cons_zero, List.set_cons_succ]
  refine wpAnyH_ready (rs := [2]) (by kernel_rfl) (by simp) ?_
  refine (AllReadyH.cons rfl (fun K hK => ?_) AllReadyH.nil)
  go_simp
  (have hcl := Rtakes_any ⟨op, a, b, n, s⟩; simp only [insV] at hcl; refine (hcl _).mono ?_; rw [HTK.out]; clear hcl; rintro er u1 ⟨rfl, hb1⟩)
  (try go_wp2_with fail)
  refine hK.out _ _ ?_ (fun hHeld => ?_)
  · exact hHeld.call hb1
  clear hK K
  (try simp only [Act.put, List.setIfInBounds_toArray, List.set_cons_zero, List.set_cons_succ])
  refine takeH (i := 3) (v := ?vv164) 8 rfl rfl (by kernel_rfl) (by kernel_rfl) (by kernel_rfl) (fun _ _ _ h => h) (Or.inl ⟨by kernel_rfl, ?yy164⟩) (by assumption) ?_
  case yy164 => intro w hSw; (try dsimp only at hSw); go_simp; (try with_reducible rfl)
  simp only [List.setIfInBounds_toArray, List.set_cons_zero, List.set_cons_succ]
  refine wpAnyH_ready (rs := [5]) (by kernel_rfl) (by simp) ?_
  refine (AllReadyH.cons rfl (fun K hK => ?_) AllReadyH.nil)
  go_simp
  (have hcl := Rputs_any ⟨op, a, b, n, s⟩; simp only [insV] at hcl; refine (hcl _).mono ?_; rw [HPT.out]; clear hcl; rintro er u2 ⟨rfl, hb2⟩)
  (try go_wp2_with fail)
  refine hK.out _ _ ?_ (fun hHeld => ?_)
  · exact hHeld.call hb2
  clear hK K
  (try simp only [Act.put, List.setIfInBounds_toArray, List.set_cons_zero, List.set_cons_succ])
  refine takeH (i := 6) (v := ?vv165) 11 rfl rfl (by kernel_rfl) (by kernel_rfl) (by kernel_rfl) (fun _ _ _ h => h) (Or.inl ⟨by kernel_rfl, ?yy165⟩) (by assumption) ?_
  case yy165 => intro w hSw; (try dsimp only at hSw); go_simp; (try with_reducible rfl)
  simp only [List.setIfInBounds_toArray, List.set_cons_zero, List.set_cons_succ]
  refine takeH (i := 7) (v := ?vv166) 4 rfl rfl (by kernel_rfl) (by kernel_rfl) (by kernel_rfl) (fun _ _ _ h => h) (Or.inl ⟨by kernel_rfl, ?yy166⟩) (by assumption) ?_
  case yy166 => intro w hSw; (try dsimp only at hSw); go_simp; (try with_reducible rfl)
  simp only [List.setIfInBounds_toArray, List.set_cons_zero, List.set_cons_succ]
  refine wpAnyH_done (by kernel_rfl) ?_ _
  have hb0 : Below v0.heap.size v0 v0.drew := (Below.refl v0.heap.size v0).drew
  have hb3 := btrans (btrans hb0 hb0.size hb1) (btrans hb0 hb0.size hb1).size hb2
  have HB := Lib.hid (btrans HB.out HB.out.size hb3); clear hb0 hb1 hb2 hb3 hHeld HS0
  go_wp2
  go_ret
  exact ⟨rfl, HB.out⟩
end Go.Proofs.YtkmmdkklpbafdaaGreatDoor
