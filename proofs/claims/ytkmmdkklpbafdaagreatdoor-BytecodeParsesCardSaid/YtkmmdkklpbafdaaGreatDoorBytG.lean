/- The walks of the reference's Depths, deep and Validate. No conditions. -/
import Derived.Test.YtkmmdkklpbafdaaGreatDoorBytF
namespace Go.Proofs.YtkmmdkklpbafdaaGreatDoor
open Go.RowKit

def InsAt (b o : Nat) (op a c n : Int) (s : List UInt8) (W : World) : Prop :=
  W.cell? ⟨b, o, none⟩ = some (.int .i64 op) ∧ W.cell? ⟨b, o + 1, none⟩ = some (.int .i64 a) ∧ W.cell? ⟨b, o + 2, none⟩ = some (.int .i64 c) ∧ W.cell? ⟨b, o + 3, none⟩ = some (.int .i64 n) ∧ W.cell? ⟨b, o + 4, none⟩ = some (.string (bs s))
theorem InsAt.below {b o : Nat} {op a c n : Int} {s : List UInt8} {W W' : World} (h : InsAt b o op a c n s W) (hb : Below W.heap.size W W') : InsAt b o op a c n s W' :=
  ⟨cell1_below h.1 hb, cell1_below h.2.1 hb, cell1_below h.2.2.1 hb, cell1_below h.2.2.2.1 hb, cell1_below h.2.2.2.2 hb⟩
theorem depR_at {d : Int} {l : List Ins} {k : Nat} {x : Ins} (hk : k < l.length) (hx : l[k] = x) : depR d (l.drop k) = d :: depR (if leaI x = true then 0 else behI d x) (l.drop (k + 1)) := by
  rw [List.drop_eq_getElem_cons hk, hx]; rfl
theorem zip_at {l : List Ins} {D : List Int} {k : Nat} (hk : k < l.length) (hD : D.length = l.length) : ∃ h : k < (l.zip D).length, (l.zip D)[k] = (l[k], D[k]'(by omega)) := ⟨by rw [List.length_zip, hD]; omega, by simp⟩
theorem okp_1 {x : Ins} {d : Int} {D : List Int} (h : d < takeI x) : (okP (x, d) && jokS D x) = false := by unfold okP; rw [decide_eq_false (show ¬ takeI (x, d).1 ≤ (x, d).2 from by show ¬ takeI x ≤ d; omega)]; rfl
theorem okp_2 {x : Ins} {d : Int} {D : List Int} (h : badI d x = true) : (okP (x, d) && jokS D x) = false := by unfold okP; rw [show badI (x, d).2 (x, d).1 = true from h]; simp
theorem okp_3 {x : Ins} {d : Int} {D : List Int} (h : jokS D x = false) : (okP (x, d) && jokS D x) = false := by rw [h, Bool.and_false]
theorem okp_ok {x : Ins} {d : Int} {D : List Int} (h1 : takeI x ≤ d) (h2 : badI d x = false) (h3 : jokS D x = true) : (okP (x, d) && jokS D x) = true := by unfold okP; rw [h3, decide_eq_true (show takeI (x, d).1 ≤ (x, d).2 from h1), show badI (x, d).2 (x, d).1 = false from h2]; rfl
theorem depR_le : ∀ (l : List Ins) (d : Int) (c : Nat), -3 * (c : Int) ≤ d → d ≤ 3 * (c : Int) → ∀ v ∈ depR d l, -3 * ((c + l.length : Nat) : Int) ≤ v ∧ v ≤ 3 * ((c + l.length : Nat) : Int)
  | [], _, _, _, _, v, h => by simp [depR] at h
  | x :: r, d, c, h0, h1, v, h => by
    unfold depR at h
    have hlen : (x :: r).length = r.length + 1 := rfl
    rcases List.mem_cons.1 h with rfl | h
    · constructor <;> omega
    · have ht := takeI_rng x
      have hp := putI_rng x
      have := depR_le r _ (c + 1) (by split <;> (try unfold behI) <;> omega) (by split <;> (try unfold behI) <;> omega) v h
      constructor <;> omega
theorem valR_lim {c : Cd} (h : 4096 < c.l.length ∨ 64 < c.sl) : valR c = 2 := by unfold valR; rw [if_pos h]
theorem valR_bad {c : Cd} (h1 : ¬ (4096 < c.l.length ∨ 64 < c.sl)) (h : c.p.all tyB = false ∨ c.sl < (c.p.length : Int) ∨ c.l.all (insS c.sl (c.l.length : Int)) = false ∨ (deepB c.l (depR 0 c.l) = false ∨ c.l.length = 0 ∨ leaI (lastI c.l) = false)) : valR c = 23 := by
  unfold valR
  rw [if_neg h1]
  split
  · rfl
  · rename_i h2
    split
    · rfl
    · rename_i h3
      split
      · rfl
      · rename_i h4
        split
        · rfl
        · rename_i h5
          rcases h with h | h | h | h
          · exact absurd h h2
          · exact absurd h h3
          · exact absurd h h4
          · exact absurd h h5
theorem valR_ok {c : Cd} (h1 : ¬ (4096 < c.l.length ∨ 64 < c.sl)) (h2 : c.p.all tyB = true) (h3 : ¬ c.sl < (c.p.length : Int)) (h4 : c.l.all (insS c.sl (c.l.length : Int)) = true) (h5 : deepB c.l (depR 0 c.l) = true) (h6 : c.l.length ≠ 0) (h7 : leaI (lastI c.l) = true) : valR c = 0 := by
  unfold valR
  rw [if_neg h1, if_neg (by simp [h2]), if_neg h3, if_neg (by simp [h4]), if_neg (by simp [h5, h6, h7])]

set_option maxRecDepth 100000 in
set_option maxHeartbeats 16000000 in
theorem RDepths_any (pa ia : Option Addr) (pc ic : Nat) (P : List Int) (sl : Int) (l : List Ins) (w : World) (hI : CellsAt w (.slice ia l.length ic) l.length (insLs l)) (hM : l.length ≤ 4096) :
    Calls Tryz.prog 87 #[.agg #[.slice pa P.length pc, .int .i64 sl, .slice ia l.length ic]] w fun e w' => ∃ v, e = .returned v ∧ CellsAt w' v (depR 0 l).length (intsL (depR 0 l)) ∧ Below w.heap.size w w' := by
  obtain ⟨D, hR⟩ : ∃ R, depR 0 l = R := ⟨_, rfl⟩
  rw [hR]
  have HQ := Lib.hid (show ([] : List Int) ++ depR 0 (l.drop 0) = D from hR); have HIA := Lib.hid hI; clear hR hI
  obtain ⟨v0, hW0, hb0, hc0⟩ := boxes1 w #[.slice pa P.length pc, .int .i64 sl, .slice ia l.length ic] 25
  have HW := Lib.hid hW0; have HB := Lib.hid hb0; have HC := Lib.hid hc0; clear hW0 hb0 hc0
  go_enter Tryz.func87, Tryz.ntmps87
  go_upto_region 1 with (fail)
  rw [HW.out]
  clear HW
  have HZ := Lib.hid (own_nil v0 w.heap.size 3 1)
  go_wp2
  go_loopw [3, 4, 5] (fun v s4 i wr => ∃ (k : Nat) (A : List Int) (d : Int), k ≤ l.length ∧ i = .int .i64 k ∧ s4 = .int .i64 d ∧ A.length = k ∧ -3 * (k : Int) ≤ d ∧ d ≤ 3 * (k : Int) ∧ Hid (A ++ depR d (l.drop k) = D) ∧ Hid (Bx w.heap.size #[.slice pa P.length pc, .int .i64 sl, .slice ia l.length ic] 25 wr) ∧ Hid (wr.ownsRow w.heap.size 3 1 v A.length (intsL A)) ∧ Below w.heap.size w wr) (fun _ _ i _ => l.length - (intOf i).toNat)
  case atStart => exact ⟨0, [], 0, Nat.zero_le _, rfl, rfl, rfl, by omega, by omega, HQ, HC, HZ, HB.out⟩
  case round =>
    obtain ⟨k, A, d, hk, rfl, rfl, hAk, hd0, hd1, HQ2, HC, HO, hB⟩ := hrel
    clear HQ HZ HB
    have HB := Lib.hid hB; clear hB
    obtain ⟨c0, c1, c2⟩ := HC.out.c3
    by_cases hlt : k < l.length
    · have hlt' : (k : Int) < (l.length : Int) := by omega
      have hw1 : IntKind.i64.wrap ((k : Int) + 1) = (k : Int) + 1 := by rw [IntKind.wrap_i64]; omega
      go_upto_region 7 with (at_builtin; refine wpList_append_int rfl _ _ rfl w.heap.size _ A d HO.out rfl rfl (by omega) w w.heap.size HB.out HB.out.size (Nat.le_refl _) ?_; intro v5 w5 hown5 hb5 hg5; have HC := Lib.hid (HC.out.grown hg5 HO.out (by decide)); have HB := Lib.hid hb5; have HO := Lib.hid hown5; clear c0 c1 c2 hg5 hb5 hown5)
      obtain ⟨ba, oa, rfl, p0, p1, p2, p3, p4⟩ := ins_cells (HIA.out.below HB.out) hlt
      obtain ⟨⟨op, a, b, n, s⟩, hxe⟩ : ∃ x, l[k] = x := ⟨_, rfl⟩
      rw [hxe] at p0 p1 p2 p3 p4
      simp only at p0 p1 p2 p3 p4
      have HXE := Lib.hid hxe; clear hxe
      obtain ⟨tk, htk⟩ : ∃ t, takeI ⟨op, a, b, n, s⟩ = t := ⟨_, rfl⟩
      obtain ⟨pt, hpt⟩ : ∃ t, putI ⟨op, a, b, n, s⟩ = t := ⟨_, rfl⟩
      obtain ⟨lv, hlv⟩ : ∃ t, leaI ⟨op, a, b, n, s⟩ = t := ⟨_, rfl⟩
      have htr := takeI_rng ⟨op, a, b, n, s⟩
      have hpr := putI_rng ⟨op, a, b, n, s⟩
      rw [htk] at htr
      rw [hpt] at hpr
      obtain ⟨ht0, ht1⟩ := htr
      obtain ⟨hp0, hp1⟩ := hpr
      have HTK := Lib.hid htk; have HPT := Lib.hid hpt; have HLV := Lib.hid hlv; clear htk hpt hlv
      have hw2 : IntKind.i64.wrap (d - tk) = d - tk := by rw [IntKind.wrap_i64]; omega
      obtain ⟨d2, hd2⟩ : ∃ d2, d - tk + pt = d2 := ⟨_, rfl⟩
      have hw3 : IntKind.i64.wrap (d - tk + pt) = d2 := by rw [IntKind.wrap_i64]; omega
      have h2a : -3 * ((k + 1 : Nat) : Int) ≤ d2 := by omega
      have h2b : d2 ≤ 3 * ((k + 1 : Nat) : Int) := by omega
      have HBE := Lib.hid (show behI d ⟨op, a, b, n, s⟩ = d2 by unfold behI; rw [HTK.out, HPT.out]; omega)
      clear hd2
      have hs0 : Bx w.heap.size #[.slice pa P.length pc, .int .i64 sl, .slice (some ⟨ba, oa, none⟩) l.length ic] 25 w5.drew ∧ InsAt ba (oa + k * 5) op a b n s w5.drew := ⟨HC.out, p0, p1, p2, p3, p4⟩
      have HS0 := Lib.hid hs0; clear hs0 p0 p1 p2 p3 p4
      go_wp2_with fail
      refine wp_region_held_drew (S := (fun w' => Bx w.heap.size #[.slice pa P.length pc, .int .i64 sl, .slice (some ⟨ba, oa, none⟩) l.length ic] 25 w' ∧ InsAt ba (oa + k * 5) op a b n s w')) (by kernel_rfl) ?_ (fun hHeld => ?_)
      · exact HS0.out
      refine takeH (i := 0) (v := ?vv1) 17 rfl rfl (by kernel_rfl) (by kernel_rfl) (by kernel_rfl) (fun _ _ _ h => h) (Or.inl ⟨by kernel_rfl, ?yy1⟩) (by assumption) ?_
      case yy1 => intro w hSw; (try dsimp only at hSw); go_simp; (try with_reducible rfl)
      simp only [List.setIfInBounds_toArray, List.set_cons_zero, List.set_cons_succ]
      refine takeH (i := 1) (v := ?vv2) 18 rfl rfl (by kernel_rfl) (by kernel_rfl) (by kernel_rfl) (fun _ _ _ h => h) (Or.inl ⟨by kernel_rfl, ?yy2⟩) (by assumption) ?_
      case yy2 => intro w hSw; (try dsimp only at hSw); go_simp; (try with_reducible rfl)
      simp only [List.setIfInBounds_toArray, List.set_cons_zero, List.set_cons_succ]
      refine takeH (i := 2) (v := ?vv3) 19 rfl rfl (by kernel_rfl) (by kernel_rfl) (by kernel_rfl) (fun _ _ _ h => h) (Or.inl ⟨by kernel_rfl, ?yy3⟩) (by assumption) ?_
      case yy3 =>
        intro wq hSw
        obtain ⟨c0, c1, c2⟩ := hSw.1.c3
        clear hSw
        go_simp
        (try with_reducible rfl)
      simp only [List.setIfInBounds_toArray, List.set_cons_zero, List.set_cons_succ]
      refine takeH (i := 3) (v := ?vv4) 20 rfl rfl (by kernel_rfl) (by kernel_rfl) (by kernel_rfl) (fun _ _ _ h => h) (Or.inl ⟨by kernel_rfl, ?yy4⟩) (by assumption) ?_
      case yy4 => intro w hSw; (try dsimp only at hSw); go_simp; (try with_reducible rfl)
      simp only [List.setIfInBounds_toArray, List.set_cons_zero, List.set_cons_succ]
      refine takeH (i := 4) (v := ?vv5) 21 rfl rfl (by kernel_rfl) (by kernel_rfl) (by kernel_rfl) (fun _ _ _ h => h) (Or.inl ⟨by kernel_rfl, ?yy5⟩) (by assumption) ?_
      case yy5 => intro w hSw; (try dsimp only at hSw); go_simp; (try with_reducible rfl)
      simp only [List.setIfInBounds_toArray, List.set_cons_zero, List.set_cons_succ]
      refine takeH (i := 5) (v := ?vv6) 22 rfl rfl (by kernel_rfl) (by kernel_rfl) (by kernel_rfl) (fun _ _ _ h => h) (Or.inl ⟨by kernel_rfl, ?yy6⟩) (by assumption) ?_
      case yy6 =>
        intro wq hSw
        obtain ⟨z0, z1, z2, z3, z4⟩ := hSw.2
        clear hSw
        go_simp
        (try with_reducible rfl)
      simp only [List.setIfInBounds_toArray, List.set_cons_zero, List.set_cons_succ]
      refine takeH (i := 8) (v := ?vv7) 25 rfl rfl (by kernel_rfl) (by kernel_rfl) (by kernel_rfl) (fun _ _ _ h => h) (Or.inl ⟨by kernel_rfl, ?yy7⟩) (by assumption) ?_
      case yy7 => intro w hSw; (try dsimp only at hSw); go_simp; (try with_reducible rfl)
      simp only [List.setIfInBounds_toArray, List.set_cons_zero, List.set_cons_succ]
      refine takeH (i := 9) (v := ?vv8) 26 rfl rfl (by kernel_rfl) (by kernel_rfl) (by kernel_rfl) (fun _ _ _ h => h) (Or.inl ⟨by kernel_rfl, ?yy8⟩) (by assumption) ?_
      case yy8 =>
        intro wq hSw
        obtain ⟨c0, c1, c2⟩ := hSw.1.c3
        clear hSw
        go_simp
        (try with_reducible rfl)
      simp only [List.setIfInBounds_toArray, List.set_cons_zero, List.set_cons_succ]
      refine takeH (i := 10) (v := ?vv9) 27 rfl rfl (by kernel_rfl) (by kernel_rfl) (by kernel_rfl) (fun _ _ _ h => h) (Or.inl ⟨by kernel_rfl, ?yy9⟩) (by assumption) ?_
      case yy9 => intro w hSw; (try dsimp only at hSw); go_simp; (try with_reducible rfl)
      simp only [List.setIfInBounds_toArray, List.set_cons_zero, List.set_cons_succ]
      refine takeH (i := 11) (v := ?vv10) 28 rfl rfl (by kernel_rfl) (by kernel_rfl) (by kernel_rfl) (fun _ _ _ h => h) (Or.inl ⟨by kernel_rfl, ?yy10⟩) (by assumption) ?_
      case yy10 => intro w hSw; (try dsimp only at hSw); go_simp; (try with_reducible rfl)
      simp only [List.setIfInBounds_toArray, List.set_cons_zero, List.set_cons_succ]
      refine takeH (i := 12) (v := ?vv11) 29 rfl rfl (by kernel_rfl) (by kernel_rfl) (by kernel_rfl) (fun _ _ _ h => h) (Or.inl ⟨by kernel_rfl, ?yy11⟩) (by assumption) ?_
      case yy11 =>
        intro wq hSw
        obtain ⟨z0, z1, z2, z3, z4⟩ := hSw.2
        clear hSw
        go_simp
        (try with_reducible rfl)
      simp only [List.setIfInBounds_toArray, List.set_cons_zero, List.set_cons_succ]
      refine wpAnyH_ready (rs := [6]) (by kernel_rfl) (by simp) ?_
      refine (AllReadyH.cons rfl (fun K hK => ?_) AllReadyH.nil)
      go_simp
      (have hcl := Rtakes_any ⟨op, a, b, n, s⟩; simp only [insV] at hcl; refine (hcl _).mono ?_; rw [HTK.out]; clear hcl; rintro er u1 ⟨rfl, hb1⟩)
      (try go_wp2_with fail)
      refine hK.out _ _ ?_ (fun hHeld => ?_)
      · exact ⟨hHeld.1.call hb1, hHeld.2.below hb1⟩
      clear hK K
      (try simp only [Act.put, List.setIfInBounds_toArray, List.set_cons_zero, List.set_cons_succ])
      refine takeH (i := 7) (v := ?vv12) 24 rfl rfl (by kernel_rfl) (by kernel_rfl) (by kernel_rfl) (fun _ _ _ h => h) (Or.inl ⟨by kernel_rfl, ?yy12⟩) (by assumption) ?_
      case yy12 => intro w hSw; (try dsimp only at hSw); go_simp; (try with_reducible rfl)
      simp only [List.setIfInBounds_toArray, List.set_cons_zero, List.set_cons_succ]
      refine wpAnyH_ready (rs := [13]) (by kernel_rfl) (by simp) ?_
      refine (AllReadyH.cons rfl (fun K hK => ?_) AllReadyH.nil)
      go_simp
      (have hcl := Rputs_any ⟨op, a, b, n, s⟩; simp only [insV] at hcl; refine (hcl _).mono ?_; rw [HPT.out]; clear hcl; rintro er u2 ⟨rfl, hb2⟩)
      (try go_wp2_with fail)
      refine hK.out _ _ ?_ (fun hHeld => ?_)
      · exact ⟨hHeld.1.call hb2, hHeld.2.below hb2⟩
      clear hK K
      (try simp only [Act.put, List.setIfInBounds_toArray, List.set_cons_zero, List.set_cons_succ])
      refine takeH (i := 14) (v := ?vv13) 31 rfl rfl (by kernel_rfl) (by kernel_rfl) (by kernel_rfl) (fun _ _ _ h => h) (Or.inl ⟨by kernel_rfl, ?yy13⟩) (by assumption) ?_
      case yy13 => intro w hSw; (try dsimp only at hSw); go_simp; (try with_reducible rfl)
      simp only [List.setIfInBounds_toArray, List.set_cons_zero, List.set_cons_succ]
      refine takeH (i := 15) (v := ?vv14) 4 rfl rfl (by kernel_rfl) (by kernel_rfl) (by kernel_rfl) (fun _ _ _ h => h) (Or.inl ⟨by kernel_rfl, ?yy14⟩) (by assumption) ?_
      case yy14 => intro w hSw; (try dsimp only at hSw); go_simp; (try with_reducible rfl)
      simp only [List.setIfInBounds_toArray, List.set_cons_zero, List.set_cons_succ]
      refine wpAnyH_done (by kernel_rfl) ?_ _
      have hb0 : Below w5.heap.size w5 w5.drew := (Below.refl w5.heap.size w5).drew
      have hb3 := btrans (btrans hb0 hb0.size hb1) (btrans hb0 hb0.size hb1).size hb2
      have HC := Lib.hid (HC.out.call hb3); have HB := Lib.hid (btrans HB.out HB.out.size hb3); have HO := Lib.hid (own_below HO.out hb3); clear hb0 hb1 hb2 hb3 HS0
      obtain ⟨z0, z1, z2, z3, z4⟩ := hHeld.2
      clear hHeld
      obtain ⟨c0, c1, c2⟩ := HC.out.c3
      go_wp2_with fail
      have hcl := Rfinal_any ⟨op, a, b, n, s⟩
      simp only [insV] at hcl
      refine (hcl _).mono ?_
      rw [HLV.out]
      clear hcl
      rintro er w7 ⟨rfl, hb1⟩
      clear c0 c1 c2 z0 z1 z2 z3 z4
      have HC := Lib.hid (HC.out.call hb1); have HB := Lib.hid (btrans HB.out HB.out.size hb1); have HO := Lib.hid (own_below HO.out hb1); clear hb1
      cases lv with
      | true =>
        have HN := Lib.hid (show (A ++ [d]) ++ depR 0 (l.drop (k + 1)) = D by rw [← HQ2.out, depR_at hlt HXE.out, if_pos HLV.out]; simp)
        go_wp2
        go_roundw
        case rel => exact ⟨k + 1, A ++ [d], 0, by omega, by go_num, rfl, by rw [List.length_append, hAk]; rfl, by omega, by omega, HN, HC, HO, HB.out⟩
        case measure => simp [intOf]; omega
      | false =>
        have HN := Lib.hid (show (A ++ [d]) ++ depR d2 (l.drop (k + 1)) = D by rw [← HQ2.out, depR_at hlt HXE.out, if_neg (by rw [HLV.out]; simp), HBE.out]; simp)
        go_wp2
        go_roundw
        case rel => exact ⟨k + 1, A ++ [d], d2, by omega, by go_num, rfl, by rw [List.length_append, hAk]; rfl, by omega, by omega, HN, HC, HO, HB.out⟩
        case measure => simp [intOf]; omega
    · have hlt' : ¬ (k : Int) < (l.length : Int) := by omega
      have h1 : A = D := by have := HQ2.out; rw [List.drop_of_length_le (by omega)] at this; simpa [depR] using this
      have H1 := Lib.hid h1; clear h1
      go_wp2
      go_ret
      exact ⟨_, rfl, by rw [← H1.out]; exact own_intAt HO.out, HB.out⟩
set_option maxRecDepth 100000 in
set_option maxHeartbeats 16000000 in
theorem deep_any (pa ia : Option Addr) (pc ic : Nat) (P : List Int) (sl : Int) (l : List Ins) (w : World) (hI : CellsAt w (.slice ia l.length ic) l.length (insLs l)) (hM : l.length ≤ 4096) (hv : l.all (insS sl (l.length : Int)) = true) :
    Calls Tryz.prog 54 #[.agg #[.slice pa P.length pc, .int .i64 sl, .slice ia l.length ic]] w fun e w' => e = .returned (.bool (deepB l (depR 0 l))) ∧ Below w.heap.size w w' := by
  obtain ⟨D, hD⟩ : ∃ R, depR 0 l = R := ⟨_, rfl⟩
  rw [hD]
  have hDl : D.length = l.length := by rw [← hD]; exact depR_length 0 l
  have hle := depR_le l 0 0 (by omega) (by omega)
  rw [hD] at hle
  obtain ⟨V, hV⟩ : ∃ V, deepB l D = V := ⟨_, rfl⟩
  rw [hV]
  have HV := Lib.hid hV; have HD := Lib.hid hD; have HDl := Lib.hid hDl; have HLE := Lib.hid hle; have HIA := Lib.hid hI; have HINS := Lib.hid hv; clear hV hD hDl hle hI hv
  obtain ⟨v0, hW0, hb0, hc0⟩ := boxes1 w #[.slice pa P.length pc, .int .i64 sl, .slice ia l.length ic] 25
  have HW := Lib.hid hW0; have HB := Lib.hid hb0; have HC := Lib.hid hc0; clear hW0 hb0 hc0
  go_enter Tryz.func54, Tryz.ntmps54
  go_upto_region 1 with (fail)
  rw [HW.out]
  clear HW
  obtain ⟨c0, c1, c2⟩ := HC.out.c3
  go_wp2_with fail
  refine (RDepths_any pa ia pc ic P sl l _ (HIA.out.below HB.out) hM).mono ?_
  rw [HD.out]
  rintro er w1 ⟨v3, rfl, hcd, hb1⟩
  clear c0 c1 c2
  have HB := Lib.hid (btrans HB.out HB.out.size hb1); have HC := Lib.hid (HC.out.call hb1); obtain ⟨da, dc, rfl, -⟩ := id hcd; have HDC := Lib.hid hcd; clear hb1 hcd
  obtain ⟨c0, c1, c2⟩ := HC.out.c3
  have hDlen := HDl.out
  go_wp2
  go_loopw [4] (fun i wr => ∃ k : Nat, k ≤ D.length ∧ i = .int .i64 k ∧ Hid (((l.zip D).take k).all (fun p => okP p && jokS D p.1) = true) ∧ Hid (Bx w.heap.size #[.slice pa P.length pc, .int .i64 sl, .slice ia l.length ic] 25 wr) ∧ Hid (CellsAt wr (.slice da D.length dc) D.length (intsL D)) ∧ Below w.heap.size w wr) (fun i _ => D.length - (intOf i).toNat)
  case atStart => exact ⟨0, Nat.zero_le _, rfl, Lib.hid rfl, HC, HDC, HB.out⟩
  case round =>
    clear c0 c1 c2 HB HC HDC
    obtain ⟨k, hk, rfl, HQ, HC, HDC, hB⟩ := hrel
    have HB := Lib.hid hB; clear hB
    obtain ⟨c0, c1, c2⟩ := HC.out.c3
    by_cases hltD : k < D.length
    · have hlt' : (k : Int) < (D.length : Int) := by omega
      have hlt : k < l.length := by omega
      have hlt2 : (k : Int) < (l.length : Int) := by omega
      have hw1 : IntKind.i64.wrap ((k : Int) + 1) = (k : Int) + 1 := by rw [IntKind.wrap_i64]; omega
      have hDL := Lib.hid hDlen; clear hDlen
      have HZA := Lib.hid (zip_at hlt HDl.out)
      obtain ⟨ba, oa, rfl, p0, p1, p2, p3, p4⟩ := ins_cells (HIA.out.below HB.out) hlt
      obtain ⟨⟨op, a, b, n, s⟩, hxe⟩ : ∃ x, l[k] = x := ⟨_, rfl⟩
      rw [hxe] at p0 p1 p2 p3 p4
      simp only at p0 p1 p2 p3 p4
      have HXE := Lib.hid hxe; clear hxe
      obtain ⟨tk, htk⟩ : ∃ t, takeI ⟨op, a, b, n, s⟩ = t := ⟨_, rfl⟩
      obtain ⟨pt, hpt⟩ : ∃ t, putI ⟨op, a, b, n, s⟩ = t := ⟨_, rfl⟩
      obtain ⟨lv, hlv⟩ : ∃ t, leaI ⟨op, a, b, n, s⟩ = t := ⟨_, rfl⟩
      have htr := takeI_rng ⟨op, a, b, n, s⟩
      have hpr := putI_rng ⟨op, a, b, n, s⟩
      rw [htk] at htr
      rw [hpt] at hpr
      obtain ⟨ht0, ht1⟩ := htr
      obtain ⟨hp0, hp1⟩ := hpr
      have HTK := Lib.hid htk; have HPT := Lib.hid hpt; have HLV := Lib.hid hlv; clear htk hpt hlv
      obtain ⟨bd, od, hde, d0⟩ := int_cells HDC.out hltD
      cases hde
      have hdr := HLE.out _ (List.getElem_mem hltD)
      obtain ⟨d, hd⟩ : ∃ t, D[k] = t := ⟨_, rfl⟩
      rw [hd] at d0 hdr
      have HDK := Lib.hid hd; clear hd
      obtain ⟨hd1, hd2⟩ := hdr
      have hal := (Below.refl wr.heap.size wr).alloc (Nat.le_refl _) (.cells #[.int .i64 op, .int .i64 a, .int .i64 b, .int .i64 n, .string (bs s)] 39)
      have HX := Lib.hid (Bx.new wr #[.int .i64 op, .int .i64 a, .int .i64 b, .int .i64 n, .string (bs s)] 39); have HB := Lib.hid (btrans HB.out HB.out.size hal); have HC := Lib.hid (HC.out.call hal); have HDC := Lib.hid (HDC.out.below hal); have D0 := Lib.hid (cell1_below d0 hal); clear hal
      go_upto_region 6 with (fail)
      clear p0 p1 p2 p3 p4 c0 c1 c2 d0
      generalize hW : wr.alloc (.cells #[.int .i64 op, .int .i64 a, .int .i64 b, .int .i64 n, .string (bs s)] 39) = v1 at HX HB HC HDC D0 ⊢
      clear hW
      have hw2 : IntKind.i64.wrap (d - tk) = d - tk := by rw [IntKind.wrap_i64]; omega
      obtain ⟨d2, hd2e⟩ : ∃ d2, d - tk + pt = d2 := ⟨_, rfl⟩
      have hw3 : IntKind.i64.wrap (d - tk + pt) = d2 := by rw [IntKind.wrap_i64]; omega
      have HBE := Lib.hid (show behI d ⟨op, a, b, n, s⟩ = d2 by unfold behI; rw [HTK.out, HPT.out]; omega)
      clear hd2e hd1 hd2
      have hs0 : Bx wr.heap.size #[.int .i64 op, .int .i64 a, .int .i64 b, .int .i64 n, .string (bs s)] 39 v1.drew ∧ v1.drew.cell? ⟨bd, od + k, none⟩ = some (.int .i64 d) := ⟨HX.out, D0.out⟩
      have HS0 := Lib.hid hs0; clear hs0
      go_wp2_with fail
      refine wp_region_held_drew (S := (fun w' => Bx wr.heap.size #[.int .i64 op, .int .i64 a, .int .i64 b, .int .i64 n, .string (bs s)] 39 w' ∧ w'.cell? ⟨bd, od + k, none⟩ = some (.int .i64 d))) (by kernel_rfl) ?_ (fun hHeld => ?_)
      · exact HS0.out
      refine takeH (i := 0) (v := ?vv15) 20 rfl rfl (by kernel_rfl) (by kernel_rfl) (by kernel_rfl) (fun _ _ _ h => h) (Or.inl ⟨by kernel_rfl, ?yy15⟩) (by assumption) ?_
      case yy15 => intro w hSw; (try dsimp only at hSw); go_simp; (try with_reducible rfl)
      simp only [List.setIfInBounds_toArray, List.set_cons_zero, List.set_cons_succ]
      refine takeH (i := 1) (v := ?vv16) 21 rfl rfl (by kernel_rfl) (by kernel_rfl) (by kernel_rfl) (fun _ _ _ h => h) (Or.inl ⟨by kernel_rfl, ?yy16⟩) (by assumption) ?_
      case yy16 => intro w hSw; (try dsimp only at hSw); go_simp; (try with_reducible rfl)
      simp only [List.setIfInBounds_toArray, List.set_cons_zero, List.set_cons_succ]
      refine takeH (i := 2) (v := ?vv17) 22 rfl rfl (by kernel_rfl) (by kernel_rfl) (by kernel_rfl) (fun _ _ _ h => h) (Or.inl ⟨by kernel_rfl, ?yy17⟩) (by assumption) ?_
      case yy17 => intro w hSw; (try dsimp only at hSw); go_simp; (try with_reducible rfl)
      simp only [List.setIfInBounds_toArray, List.set_cons_zero, List.set_cons_succ]
      refine takeH (i := 3) (v := ?vv18) 23 rfl rfl (by kernel_rfl) (by kernel_rfl) (by kernel_rfl) (fun _ _ _ h => h) (Or.inl ⟨by kernel_rfl, ?yy18⟩) (by assumption) ?_
      case yy18 =>
        intro wq hSw
        have d0 := hSw.2
        clear hSw
        go_simp
        (try with_reducible rfl)
      simp only [List.setIfInBounds_toArray, List.set_cons_zero, List.set_cons_succ]
      refine takeH (i := 4) (v := ?vv19) 24 rfl rfl (by kernel_rfl) (by kernel_rfl) (by kernel_rfl) (fun _ _ _ h => h) (Or.inl ⟨by kernel_rfl, ?yy19⟩) (by assumption) ?_
      case yy19 =>
        intro wq hSw
        obtain ⟨x0, x1, x2, x3, x4⟩ := hSw.1.c5
        clear hSw
        go_simp
        (try with_reducible rfl)
      simp only [List.setIfInBounds_toArray, List.set_cons_zero, List.set_cons_succ]
      refine takeH (i := 7) (v := ?vv20) 27 rfl rfl (by kernel_rfl) (by kernel_rfl) (by kernel_rfl) (fun _ _ _ h => h) (Or.inl ⟨by kernel_rfl, ?yy20⟩) (by assumption) ?_
      case yy20 =>
        intro wq hSw
        obtain ⟨x0, x1, x2, x3, x4⟩ := hSw.1.c5
        clear hSw
        go_simp
        (try with_reducible rfl)
      simp only [List.setIfInBounds_toArray, List.set_cons_zero, List.set_cons_succ]
      refine wpAnyH_ready (rs := [5]) (by kernel_rfl) (by simp) ?_
      refine (AllReadyH.cons rfl (fun K hK => ?_) AllReadyH.nil)
      go_simp
      (have hcl := Rtakes_any ⟨op, a, b, n, s⟩; simp only [insV] at hcl; refine (hcl _).mono ?_; rw [HTK.out]; clear hcl; rintro er u1 ⟨rfl, hb1⟩)
      (try go_wp2_with fail)
      refine hK.out _ _ ?_ (fun hHeld => ?_)
      · exact ⟨hHeld.1.call hb1, cell1_below hHeld.2 hb1⟩
      clear hK K
      (try simp only [Act.put, List.setIfInBounds_toArray, List.set_cons_zero, List.set_cons_succ])
      refine takeH (i := 6) (v := ?vv21) 26 rfl rfl (by kernel_rfl) (by kernel_rfl) (by kernel_rfl) (fun _ _ _ h => h) (Or.inl ⟨by kernel_rfl, ?yy21⟩) (by assumption) ?_
      case yy21 => intro w hSw; (try dsimp only at hSw); go_simp; (try with_reducible rfl)
      simp only [List.setIfInBounds_toArray, List.set_cons_zero, List.set_cons_succ]
      refine wpAnyH_ready (rs := [8]) (by kernel_rfl) (by simp) ?_
      refine (AllReadyH.cons rfl (fun K hK => ?_) AllReadyH.nil)
      go_simp
      (have hcl := Rputs_any ⟨op, a, b, n, s⟩; simp only [insV] at hcl; refine (hcl _).mono ?_; rw [HPT.out]; clear hcl; rintro er u2 ⟨rfl, hb2⟩)
      (try go_wp2_with fail)
      refine hK.out _ _ ?_ (fun hHeld => ?_)
      · exact ⟨hHeld.1.call hb2, cell1_below hHeld.2 hb2⟩
      clear hK K
      (try simp only [Act.put, List.setIfInBounds_toArray, List.set_cons_zero, List.set_cons_succ])
      refine takeH (i := 9) (v := ?vv22) 29 rfl rfl (by kernel_rfl) (by kernel_rfl) (by kernel_rfl) (fun _ _ _ h => h) (Or.inl ⟨by kernel_rfl, ?yy22⟩) (by assumption) ?_
      case yy22 => intro w hSw; (try dsimp only at hSw); go_simp; (try with_reducible rfl)
      simp only [List.setIfInBounds_toArray, List.set_cons_zero, List.set_cons_succ]
      refine takeH (i := 10) (v := ?vv23) 6 rfl rfl (by kernel_rfl) (by kernel_rfl) (by kernel_rfl) (fun _ _ _ h => h) (Or.inl ⟨by kernel_rfl, ?yy23⟩) (by assumption) ?_
      case yy23 => intro w hSw; (try dsimp only at hSw); go_simp; (try with_reducible rfl)
      simp only [List.setIfInBounds_toArray, List.set_cons_zero, List.set_cons_succ]
      refine wpAnyH_done (by kernel_rfl) ?_ _
      have hb0 : Below v1.heap.size v1 v1.drew := (Below.refl v1.heap.size v1).drew
      have hb3 := btrans (btrans hb0 hb0.size hb1) (btrans hb0 hb0.size hb1).size hb2
      have HX := Lib.hid (HX.out.call hb3); have HC := Lib.hid (HC.out.call hb3); have HB := Lib.hid (btrans HB.out HB.out.size hb3); have HDC := Lib.hid (HDC.out.below hb3); have D0 := Lib.hid (cell1_below D0.out hb3); clear hb0 hb1 hb2 hb3 HS0 hHeld
      have hs0 : Bx wr.heap.size #[.int .i64 op, .int .i64 a, .int .i64 b, .int .i64 n, .string (bs s)] 39 u2.drew ∧ u2.drew.cell? ⟨bd, od + k, none⟩ = some (.int .i64 d) := ⟨HX.out, D0.out⟩
      have HS0 := Lib.hid hs0; clear hs0
      by_cases h1 : d < tk
      · skip
        go_wp2_with fail
        refine wp_region_held_drew (S := (fun w' => Bx wr.heap.size #[.int .i64 op, .int .i64 a, .int .i64 b, .int .i64 n, .string (bs s)] 39 w' ∧ w'.cell? ⟨bd, od + k, none⟩ = some (.int .i64 d))) (by kernel_rfl) ?_ (fun hHeld => ?_)
        · exact HS0.out
        refine takeH (i := 0) (v := ?vv24) 30 rfl rfl (by kernel_rfl) (by kernel_rfl) (by kernel_rfl) (fun _ _ _ h => h) (Or.inl ⟨by kernel_rfl, ?yy24⟩) (by assumption) ?_
        case yy24 => intro w hSw; (try dsimp only at hSw); go_simp; (try with_reducible rfl)
        simp only [List.setIfInBounds_toArray, List.set_cons_zero, List.set_cons_succ]
        refine takeH (i := 1) (v := ?vv25) 31 rfl rfl (by kernel_rfl) (by kernel_rfl) (by kernel_rfl) (fun _ _ _ h => h) (Or.inl ⟨by kernel_rfl, ?yy25⟩) (by assumption) ?_
        case yy25 => intro w hSw; (try dsimp only at hSw); go_simp; (try with_reducible rfl)
        simp only [List.setIfInBounds_toArray, List.set_cons_zero, List.set_cons_succ]
        refine takeH (i := 2) (v := ?vv26) 32 rfl rfl (by kernel_rfl) (by kernel_rfl) (by kernel_rfl) (fun _ _ _ h => h) (Or.inl ⟨by kernel_rfl, ?yy26⟩) (by assumption) ?_
        case yy26 => intro w hSw; (try dsimp only at hSw); go_simp; (try with_reducible rfl)
        simp only [List.setIfInBounds_toArray, List.set_cons_zero, List.set_cons_succ]
        refine takeH (i := 3) (v := ?vv27) 33 rfl rfl (by kernel_rfl) (by kernel_rfl) (by kernel_rfl) (fun _ _ _ h => h) (Or.inl ⟨by kernel_rfl, ?yy27⟩) (by assumption) ?_
        case yy27 =>
          intro wq hSw
          have d0 := hSw.2
          clear hSw
          go_simp
          (try with_reducible rfl)
        simp only [List.setIfInBounds_toArray, List.set_cons_zero, List.set_cons_succ]
        refine takeH (i := 4) (v := ?vv28) 34 rfl rfl (by kernel_rfl) (by kernel_rfl) (by kernel_rfl) (fun _ _ _ h => h) (Or.inl ⟨by kernel_rfl, ?yy28⟩) (by assumption) ?_
        case yy28 =>
          intro wq hSw
          obtain ⟨x0, x1, x2, x3, x4⟩ := hSw.1.c5
          clear hSw
          go_simp
          (try with_reducible rfl)
        simp only [List.setIfInBounds_toArray, List.set_cons_zero, List.set_cons_succ]
        refine wpAnyH_ready (rs := [5]) (by kernel_rfl) (by simp) ?_
        refine (AllReadyH.cons rfl (fun K hK => ?_) AllReadyH.nil)
        go_simp
        (have hcl := Rtakes_any ⟨op, a, b, n, s⟩; simp only [insV] at hcl; refine (hcl _).mono ?_; rw [HTK.out]; clear hcl; rintro er u3 ⟨rfl, hb1⟩)
        (try go_wp2_with fail)
        refine hK.out _ _ ?_ (fun hHeld => ?_)
        · exact ⟨hHeld.1.call hb1, cell1_below hHeld.2 hb1⟩
        clear hK K
        (try simp only [Act.put, List.setIfInBounds_toArray, List.set_cons_zero, List.set_cons_succ])
        refine takeH (i := 6) (v := ?vv29) 36 rfl rfl (by kernel_rfl) (by kernel_rfl) (by kernel_rfl) (fun _ _ _ h => h) (Or.inl ⟨by kernel_rfl, ?yy29⟩) (by assumption) ?_
        case yy29 => intro w hSw; (try dsimp only at hSw); go_simp; (try with_reducible rfl)
        simp only [List.setIfInBounds_toArray, List.set_cons_zero, List.set_cons_succ]
        refine takeH (i := 7) (v := ?vv30) 37 rfl rfl (by kernel_rfl) (by kernel_rfl) (by kernel_rfl) (fun _ _ _ h => h) (Or.inl ⟨by kernel_rfl, ?yy30⟩) (by assumption) ?_
        case yy30 => intro w hSw; (try dsimp only at hSw); go_simp; (try with_reducible rfl)
        simp only [List.setIfInBounds_toArray, List.set_cons_zero, List.set_cons_succ]
        refine takeH (i := 8) (v := undef) 38 rfl rfl (by kernel_rfl) (by kernel_rfl) (by kernel_rfl) (fun _ _ _ h => h) (Or.inr ⟨by kernel_rfl, rfl⟩) (by assumption) ?_
        simp only [List.setIfInBounds_toArray, List.set_cons_zero, List.set_cons_succ]
        refine takeH (i := 9) (v := undef) 39 rfl rfl (by kernel_rfl) (by kernel_rfl) (by kernel_rfl) (fun _ _ _ h => h) (Or.inr ⟨by kernel_rfl, rfl⟩) (by assumption) ?_
        simp only [List.setIfInBounds_toArray, List.set_cons_zero, List.set_cons_succ]
        refine takeH (i := 10) (v := ?vv31) 40 rfl rfl (by kernel_rfl) (by kernel_rfl) (by kernel_rfl) (fun _ _ _ h => h) (Or.inl ⟨by kernel_rfl, ?yy31⟩) (by assumption) ?_
        case yy31 => intro w hSw; (try dsimp only at hSw); go_simp; (try with_reducible rfl)
        simp only [List.setIfInBounds_toArray, List.set_cons_zero, List.set_cons_succ]
        refine wpAnyH_done (by kernel_rfl) ?_ _
        have hb0 : Below u2.heap.size u2 u2.drew := (Below.refl u2.heap.size u2).drew
        have hb3 := btrans hb0 hb0.size hb1
        have HX := Lib.hid (HX.out.call hb3); have HC := Lib.hid (HC.out.call hb3); have HB := Lib.hid (btrans HB.out HB.out.size hb3); have HDC := Lib.hid (HDC.out.below hb3); have D0 := Lib.hid (cell1_below D0.out hb3); clear hb0 hb1 hb3 HS0 hHeld
        have hF : V = false := HV.out.symm.trans (by unfold deepB; exact all_no HZA.out.1 (by rw [HZA.out.2, HXE.out, HDK.out]; exact okp_1 (by rw [HTK.out]; exact h1)))
        have HF := Lib.hid hF; clear hF
        go_wp2
        go_ret
        exact ⟨by rw [HF.out] <;> rfl, HB.out⟩
      have h1d : decide (d < tk) = false := decide_eq_false h1
      by_cases h64 : 64 < d2
      · skip
        go_wp2_with fail
        refine wp_region_held_drew (S := (fun w' => Bx wr.heap.size #[.int .i64 op, .int .i64 a, .int .i64 b, .int .i64 n, .string (bs s)] 39 w' ∧ w'.cell? ⟨bd, od + k, none⟩ = some (.int .i64 d))) (by kernel_rfl) ?_ (fun hHeld => ?_)
        · exact HS0.out
        refine takeH (i := 0) (v := ?vv32) 30 rfl rfl (by kernel_rfl) (by kernel_rfl) (by kernel_rfl) (fun _ _ _ h => h) (Or.inl ⟨by kernel_rfl, ?yy32⟩) (by assumption) ?_
        case yy32 => intro w hSw; (try dsimp only at hSw); go_simp; (try with_reducible rfl)
        simp only [List.setIfInBounds_toArray, List.set_cons_zero, List.set_cons_succ]
        refine takeH (i := 1) (v := ?vv33) 31 rfl rfl (by kernel_rfl) (by kernel_rfl) (by kernel_rfl) (fun _ _ _ h => h) (Or.inl ⟨by kernel_rfl, ?yy33⟩) (by assumption) ?_
        case yy33 => intro w hSw; (try dsimp only at hSw); go_simp; (try with_reducible rfl)
        simp only [List.setIfInBounds_toArray, List.set_cons_zero, List.set_cons_succ]
        refine takeH (i := 2) (v := ?vv34) 32 rfl rfl (by kernel_rfl) (by kernel_rfl) (by kernel_rfl) (fun _ _ _ h => h) (Or.inl ⟨by kernel_rfl, ?yy34⟩) (by assumption) ?_
        case yy34 => intro w hSw; (try dsimp only at hSw); go_simp; (try with_reducible rfl)
        simp only [List.setIfInBounds_toArray, List.set_cons_zero, List.set_cons_succ]
        refine takeH (i := 3) (v := ?vv35) 33 rfl rfl (by kernel_rfl) (by kernel_rfl) (by kernel_rfl) (fun _ _ _ h => h) (Or.inl ⟨by kernel_rfl, ?yy35⟩) (by assumption) ?_
        case yy35 =>
          intro wq hSw
          have d0 := hSw.2
          clear hSw
          go_simp
          (try with_reducible rfl)
        simp only [List.setIfInBounds_toArray, List.set_cons_zero, List.set_cons_succ]
        refine takeH (i := 4) (v := ?vv36) 34 rfl rfl (by kernel_rfl) (by kernel_rfl) (by kernel_rfl) (fun _ _ _ h => h) (Or.inl ⟨by kernel_rfl, ?yy36⟩) (by assumption) ?_
        case yy36 =>
          intro wq hSw
          obtain ⟨x0, x1, x2, x3, x4⟩ := hSw.1.c5
          clear hSw
          go_simp
          (try with_reducible rfl)
        simp only [List.setIfInBounds_toArray, List.set_cons_zero, List.set_cons_succ]
        refine wpAnyH_ready (rs := [5]) (by kernel_rfl) (by simp) ?_
        refine (AllReadyH.cons rfl (fun K hK => ?_) AllReadyH.nil)
        go_simp
        (have hcl := Rtakes_any ⟨op, a, b, n, s⟩; simp only [insV] at hcl; refine (hcl _).mono ?_; rw [HTK.out]; clear hcl; rintro er u3 ⟨rfl, hb1⟩)
        (try go_wp2_with fail)
        refine hK.out _ _ ?_ (fun hHeld => ?_)
        · exact ⟨hHeld.1.call hb1, cell1_below hHeld.2 hb1⟩
        clear hK K
        (try simp only [Act.put, List.setIfInBounds_toArray, List.set_cons_zero, List.set_cons_succ])
        refine takeH (i := 6) (v := ?vv37) 36 rfl rfl (by kernel_rfl) (by kernel_rfl) (by kernel_rfl) (fun _ _ _ h => h) (Or.inl ⟨by kernel_rfl, ?yy37⟩) (by assumption) ?_
        case yy37 => intro w hSw; (try dsimp only at hSw); go_simp; (try with_reducible rfl)
        simp only [List.setIfInBounds_toArray, List.set_cons_zero, List.set_cons_succ]
        refine takeH (i := 7) (v := ?vv38) 37 rfl rfl (by kernel_rfl) (by kernel_rfl) (by kernel_rfl) (fun _ _ _ h => h) (Or.inl ⟨by kernel_rfl, ?yy38⟩) (by assumption) ?_
        case yy38 => intro w hSw; (try dsimp only at hSw); go_simp; (try with_reducible rfl)
        simp only [List.setIfInBounds_toArray, List.set_cons_zero, List.set_cons_succ]
        refine takeH (i := 8) (v := ?vv39) 38 rfl rfl (by kernel_rfl) (by kernel_rfl) (by kernel_rfl) (fun _ _ _ h => h) (Or.inl ⟨by kernel_rfl, ?yy39⟩) (by assumption) ?_
        case yy39 => intro w hSw; (try dsimp only at hSw); go_simp; (try with_reducible rfl)
        simp only [List.setIfInBounds_toArray, List.set_cons_zero, List.set_cons_succ]
        refine takeH (i := 9) (v := ?vv40) 39 rfl rfl (by kernel_rfl) (by kernel_rfl) (by kernel_rfl) (fun _ _ _ h => h) (Or.inl ⟨by kernel_rfl, ?yy40⟩) (by assumption) ?_
        case yy40 => intro w hSw; (try dsimp only at hSw); go_simp; (try with_reducible rfl)
        simp only [List.setIfInBounds_toArray, List.set_cons_zero, List.set_cons_succ]
        refine takeH (i := 10) (v := ?vv41) 40 rfl rfl (by kernel_rfl) (by kernel_rfl) (by kernel_rfl) (fun _ _ _ h => h) (Or.inl ⟨by kernel_rfl, ?yy41⟩) (by assumption) ?_
        case yy41 => intro w hSw; (try dsimp only at hSw); go_simp; (try with_reducible rfl)
        simp only [List.setIfInBounds_toArray, List.set_cons_zero, List.set_cons_succ]
        refine wpAnyH_done (by kernel_rfl) ?_ _
        have hb0 : Below u2.heap.size u2 u2.drew := (Below.refl u2.heap.size u2).drew
        have hb3 := btrans hb0 hb0.size hb1
        have HX := Lib.hid (HX.out.call hb3); have HC := Lib.hid (HC.out.call hb3); have HB := Lib.hid (btrans HB.out HB.out.size hb3); have HDC := Lib.hid (HDC.out.below hb3); have D0 := Lib.hid (cell1_below D0.out hb3); clear hb0 hb1 hb3 HS0 hHeld
        have hF : V = false := HV.out.symm.trans (by unfold deepB; exact all_no HZA.out.1 (by rw [HZA.out.2, HXE.out, HDK.out]; exact okp_2 (badI_true HBE.out (.inl h64))))
        have HF := Lib.hid hF; clear hF
        go_wp2
        go_ret
        exact ⟨by rw [HF.out] <;> rfl, HB.out⟩
      go_wp2_with fail
      refine wp_region_held_drew (S := (fun w' => Bx wr.heap.size #[.int .i64 op, .int .i64 a, .int .i64 b, .int .i64 n, .string (bs s)] 39 w' ∧ w'.cell? ⟨bd, od + k, none⟩ = some (.int .i64 d))) (by kernel_rfl) ?_ (fun hHeld => ?_)
      · exact HS0.out
      refine takeH (i := 0) (v := ?vv42) 30 rfl rfl (by kernel_rfl) (by kernel_rfl) (by kernel_rfl) (fun _ _ _ h => h) (Or.inl ⟨by kernel_rfl, ?yy42⟩) (by assumption) ?_
      case yy42 => intro w hSw; (try dsimp only at hSw); go_simp; (try with_reducible rfl)
      simp only [List.setIfInBounds_toArray, List.set_cons_zero, List.set_cons_succ]
      refine takeH (i := 1) (v := ?vv43) 31 rfl rfl (by kernel_rfl) (by kernel_rfl) (by kernel_rfl) (fun _ _ _ h => h) (Or.inl ⟨by kernel_rfl, ?yy43⟩) (by assumption) ?_
      case yy43 => intro w hSw; (try dsimp only at hSw); go_simp; (try with_reducible rfl)
      simp only [List.setIfInBounds_toArray, List.set_cons_zero, List.set_cons_succ]
      refine takeH (i := 2) (v := ?vv44) 32 rfl rfl (by kernel_rfl) (by kernel_rfl) (by kernel_rfl) (fun _ _ _ h => h) (Or.inl ⟨by kernel_rfl, ?yy44⟩) (by assumption) ?_
      case yy44 => intro w hSw; (try dsimp only at hSw); go_simp; (try with_reducible rfl)
      simp only [List.setIfInBounds_toArray, List.set_cons_zero, List.set_cons_succ]
      refine takeH (i := 3) (v := ?vv45) 33 rfl rfl (by kernel_rfl) (by kernel_rfl) (by kernel_rfl) (fun _ _ _ h => h) (Or.inl ⟨by kernel_rfl, ?yy45⟩) (by assumption) ?_
      case yy45 =>
        intro wq hSw
        have d0 := hSw.2
        clear hSw
        go_simp
        (try with_reducible rfl)
      simp only [List.setIfInBounds_toArray, List.set_cons_zero, List.set_cons_succ]
      refine takeH (i := 4) (v := ?vv46) 34 rfl rfl (by kernel_rfl) (by kernel_rfl) (by kernel_rfl) (fun _ _ _ h => h) (Or.inl ⟨by kernel_rfl, ?yy46⟩) (by assumption) ?_
      case yy46 =>
        intro wq hSw
        obtain ⟨x0, x1, x2, x3, x4⟩ := hSw.1.c5
        clear hSw
        go_simp
        (try with_reducible rfl)
      simp only [List.setIfInBounds_toArray, List.set_cons_zero, List.set_cons_succ]
      refine wpAnyH_ready (rs := [5]) (by kernel_rfl) (by simp) ?_
      refine (AllReadyH.cons rfl (fun K hK => ?_) AllReadyH.nil)
      go_simp
      (have hcl := Rtakes_any ⟨op, a, b, n, s⟩; simp only [insV] at hcl; refine (hcl _).mono ?_; rw [HTK.out]; clear hcl; rintro er u3 ⟨rfl, hb1⟩)
      (try go_wp2_with fail)
      refine hK.out _ _ ?_ (fun hHeld => ?_)
      · exact ⟨hHeld.1.call hb1, cell1_below hHeld.2 hb1⟩
      clear hK K
      (try simp only [Act.put, List.setIfInBounds_toArray, List.set_cons_zero, List.set_cons_succ])
      refine takeH (i := 6) (v := ?vv47) 36 rfl rfl (by kernel_rfl) (by kernel_rfl) (by kernel_rfl) (fun _ _ _ h => h) (Or.inl ⟨by kernel_rfl, ?yy47⟩) (by assumption) ?_
      case yy47 => intro w hSw; (try dsimp only at hSw); go_simp; (try with_reducible rfl)
      simp only [List.setIfInBounds_toArray, List.set_cons_zero, List.set_cons_succ]
      refine takeH (i := 7) (v := ?vv48) 37 rfl rfl (by kernel_rfl) (by kernel_rfl) (by kernel_rfl) (fun _ _ _ h => h) (Or.inl ⟨by kernel_rfl, ?yy48⟩) (by assumption) ?_
      case yy48 => intro w hSw; (try dsimp only at hSw); go_simp; (try with_reducible rfl)
      simp only [List.setIfInBounds_toArray, List.set_cons_zero, List.set_cons_succ]
      refine takeH (i := 8) (v := ?vv49) 38 rfl rfl (by kernel_rfl) (by kernel_rfl) (by kernel_rfl) (fun _ _ _ h => h) (Or.inl ⟨by kernel_rfl, ?yy49⟩) (by assumption) ?_
      case yy49 => intro w hSw; (try dsimp only at hSw); go_simp; (try with_reducible rfl)
      simp only [List.setIfInBounds_toArray, List.set_cons_zero, List.set_cons_succ]
      refine takeH (i := 9) (v := ?vv50) 39 rfl rfl (by kernel_rfl) (by kernel_rfl) (by kernel_rfl) (fun _ _ _ h => h) (Or.inl ⟨by kernel_rfl, ?yy50⟩) (by assumption) ?_
      case yy50 => intro w hSw; (try dsimp only at hSw); go_simp; (try with_reducible rfl)
      simp only [List.setIfInBounds_toArray, List.set_cons_zero, List.set_cons_succ]
      refine takeH (i := 10) (v := ?vv51) 40 rfl rfl (by kernel_rfl) (by kernel_rfl) (by kernel_rfl) (fun _ _ _ h => h) (Or.inl ⟨by kernel_rfl, ?yy51⟩) (by assumption) ?_
      case yy51 => intro w hSw; (try dsimp only at hSw); go_simp; (try with_reducible rfl)
      simp only [List.setIfInBounds_toArray, List.set_cons_zero, List.set_cons_succ]
      refine wpAnyH_done (by kernel_rfl) ?_ _
      have hb0 : Below u2.heap.size u2 u2.drew := (Below.refl u2.heap.size u2).drew
      have hb3 := btrans hb0 hb0.size hb1
      have HX := Lib.hid (HX.out.call hb3); have HC := Lib.hid (HC.out.call hb3); have HB := Lib.hid (btrans HB.out HB.out.size hb3); have HDC := Lib.hid (HDC.out.below hb3); have D0 := Lib.hid (cell1_below D0.out hb3); clear hb0 hb1 hb3 HS0 hHeld
      obtain ⟨x0, x1, x2, x3, x4⟩ := HX.out.c5
      go_wp2_with fail
      have hcl := Rfinal_any ⟨op, a, b, n, s⟩
      simp only [insV] at hcl
      refine (hcl _).mono ?_
      rw [HLV.out]
      clear hcl
      rintro er w8 ⟨rfl, hb1⟩
      clear x0 x1 x2 x3 x4
      have HX := Lib.hid (HX.out.call hb1); have HC := Lib.hid (HC.out.call hb1); have HB := Lib.hid (btrans HB.out HB.out.size hb1); have HDC := Lib.hid (HDC.out.below hb1); have D0 := Lib.hid (cell1_below D0.out hb1); clear hb1
      obtain ⟨x0, x1, x2, x3, x4⟩ := HX.out.c5
      obtain ⟨bv, hbv⟩ : ∃ t, badI d ⟨op, a, b, n, s⟩ = t := ⟨_, rfl⟩
      have HBV := Lib.hid hbv; clear hbv
      obtain ⟨jm, hjm⟩ : ∃ t, jmpI ⟨op, a, b, n, s⟩ = t := ⟨_, rfl⟩
      have HJM := Lib.hid hjm; clear hjm
      obtain ⟨j7, hj7⟩ : ∃ t, decide (op = 7) = t := ⟨_, rfl⟩
      have t7 : (op == 7) = j7 := by rw [← hj7]; rfl
      have HJ7 := Lib.hid hj7; clear hj7
      by_cases h0 : d2 = 0
      rotate_left
      · have t0 : (d2 != 0) = true := by rw [bne_iff_ne]; exact h0
        cases lv with
        | true =>
          have hF : V = false := HV.out.symm.trans (by unfold deepB; exact all_no HZA.out.1 (by rw [HZA.out.2, HXE.out, HDK.out]; exact okp_2 (badI_true HBE.out (.inr ⟨h0, .inl HLV.out⟩))))
          have HF := Lib.hid hF; clear hF
          go_wp2
          go_ret
          exact ⟨by rw [HF.out] <;> rfl, HB.out⟩
        | false =>
          cases j7 with
          | true =>
            have hF : V = false := HV.out.symm.trans (by unfold deepB; exact all_no HZA.out.1 (by rw [HZA.out.2, HXE.out, HDK.out]; exact okp_2 (badI_true HBE.out (.inr ⟨h0, .inr (by simpa using HJ7.out)⟩))))
            have HF := Lib.hid hF; clear hF
            go_wp2
            go_ret
            exact ⟨by rw [HF.out] <;> rfl, HB.out⟩
          | false =>
            have HNB := Lib.hid (show badI d ⟨op, a, b, n, s⟩ = false from badI_false HBE.out (by omega) (.inr ⟨HLV.out, by have := HJ7.out; simpa using this⟩))
            by_cases h6 : op = 6
            · have t6 : (op == 6) = true := by rw [h6]; rfl
              have HJM := Lib.hid (show jmpI ⟨op, a, b, n, s⟩ = true by unfold jmpI; simp [h6])
              clear h6
              have hat := ins_tgt (List.all_eq_true.1 HINS.out _ (List.getElem_mem hlt)) (by rw [HXE.out]; exact HJM.out)
              rw [HXE.out] at hat
              obtain ⟨ha0, ha1⟩ := hat
              simp only at ha0 ha1
              obtain ⟨j, rfl⟩ : ∃ j : Nat, a = (j : Int) := ⟨a.toNat, by omega⟩
              have hj1 : j < D.length := by rw [hDL.out]; omega
              have hj2 : (j : Int) < (l.length : Int) := ha1
              obtain ⟨be, oe, hae, e0⟩ := int_cells HDC.out hj1
              cases hae
              obtain ⟨dv, hdv⟩ : ∃ t, D[j] = t := ⟨_, rfl⟩
              rw [hdv] at e0
              have HDV := Lib.hid hdv; clear hdv ha0 ha1
              by_cases h0 : dv = 0
              · have tv : (dv != 0) = false := by rw [h0]; rfl
                have H0 := Lib.hid h0; clear h0
                have HN := Lib.hid (all_tk HZA.out.1 HQ.out (by rw [HZA.out.2, HXE.out, HDK.out]; exact okp_ok (by rw [HTK.out]; exact (by omega)) HNB.out ((jok_yes HJM.out rfl hj1 HDV.out).trans (by rw [H0.out]; rfl))))
                go_wp2
                go_roundw
                case rel => exact ⟨k + 1, by omega, by go_num, HN, HC, HDC, HB.out⟩
                case measure => simp [intOf]; omega
              have tv : (dv != 0) = true := by rw [bne_iff_ne]; exact h0
              have H0 := Lib.hid h0; clear h0
              have hF : V = false := HV.out.symm.trans (by unfold deepB; exact all_no HZA.out.1 (by rw [HZA.out.2, HXE.out, HDK.out]; exact okp_3 ((jok_yes HJM.out rfl hj1 HDV.out).trans (decide_eq_false H0.out))))
              have HF := Lib.hid hF; clear hF
              go_wp2
              go_ret
              exact ⟨by rw [HF.out] <;> rfl, HB.out⟩
            have t6 : (op == 6) = false := by rw [beq_eq_false_iff_ne]; exact h6
            have HJN := Lib.hid (show jmpI ⟨op, a, b, n, s⟩ = false by unfold jmpI; rw [show decide ((⟨op, a, b, n, s⟩ : Ins).op = 7) = false from HJ7.out, Bool.or_false]; exact decide_eq_false h6)
            clear h6
            have HN := Lib.hid (all_tk HZA.out.1 HQ.out (by rw [HZA.out.2, HXE.out, HDK.out]; exact okp_ok (by rw [HTK.out]; exact (by omega)) HNB.out (jok_no HJN.out)))
            go_wp2
            go_roundw
            case rel => exact ⟨k + 1, by omega, by go_num, HN, HC, HDC, HB.out⟩
            case measure => simp [intOf]; omega
      have t0 : (d2 != 0) = false := by rw [h0]; rfl
      have H0 := Lib.hid h0; clear h0
      cases lv with
      | true =>
        cases j7 with
        | true =>
          have HNB := Lib.hid (show badI d ⟨op, a, b, n, s⟩ = false from badI_false HBE.out (by omega) (.inl H0.out))
          have HJM := Lib.hid (show jmpI ⟨op, a, b, n, s⟩ = true by unfold jmpI; rw [show decide ((⟨op, a, b, n, s⟩ : Ins).op = 7) = true from HJ7.out, Bool.or_true])
          have hs7 : op = 7 := by simpa using HJ7.out
          have t6 : (op == 6) = false := by rw [hs7]; rfl
          clear hs7
          have hat := ins_tgt (List.all_eq_true.1 HINS.out _ (List.getElem_mem hlt)) (by rw [HXE.out]; exact HJM.out)
          rw [HXE.out] at hat
          obtain ⟨ha0, ha1⟩ := hat
          simp only at ha0 ha1
          obtain ⟨j, rfl⟩ : ∃ j : Nat, a = (j : Int) := ⟨a.toNat, by omega⟩
          have hj1 : j < D.length := by rw [hDL.out]; omega
          have hj2 : (j : Int) < (l.length : Int) := ha1
          obtain ⟨be, oe, hae, e0⟩ := int_cells HDC.out hj1
          cases hae
          obtain ⟨dv, hdv⟩ : ∃ t, D[j] = t := ⟨_, rfl⟩
          rw [hdv] at e0
          have HDV := Lib.hid hdv; clear hdv ha0 ha1
          by_cases h0 : dv = 0
          · have tv : (dv != 0) = false := by rw [h0]; rfl
            have H0 := Lib.hid h0; clear h0
            have HN := Lib.hid (all_tk HZA.out.1 HQ.out (by rw [HZA.out.2, HXE.out, HDK.out]; exact okp_ok (by rw [HTK.out]; exact (by omega)) HNB.out ((jok_yes HJM.out rfl hj1 HDV.out).trans (by rw [H0.out]; rfl))))
            go_wp2
            go_roundw
            case rel => exact ⟨k + 1, by omega, by go_num, HN, HC, HDC, HB.out⟩
            case measure => simp [intOf]; omega
          have tv : (dv != 0) = true := by rw [bne_iff_ne]; exact h0
          have H0 := Lib.hid h0; clear h0
          have hF : V = false := HV.out.symm.trans (by unfold deepB; exact all_no HZA.out.1 (by rw [HZA.out.2, HXE.out, HDK.out]; exact okp_3 ((jok_yes HJM.out rfl hj1 HDV.out).trans (decide_eq_false H0.out))))
          have HF := Lib.hid hF; clear hF
          go_wp2
          go_ret
          exact ⟨by rw [HF.out] <;> rfl, HB.out⟩
        | false =>
          have HNB := Lib.hid (show badI d ⟨op, a, b, n, s⟩ = false from badI_false HBE.out (by omega) (.inl H0.out))
          by_cases h6 : op = 6
          · have t6 : (op == 6) = true := by rw [h6]; rfl
            have HJM := Lib.hid (show jmpI ⟨op, a, b, n, s⟩ = true by unfold jmpI; simp [h6])
            clear h6
            have hat := ins_tgt (List.all_eq_true.1 HINS.out _ (List.getElem_mem hlt)) (by rw [HXE.out]; exact HJM.out)
            rw [HXE.out] at hat
            obtain ⟨ha0, ha1⟩ := hat
            simp only at ha0 ha1
            obtain ⟨j, rfl⟩ : ∃ j : Nat, a = (j : Int) := ⟨a.toNat, by omega⟩
            have hj1 : j < D.length := by rw [hDL.out]; omega
            have hj2 : (j : Int) < (l.length : Int) := ha1
            obtain ⟨be, oe, hae, e0⟩ := int_cells HDC.out hj1
            cases hae
            obtain ⟨dv, hdv⟩ : ∃ t, D[j] = t := ⟨_, rfl⟩
            rw [hdv] at e0
            have HDV := Lib.hid hdv; clear hdv ha0 ha1
            by_cases h0 : dv = 0
            · have tv : (dv != 0) = false := by rw [h0]; rfl
              have H0 := Lib.hid h0; clear h0
              have HN := Lib.hid (all_tk HZA.out.1 HQ.out (by rw [HZA.out.2, HXE.out, HDK.out]; exact okp_ok (by rw [HTK.out]; exact (by omega)) HNB.out ((jok_yes HJM.out rfl hj1 HDV.out).trans (by rw [H0.out]; rfl))))
              go_wp2
              go_roundw
              case rel => exact ⟨k + 1, by omega, by go_num, HN, HC, HDC, HB.out⟩
              case measure => simp [intOf]; omega
            have tv : (dv != 0) = true := by rw [bne_iff_ne]; exact h0
            have H0 := Lib.hid h0; clear h0
            have hF : V = false := HV.out.symm.trans (by unfold deepB; exact all_no HZA.out.1 (by rw [HZA.out.2, HXE.out, HDK.out]; exact okp_3 ((jok_yes HJM.out rfl hj1 HDV.out).trans (decide_eq_false H0.out))))
            have HF := Lib.hid hF; clear hF
            go_wp2
            go_ret
            exact ⟨by rw [HF.out] <;> rfl, HB.out⟩
          have t6 : (op == 6) = false := by rw [beq_eq_false_iff_ne]; exact h6
          have HJN := Lib.hid (show jmpI ⟨op, a, b, n, s⟩ = false by unfold jmpI; rw [show decide ((⟨op, a, b, n, s⟩ : Ins).op = 7) = false from HJ7.out, Bool.or_false]; exact decide_eq_false h6)
          clear h6
          have HN := Lib.hid (all_tk HZA.out.1 HQ.out (by rw [HZA.out.2, HXE.out, HDK.out]; exact okp_ok (by rw [HTK.out]; exact (by omega)) HNB.out (jok_no HJN.out)))
          go_wp2
          go_roundw
          case rel => exact ⟨k + 1, by omega, by go_num, HN, HC, HDC, HB.out⟩
          case measure => simp [intOf]; omega
      | false =>
        cases j7 with
        | true =>
          have HNB := Lib.hid (show badI d ⟨op, a, b, n, s⟩ = false from badI_false HBE.out (by omega) (.inl H0.out))
          have HJM := Lib.hid (show jmpI ⟨op, a, b, n, s⟩ = true by unfold jmpI; rw [show decide ((⟨op, a, b, n, s⟩ : Ins).op = 7) = true from HJ7.out, Bool.or_true])
          have hs7 : op = 7 := by simpa using HJ7.out
          have t6 : (op == 6) = false := by rw [hs7]; rfl
          clear hs7
          have hat := ins_tgt (List.all_eq_true.1 HINS.out _ (List.getElem_mem hlt)) (by rw [HXE.out]; exact HJM.out)
          rw [HXE.out] at hat
          obtain ⟨ha0, ha1⟩ := hat
          simp only at ha0 ha1
          obtain ⟨j, rfl⟩ : ∃ j : Nat, a = (j : Int) := ⟨a.toNat, by omega⟩
          have hj1 : j < D.length := by rw [hDL.out]; omega
          have hj2 : (j : Int) < (l.length : Int) := ha1
          obtain ⟨be, oe, hae, e0⟩ := int_cells HDC.out hj1
          cases hae
          obtain ⟨dv, hdv⟩ : ∃ t, D[j] = t := ⟨_, rfl⟩
          rw [hdv] at e0
          have HDV := Lib.hid hdv; clear hdv ha0 ha1
          by_cases h0 : dv = 0
          · have tv : (dv != 0) = false := by rw [h0]; rfl
            have H0 := Lib.hid h0; clear h0
            have HN := Lib.hid (all_tk HZA.out.1 HQ.out (by rw [HZA.out.2, HXE.out, HDK.out]; exact okp_ok (by rw [HTK.out]; exact (by omega)) HNB.out ((jok_yes HJM.out rfl hj1 HDV.out).trans (by rw [H0.out]; rfl))))
            go_wp2
            go_roundw
            case rel => exact ⟨k + 1, by omega, by go_num, HN, HC, HDC, HB.out⟩
            case measure => simp [intOf]; omega
          have tv : (dv != 0) = true := by rw [bne_iff_ne]; exact h0
          have H0 := Lib.hid h0; clear h0
          have hF : V = false := HV.out.symm.trans (by unfold deepB; exact all_no HZA.out.1 (by rw [HZA.out.2, HXE.out, HDK.out]; exact okp_3 ((jok_yes HJM.out rfl hj1 HDV.out).trans (decide_eq_false H0.out))))
          have HF := Lib.hid hF; clear hF
          go_wp2
          go_ret
          exact ⟨by rw [HF.out] <;> rfl, HB.out⟩
        | false =>
          have HNB := Lib.hid (show badI d ⟨op, a, b, n, s⟩ = false from badI_false HBE.out (by omega) (.inl H0.out))
          by_cases h6 : op = 6
          · have t6 : (op == 6) = true := by rw [h6]; rfl
            have HJM := Lib.hid (show jmpI ⟨op, a, b, n, s⟩ = true by unfold jmpI; simp [h6])
            clear h6
            have hat := ins_tgt (List.all_eq_true.1 HINS.out _ (List.getElem_mem hlt)) (by rw [HXE.out]; exact HJM.out)
            rw [HXE.out] at hat
            obtain ⟨ha0, ha1⟩ := hat
            simp only at ha0 ha1
            obtain ⟨j, rfl⟩ : ∃ j : Nat, a = (j : Int) := ⟨a.toNat, by omega⟩
            have hj1 : j < D.length := by rw [hDL.out]; omega
            have hj2 : (j : Int) < (l.length : Int) := ha1
            obtain ⟨be, oe, hae, e0⟩ := int_cells HDC.out hj1
            cases hae
            obtain ⟨dv, hdv⟩ : ∃ t, D[j] = t := ⟨_, rfl⟩
            rw [hdv] at e0
            have HDV := Lib.hid hdv; clear hdv ha0 ha1
            by_cases h0 : dv = 0
            · have tv : (dv != 0) = false := by rw [h0]; rfl
              have H0 := Lib.hid h0; clear h0
              have HN := Lib.hid (all_tk HZA.out.1 HQ.out (by rw [HZA.out.2, HXE.out, HDK.out]; exact okp_ok (by rw [HTK.out]; exact (by omega)) HNB.out ((jok_yes HJM.out rfl hj1 HDV.out).trans (by rw [H0.out]; rfl))))
              go_wp2
              go_roundw
              case rel => exact ⟨k + 1, by omega, by go_num, HN, HC, HDC, HB.out⟩
              case measure => simp [intOf]; omega
            have tv : (dv != 0) = true := by rw [bne_iff_ne]; exact h0
            have H0 := Lib.hid h0; clear h0
            have hF : V = false := HV.out.symm.trans (by unfold deepB; exact all_no HZA.out.1 (by rw [HZA.out.2, HXE.out, HDK.out]; exact okp_3 ((jok_yes HJM.out rfl hj1 HDV.out).trans (decide_eq_false H0.out))))
            have HF := Lib.hid hF; clear hF
            go_wp2
            go_ret
            exact ⟨by rw [HF.out] <;> rfl, HB.out⟩
          have t6 : (op == 6) = false := by rw [beq_eq_false_iff_ne]; exact h6
          have HJN := Lib.hid (show jmpI ⟨op, a, b, n, s⟩ = false by unfold jmpI; rw [show decide ((⟨op, a, b, n, s⟩ : Ins).op = 7) = false from HJ7.out, Bool.or_false]; exact decide_eq_false h6)
          clear h6
          have HN := Lib.hid (all_tk HZA.out.1 HQ.out (by rw [HZA.out.2, HXE.out, HDK.out]; exact okp_ok (by rw [HTK.out]; exact (by omega)) HNB.out (jok_no HJN.out)))
          go_wp2
          go_roundw
          case rel => exact ⟨k + 1, by omega, by go_num, HN, HC, HDC, HB.out⟩
          case measure => simp [intOf]; omega
    · have hlt' : ¬ (k : Int) < (l.length : Int) := by omega
      have hF : V = true := HV.out.symm.trans (by unfold deepB; exact all_full (by rw [List.length_zip, HDl.out]; omega) HQ.out)
      have HF := Lib.hid hF; clear hF hDlen
      go_wp2
      go_ret
      exact ⟨by rw [HF.out] <;> rfl, HB.out⟩
set_option maxRecDepth 100000 in
set_option maxHeartbeats 16000000 in
theorem RValidate_any (pa ia : Option Addr) (pc ic : Nat) (P : List Int) (sl : Int) (l : List Ins) (w : World) (hP : CellsAt w (.slice pa P.length pc) P.length (intsL P)) (hI : CellsAt w (.slice ia l.length ic) l.length (insLs l)) (hp : P.length ≤ 9223372036854775806) (hs : ∀ x ∈ l, x.s.length ≤ 9223372036854775807) :
    Calls Tryz.prog 25 #[.agg #[.slice pa P.length pc, .int .i64 sl, .slice ia l.length ic]] w fun e w' => e = .returned (.int .i64 (valC ⟨P, sl, l⟩)) ∧ Below w.heap.size w w' := by
  rw [← valR_eq]
  obtain ⟨V, hV⟩ : ∃ V, valR ⟨P, sl, l⟩ = V := ⟨_, rfl⟩
  rw [hV]
  have HV := Lib.hid hV; clear hV
  have HPA := Lib.hid hP; have HIA := Lib.hid hI; have HS := Lib.hid hs; clear hP hI hs
  obtain ⟨v0, hW0, hb0, hc0⟩ := boxes1 w #[.slice pa P.length pc, .int .i64 sl, .slice ia l.length ic] 25
  have HW := Lib.hid hW0; have HB := Lib.hid hb0; have HC := Lib.hid hc0; clear hW0 hb0 hc0
  go_enter Tryz.func25, Tryz.ntmps25
  go_upto_region 1 with (fail)
  rw [HW.out]
  clear HW
  obtain ⟨c0, c1, c2⟩ := HC.out.c3
  by_cases h1 : 4096 < l.length
  · have h1' : (4096 : Int) < (l.length : Int) := by omega
    have hF : V = 2 := HV.out.symm.trans (valR_lim (.inl h1))
    have HF := Lib.hid hF; clear hF
    go_wp2
    go_ret
    exact ⟨by rw [HF.out] <;> rfl, HB.out⟩
  have h1' : ¬ (4096 : Int) < (l.length : Int) := by omega
  by_cases h2 : 64 < sl
  · skip
    have hF : V = 2 := HV.out.symm.trans (valR_lim (.inr h2))
    have HF := Lib.hid hF; clear hF
    go_wp2
    go_ret
    exact ⟨by rw [HF.out] <;> rfl, HB.out⟩
  have HL := Lib.hid (show ¬ (4096 < (⟨P, sl, l⟩ : Cd).l.length ∨ 64 < (⟨P, sl, l⟩ : Cd).sl) from fun h => h.elim h1 h2)
  have hll : l.length ≤ 4096 := by omega
  clear h1
  go_wp2
  go_loopw [4] (fun i wr => ∃ k : Nat, k ≤ P.length ∧ i = .int .i64 k ∧ Hid ((P.take k).all tyB = true) ∧ Hid (Bx w.heap.size #[.slice pa P.length pc, .int .i64 sl, .slice ia l.length ic] 25 wr) ∧ Below w.heap.size w wr) (fun i _ => P.length - (intOf i).toNat)
  case atStart => exact ⟨0, Nat.zero_le _, rfl, Lib.hid rfl, HC, HB.out⟩
  case round =>
    clear c0 c1 c2 HB HC
    obtain ⟨k, hk, rfl, HQ, HC, hB⟩ := hrel
    have HB := Lib.hid hB; clear hB
    obtain ⟨c0, c1, c2⟩ := HC.out.c3
    by_cases hlt : k < P.length
    · have hlt' : (k : Int) < (P.length : Int) := by omega
      have hw1 : IntKind.i64.wrap ((k : Int) + 1) = (k : Int) + 1 := by rw [IntKind.wrap_i64]; omega
      obtain ⟨ba, oa, rfl, p0⟩ := int_cells (HPA.out.below HB.out) hlt
      obtain ⟨t, ht⟩ : ∃ t, P[k] = t := ⟨_, rfl⟩
      rw [ht] at p0
      have HT := Lib.hid ht; clear ht
      by_cases e1 : t = 1
      · have t1 : (t != 1) = false := by rw [e1]; rfl
        have H1 := Lib.hid e1; clear e1
        have HN := Lib.hid (all_tk hlt HQ.out (by rw [HT.out]; exact by rw [H1.out]; rfl))
        go_wp2
        go_roundw
        case rel => exact ⟨k + 1, by omega, by go_num, HN, HC, HB.out⟩
        case measure => simp [intOf]; omega
      have t1 : (t != 1) = true := by rw [bne_iff_ne]; exact e1
      by_cases e2 : t = 2
      · have t2 : (t != 2) = false := by rw [e2]; rfl
        have H1 := Lib.hid e2; clear e1 e2
        have HN := Lib.hid (all_tk hlt HQ.out (by rw [HT.out]; exact by rw [H1.out]; rfl))
        go_wp2
        go_roundw
        case rel => exact ⟨k + 1, by omega, by go_num, HN, HC, HB.out⟩
        case measure => simp [intOf]; omega
      have t2 : (t != 2) = true := by rw [bne_iff_ne]; exact e2
      have HE := Lib.hid (show tyB t = false by unfold tyB; rw [decide_eq_false e1, decide_eq_false e2]; rfl); clear e1 e2
      have hF : V = 23 := HV.out.symm.trans (valR_bad HL.out (.inl (all_no hlt (by rw [HT.out]; exact HE.out))))
      have HF := Lib.hid hF; clear hF
      go_wp2
      go_ret
      exact ⟨by rw [HF.out] <;> rfl, HB.out⟩
    · have hlt' : ¬ (k : Int) < (P.length : Int) := by omega
      have HTY := Lib.hid (all_full hlt HQ.out); clear HQ
      by_cases h3 : sl < (P.length : Int)
      · skip
        have hF : V = 23 := HV.out.symm.trans (valR_bad HL.out (.inr (.inl h3)))
        have HF := Lib.hid hF; clear hF
        go_wp2
        go_ret
        exact ⟨by rw [HF.out] <;> rfl, HB.out⟩
      clear hlt hk
      go_wp2
      go_loopw [5] (fun i wr => ∃ k : Nat, k ≤ l.length ∧ i = .int .i64 k ∧ Hid ((l.take k).all (insS sl (l.length : Int)) = true) ∧ Hid (Bx w.heap.size #[.slice pa P.length pc, .int .i64 sl, .slice ia l.length ic] 25 wr) ∧ Below w.heap.size w wr) (fun i _ => l.length - (intOf i).toNat)
      case atStart => exact ⟨0, Nat.zero_le _, rfl, Lib.hid rfl, HC, HB.out⟩
      case round =>
        clear c0 c1 c2 HB HC
        obtain ⟨k, hk, rfl, HQ, HC, hB⟩ := hrel
        have HB := Lib.hid hB; clear hB
        by_cases hlt : k < l.length
        · have hlt' : (k : Int) < (l.length : Int) := by omega
          have hw1 : IntKind.i64.wrap ((k : Int) + 1) = (k : Int) + 1 := by rw [IntKind.wrap_i64]; omega
          obtain ⟨ba, oa, rfl, p0, p1, p2, p3, p4⟩ := ins_cells (HIA.out.below HB.out) hlt
          have hxs := HS.out _ (List.getElem_mem hlt)
          obtain ⟨⟨op, a, b, n, s⟩, hxe⟩ : ∃ x, l[k] = x := ⟨_, rfl⟩
          rw [hxe] at p0 p1 p2 p3 p4 hxs
          simp only at p0 p1 p2 p3 p4 hxs
          have HXE := Lib.hid hxe; clear hxe
          obtain ⟨iv, hiv⟩ : ∃ t, insS sl (l.length : Int) ⟨op, a, b, n, s⟩ = t := ⟨_, rfl⟩
          have HIV := Lib.hid hiv; clear hiv
          have hs0 : Bx w.heap.size #[.slice pa P.length pc, .int .i64 sl, .slice (some ⟨ba, oa, none⟩) l.length ic] 25 wr.drew ∧ InsAt ba (oa + k * 5) op a b n s wr.drew := ⟨HC.out, p0, p1, p2, p3, p4⟩
          have HS0 := Lib.hid hs0; clear hs0 p0 p1 p2 p3 p4
          go_wp2_with fail
          refine wp_region_held_drew (S := (fun w' => Bx w.heap.size #[.slice pa P.length pc, .int .i64 sl, .slice (some ⟨ba, oa, none⟩) l.length ic] 25 w' ∧ InsAt ba (oa + k * 5) op a b n s w')) (by kernel_rfl) ?_ (fun hHeld => ?_)
          · exact HS0.out
          refine takeH (i := 0) (v := ?vv52) 48 rfl rfl (by kernel_rfl) (by kernel_rfl) (by kernel_rfl) (fun _ _ _ h => h) (Or.inl ⟨by kernel_rfl, ?yy52⟩) (by assumption) ?_
          case yy52 =>
            intro wq hSw
            obtain ⟨c0, c1, c2⟩ := hSw.1.c3
            clear hSw
            go_simp
            (try with_reducible rfl)
          simp only [List.setIfInBounds_toArray, List.set_cons_zero, List.set_cons_succ]
          refine takeH (i := 1) (v := ?vv53) 49 rfl rfl (by kernel_rfl) (by kernel_rfl) (by kernel_rfl) (fun _ _ _ h => h) (Or.inl ⟨by kernel_rfl, ?yy53⟩) (by assumption) ?_
          case yy53 => intro w hSw; (try dsimp only at hSw); go_simp; (try with_reducible rfl)
          simp only [List.setIfInBounds_toArray, List.set_cons_zero, List.set_cons_succ]
          refine takeH (i := 2) (v := ?vv54) 50 rfl rfl (by kernel_rfl) (by kernel_rfl) (by kernel_rfl) (fun _ _ _ h => h) (Or.inl ⟨by kernel_rfl, ?yy54⟩) (by assumption) ?_
          case yy54 =>
            intro wq hSw
            obtain ⟨c0, c1, c2⟩ := hSw.1.c3
            clear hSw
            go_simp
            (try with_reducible rfl)
          simp only [List.setIfInBounds_toArray, List.set_cons_zero, List.set_cons_succ]
          refine takeH (i := 3) (v := ?vv55) 51 rfl rfl (by kernel_rfl) (by kernel_rfl) (by kernel_rfl) (fun _ _ _ h => h) (Or.inl ⟨by kernel_rfl, ?yy55⟩) (by assumption) ?_
          case yy55 => intro w hSw; (try dsimp only at hSw); go_simp; (try with_reducible rfl)
          simp only [List.setIfInBounds_toArray, List.set_cons_zero, List.set_cons_succ]
          refine takeH (i := 4) (v := ?vv56) 52 rfl rfl (by kernel_rfl) (by kernel_rfl) (by kernel_rfl) (fun _ _ _ h => h) (Or.inl ⟨by kernel_rfl, ?yy56⟩) (by assumption) ?_
          case yy56 => intro w hSw; (try dsimp only at hSw); go_simp; (try with_reducible rfl)
          simp only [List.setIfInBounds_toArray, List.set_cons_zero, List.set_cons_succ]
          refine takeH (i := 5) (v := ?vv57) 53 rfl rfl (by kernel_rfl) (by kernel_rfl) (by kernel_rfl) (fun _ _ _ h => h) (Or.inl ⟨by kernel_rfl, ?yy57⟩) (by assumption) ?_
          case yy57 =>
            intro wq hSw
            obtain ⟨z0, z1, z2, z3, z4⟩ := hSw.2
            clear hSw
            go_simp
            (try with_reducible rfl)
          simp only [List.setIfInBounds_toArray, List.set_cons_zero, List.set_cons_succ]
          refine wpAnyH_ready (rs := [6]) (by kernel_rfl) (by simp) ?_
          refine (AllReadyH.cons rfl (fun K hK => ?_) AllReadyH.nil)
          go_simp
          (have hcl := fun W => Rfields_any pa (some ⟨ba, oa, none⟩) P.length pc l.length ic sl ⟨op, a, b, n, s⟩ hxs W; simp only [insV] at hcl; refine (hcl _).mono ?_; rw [HIV.out]; clear hcl; rintro er u1 ⟨rfl, hb1⟩)
          (try go_wp2_with fail)
          refine hK.out _ _ ?_ (fun hHeld => ?_)
          · exact ⟨hHeld.1.call hb1, hHeld.2.below hb1⟩
          clear hK K
          (try simp only [Act.put, List.setIfInBounds_toArray, List.set_cons_zero, List.set_cons_succ])
          refine takeH (i := 7) (v := ?vv58) 55 rfl rfl (by kernel_rfl) (by kernel_rfl) (by kernel_rfl) (fun _ _ _ h => h) (Or.inl ⟨by kernel_rfl, ?yy58⟩) (by assumption) ?_
          case yy58 => intro w hSw; (try dsimp only at hSw); go_simp; (try with_reducible rfl)
          simp only [List.setIfInBounds_toArray, List.set_cons_zero, List.set_cons_succ]
          refine wpAnyH_done (by kernel_rfl) ?_ _
          have hb0 : Below wr.heap.size wr wr.drew := (Below.refl wr.heap.size wr).drew
          have hb3 := btrans hb0 hb0.size hb1
          have HC := Lib.hid (HC.out.call hb3); have HB := Lib.hid (btrans HB.out HB.out.size hb3); clear hb0 hb1 hb3 HS0 hHeld
          cases iv with
          | false =>
            have hF : V = 23 := HV.out.symm.trans (valR_bad HL.out (.inr (.inr (.inl (all_no hlt (by rw [HXE.out]; exact HIV.out))))))
            have HF := Lib.hid hF; clear hF
            go_wp2
            go_ret
            exact ⟨by rw [HF.out] <;> rfl, HB.out⟩
          | true =>
            have HN := Lib.hid (all_tk hlt HQ.out (by rw [HXE.out]; exact HIV.out))
            go_wp2
            go_roundw
            case rel => exact ⟨k + 1, by omega, by go_num, HN, HC, HB.out⟩
            case measure => simp [intOf]; omega
        · have hlt' : ¬ (k : Int) < (l.length : Int) := by omega
          have HINS := Lib.hid (all_full hlt HQ.out); clear HQ hlt hk
          obtain ⟨c0, c1, c2⟩ := HC.out.c3
          obtain ⟨dv, hdv⟩ : ∃ t, deepB l (depR 0 l) = t := ⟨_, rfl⟩
          have HDV := Lib.hid hdv; clear hdv
          go_wp2_with fail
          refine (deep_any pa ia pc ic P sl l _ (HIA.out.below HB.out) hll HINS.out).mono ?_
          rw [HDV.out]
          rintro er w3 ⟨rfl, hb1⟩
          clear c0 c1 c2
          have HB := Lib.hid (btrans HB.out HB.out.size hb1); have HC := Lib.hid (HC.out.call hb1); clear hb1
          obtain ⟨c0, c1, c2⟩ := HC.out.c3
          cases dv with
          | false =>
            have hF : V = 23 := HV.out.symm.trans (valR_bad HL.out (.inr (.inr (.inr (.inl HDV.out)))))
            have HF := Lib.hid hF; clear hF
            go_wp2
            go_ret
            exact ⟨by rw [HF.out] <;> rfl, HB.out⟩
          | true =>
            by_cases h4 : l.length = 0
            · have h4' : ((l.length : Int) == 0) = true := by rw [beq_iff_eq]; omega
              have H4 := Lib.hid h4; clear h4
              have hF : V = 23 := HV.out.symm.trans (valR_bad HL.out (.inr (.inr (.inr (.inr (.inl H4.out))))))
              have HF := Lib.hid hF; clear hF
              go_wp2
              go_ret
              exact ⟨by rw [HF.out] <;> rfl, HB.out⟩
            have h4' : ((l.length : Int) == 0) = false := by rw [beq_eq_false_iff_ne]; omega
            have H4 := Lib.hid h4
            have hkm : l.length - 1 < l.length := by omega
            have hwm : IntKind.i64.wrap ((l.length : Int) - 1) = ((l.length - 1 : Nat) : Int) := by rw [IntKind.wrap_i64]; omega
            obtain ⟨bm, om, hiam, p0, p1, p2, p3, p4⟩ := ins_cells (HIA.out.below HB.out) hkm
            obtain ⟨m, hm⟩ : ∃ m, l.length - 1 = m := ⟨_, rfl⟩
            have hkm2 : m < l.length := by omega
            have hkm3 : (m : Int) < (l.length : Int) := by omega
            obtain ⟨⟨op, a, b, n, s⟩, hxe⟩ : ∃ x, l[m] = x := ⟨_, rfl⟩
            have hla : lastI l = ⟨op, a, b, n, s⟩ := by rw [last_get (k := m) (by omega), ← hxe, List.getD_eq_getElem?_getD, List.getElem?_eq_getElem hkm2]; rfl
            simp only [hm, hxe] at p0 p1 p2 p3 p4 hwm
            have HLA := Lib.hid hla; have HIAM := Lib.hid hiam; clear h4 hla hkm hm hxe hiam
            have hiam2 := HIAM.out
            subst hiam2
            clear HIAM
            obtain ⟨lv, hlv⟩ : ∃ t, leaI ⟨op, a, b, n, s⟩ = t := ⟨_, rfl⟩
            have HLV := Lib.hid hlv; clear hlv
            go_wp2_with fail
            have hcl := Rfinal_any ⟨op, a, b, n, s⟩
            simp only [insV] at hcl
            refine (hcl _).mono ?_
            rw [HLV.out]
            clear hcl
            rintro er w4 ⟨rfl, hb1⟩
            clear p0 p1 p2 p3 p4 c0 c1 c2
            have HB := Lib.hid (btrans HB.out HB.out.size hb1); have HC := Lib.hid (HC.out.call hb1); clear hb1
            cases lv with
            | false =>
              have hF : V = 23 := HV.out.symm.trans (valR_bad HL.out (.inr (.inr (.inr (.inr (.inr (by rw [show lastI (⟨P, sl, l⟩ : Cd).l = _ from HLA.out]; exact HLV.out)))))))
              have HF := Lib.hid hF; clear hF
              go_wp2
              go_ret
              exact ⟨by rw [HF.out] <;> rfl, HB.out⟩
            | true =>
              have hF : V = 0 := HV.out.symm.trans (valR_ok HL.out HTY.out (by show ¬ sl < (P.length : Int); omega) HINS.out HDV.out H4.out (by rw [show lastI (⟨P, sl, l⟩ : Cd).l = _ from HLA.out]; exact HLV.out))
              have HF := Lib.hid hF; clear hF
              go_wp2
              go_ret
              exact ⟨by rw [HF.out] <;> rfl, HB.out⟩
end Go.Proofs.YtkmmdkklpbafdaaGreatDoor
