/- The walks of layer 16's depths. No conditions. -/
import Derived.Test.YtkmmdkklpbafdaaGreatDoorBytD
import Derived.Test.YtkmmdkklpbafdaaGreatDoorBytR
import Derived.Test.YtkmmdkklpbafdaaGreatDoorLexE
namespace Go.Proofs.YtkmmdkklpbafdaaGreatDoor
open Go.RowKit

theorem infoIns : (Tryz.prog.info? 39).map (fun i => (i.zero, i.size, i.bytes)) = some (some (.agg #[.int .i64 0, .int .i64 0, .int .i64 0, .int .i64 0, .string ⟨#[]⟩]), 5, 48) := by kernel_rfl
theorem infoInt : (Tryz.prog.info? 3).map (fun i => (i.zero, i.size, i.bytes)) = some (some (.int .i64 0), 1, 8) := by kernel_rfl
theorem insLs_length (L : List Ins) : (insLs L).length = L.length * 5 := by
  unfold insLs
  induction L with
  | nil => rfl
  | cons x r ih => rw [List.flatMap_cons, List.length_append, ih, List.length_cons]; show 5 + _ = _; omega
theorem insLs_snoc (L : List Ins) (x : Ins) : insLs (L ++ [x]) = insLs L ++ insL x := by unfold insLs; rw [List.flatMap_append]; simp
theorem intsL_length (L : List Int) : (intsL L).length = L.length := List.length_map ..
theorem intsL_snoc (L : List Int) (x : Int) : intsL (L ++ [x]) = intsL L ++ [.int .i64 x] := by unfold intsL; rw [List.map_append]; rfl
theorem insLs_get : ∀ (M : List Ins) (k : Nat) (h : k < M.length), (insLs M)[k * 5]? = some (.int .i64 M[k].op) ∧ (insLs M)[k * 5 + 1]? = some (.int .i64 M[k].a) ∧ (insLs M)[k * 5 + 2]? = some (.int .i64 M[k].b) ∧ (insLs M)[k * 5 + 3]? = some (.int .i64 M[k].n) ∧ (insLs M)[k * 5 + 4]? = some (.string (bs M[k].s))
  | [], k, h => by simp at h
  | x :: r, 0, h => ⟨rfl, rfl, rfl, rfl, rfl⟩
  | x :: r, k + 1, h => by
    have ih := insLs_get r k (by simpa using h)
    have e : ∀ j, (insLs (x :: r))[j + 5]? = (insLs r)[j]? := fun j => by
      show (insL x ++ insLs r)[j + 5]? = _
      rw [List.getElem?_append_right (by show 5 ≤ _; omega)]; rfl
    refine ⟨?_, ?_, ?_, ?_, ?_⟩
    · rw [show (k + 1) * 5 = k * 5 + 5 by omega, e]; exact ih.1
    · rw [show (k + 1) * 5 + 1 = (k * 5 + 1) + 5 by omega, e]; exact ih.2.1
    · rw [show (k + 1) * 5 + 2 = (k * 5 + 2) + 5 by omega, e]; exact ih.2.2.1
    · rw [show (k + 1) * 5 + 3 = (k * 5 + 3) + 5 by omega, e]; exact ih.2.2.2.1
    · rw [show (k + 1) * 5 + 4 = (k * 5 + 4) + 5 by omega, e]; exact ih.2.2.2.2
/-- the cells of the k-th instruction -/
theorem ins_cells {W : World} {ad : Option Addr} {n cap : Nat} {M : List Ins} (h : CellsAt W (.slice ad n cap) n (insLs M)) {k : Nat} (hk : k < M.length) : ∃ b off, ad = some ⟨b, off, none⟩ ∧ W.cell? ⟨b, off + k * 5, none⟩ = some (.int .i64 M[k].op) ∧ W.cell? ⟨b, off + k * 5 + 1, none⟩ = some (.int .i64 M[k].a) ∧ W.cell? ⟨b, off + k * 5 + 2, none⟩ = some (.int .i64 M[k].b) ∧ W.cell? ⟨b, off + k * 5 + 3, none⟩ = some (.int .i64 M[k].n) ∧ W.cell? ⟨b, off + k * 5 + 4, none⟩ = some (.string (bs M[k].s)) := by
  obtain ⟨a, c, hs, hc⟩ := h
  obtain ⟨b, off, ha, hcell⟩ := hc (by intro e; have := insLs_length M; rw [e] at this; simp at this; omega)
  cases hs
  obtain ⟨h1, h2, h3, h4, h5⟩ := insLs_get M k hk
  exact ⟨b, off, ha, hcell _ _ h1, by have := hcell _ _ h2; rwa [← Nat.add_assoc] at this, by have := hcell _ _ h3; rwa [← Nat.add_assoc] at this, by have := hcell _ _ h4; rwa [← Nat.add_assoc] at this, by have := hcell _ _ h5; rwa [← Nat.add_assoc] at this⟩
/-- the cell of the k-th number -/
theorem int_cells {W : World} {ad : Option Addr} {n cap : Nat} {M : List Int} (h : CellsAt W (.slice ad n cap) n (intsL M)) {k : Nat} (hk : k < M.length) : ∃ b off, ad = some ⟨b, off, none⟩ ∧ W.cell? ⟨b, off + k, none⟩ = some (.int .i64 M[k]) := by
  obtain ⟨a, c, hs, hc⟩ := h
  obtain ⟨b, off, ha, hcell⟩ := hc (by intro e; have := intsL_length M; rw [e] at this; simp at this; omega)
  cases hs
  exact ⟨b, off, ha, hcell k _ (by unfold intsL; rw [List.getElem?_map, List.getElem?_eq_getElem hk]; rfl)⟩
theorem cellsAt_int (w : World) (x : Int) : CellsAt (w.alloc (.cells #[.int .i64 x] 3)) (.slice (some ⟨w.heap.size, 0, none⟩) 1 1) 1 [.int .i64 x] := by
  refine ⟨_, _, rfl, fun _ => ⟨_, _, rfl, fun j y hj => ?_⟩⟩
  rw [Nat.zero_add]
  have h := (Bx.new w #[.int .i64 x] 3).cell j
  rw [h]
  rcases j with _ | j
  · exact hj
  · simp at hj
/-- 'v = append(v, y)', v a slice of numbers of the call's own -/
theorem wpList_append_int {w1 : World} {ops : Array Oper} {rest : List Oper} {o : Oper} {a : Act} {Q : Exit → Act → World → Prop} (hgd : o.guard = none) (s x : Operand)
    (ho : o.op = .call { callee := .builtin .append, args := #[s, x], argTypes := #[22, 22] }) (B : Nat) (v : Value) (L : List Int) (y : Int) (hown : w1.ownsRow B 3 1 v L.length (intsL L))
    (hs : a.eval s = v) (hx : a.eval x = .slice (some ⟨w1.heap.size, 0, none⟩) 1 1) (hlen : L.length ≤ 1000000) (W0 : World) (B0 : Nat) (hbel : Below B0 W0 w1) (hB : B ≤ w1.heap.size) (hB0 : B0 ≤ B)
    (h : ∀ v' w', w'.ownsRow B 3 1 v' (L ++ [y]).length (intsL (L ++ [y])) → Below B0 W0 w' → w1.grownBy w' v.ownBlock → wpList Tryz.prog ops Q rest (a.put o.dst v') w') :
    wpList Tryz.prog ops Q (o :: rest) a (w1.alloc (.cells #[.int .i64 y] 3)) := by
  obtain ⟨i0, hi, hz0, hz1, hz2⟩ := info_parts infoInt
  refine wpList_append_any hgd s x 22 ho B 3 i0 (.int .i64 0) 1 8 Tryz.underlying22 hi hz0 hz1 hz2 rfl (by decide) v _ L.length 1 (intsL L) [.int .i64 y] hs (hown.alloc _) hx (cellsAt_int w1 y) rfl
    (by intro u hu; simp only [List.mem_cons, List.not_mem_nil, or_false] at hu; subst hu; rfl) (by unfold maxLen; omega) (by omega) W0 B0 (hbel.alloc (Nat.le_trans hB0 hB) _) (by simp; omega) hB0 ?_
  intro v2 w2 hown2 hb2 hgrow
  refine h v2 w2 (by rw [intsL_snoc, List.length_append]; exact hown2) hb2 ?_
  exact ⟨hgrow.os, hgrow.tape, hgrow.output, Nat.le_trans (by simp) hgrow.size, fun k hk hne => (hgrow.block k (by simp; omega) hne).trans ((World.grownBy_alloc w1 (.cells #[.int .i64 y] 3) none).block k hk (by simp))⟩
theorem own_intAt {W : World} {B : Nat} {v : Value} {L : List Int} (h : W.ownsRow B 3 1 v L.length (intsL L)) : CellsAt W v L.length (intsL L) := by
  rcases own_form h with ⟨rfl, h0⟩ | ⟨g, cap, rfl, hc, _⟩
  · have : L = [] := List.eq_nil_of_length_eq_zero h0
    subst this
    exact ⟨none, 0, rfl, fun hne => absurd rfl hne⟩
  · refine ⟨_, cap, rfl, fun _ => ⟨g, 0, rfl, fun j u hj => ?_⟩⟩
    have h1 := h.cells (g := g) rfl j u hj
    have e : (⟨g, 0, none⟩ : Addr).add j = ⟨g, 0 + j, none⟩ := by unfold Addr.add; split <;> simp_all
    rw [e] at h1; exact h1
theorem own_nil (W : World) (B : Nat) (e : TypeId) (k : Nat) : W.ownsRow B e k (.slice none 0 0) 0 [] := ⟨by simp, .inl ⟨rfl, rfl⟩⟩
/-- a box of another type stands, whatever is appended -/
theorem Bx.grown {b : Nat} {cs : Array Value} {T e : TypeId} {W W' : World} {B k n : Nat} {v : Value} {xs : List Value} (h : Bx b cs T W) (hg : W.grownBy W' v.ownBlock) (ho : W.ownsRow B e k v n xs) (hT : T ≠ e) : Bx b cs T W' := by
  refine (hg.block b h.lt ?_).trans h
  rcases own_form ho with ⟨rfl, _⟩ | ⟨g, cap, rfl, _, _⟩
  · simp [Value.ownBlock]
  · have := own_other ho h hT
    simp [Value.ownBlock]; omega
theorem dep_bad1 {A : List Int} {d : Int} {l : List Ins} {k : Nat} {x : Ins} (hk : k < l.length) (hx : l[k] = x) (h : d < takeI x) : depG A d (l.drop k) = ([], false) := by
  rw [List.drop_eq_getElem_cons hk, hx]; unfold depG; rw [if_pos h]
theorem dep_bad2 {A : List Int} {d : Int} {l : List Ins} {k : Nat} {x : Ins} (hk : k < l.length) (hx : l[k] = x) (h : ¬ d < takeI x) (h2 : badI d x = true) : depG A d (l.drop k) = ([], false) := by
  rw [List.drop_eq_getElem_cons hk, hx]; unfold depG; rw [if_neg h, if_pos h2]
theorem dep_ok {A : List Int} {d : Int} {l : List Ins} {k : Nat} {x : Ins} (hk : k < l.length) (hx : l[k] = x) (h : ¬ d < takeI x) (h2 : badI d x = false) : depG A d (l.drop k) = depG (A ++ [d]) (behI d x) (l.drop (k + 1)) := by
  rw [List.drop_eq_getElem_cons hk, hx]; show (if _ then _ else if _ then _ else _) = _; rw [if_neg h, if_neg (by simp [h2])]
theorem takeI_rng (x : Ins) : -1 ≤ takeI x ∧ takeI x ≤ 2 := by
  unfold takeI
  split
  · omega
  · split
    · omega
    · split
      · unfold arS
        split
        · omega
        · split
          · omega
          · split <;> omega
      · omega
theorem putI_rng (x : Ins) : 0 ≤ putI x ∧ putI x ≤ 1 := by unfold putI; split <;> omega
theorem badI_false {d d2 : Int} {x : Ins} (h : behI d x = d2) (h64 : ¬ 64 < d2) (h0 : d2 = 0 ∨ (leaI x = false ∧ x.op ≠ 7)) : badI d x = false := by
  unfold badI; rw [h, decide_eq_false h64]
  rcases h0 with rfl | ⟨h1, h2⟩
  · simp
  · rw [h1, decide_eq_false h2]; simp
theorem badI_true {d d2 : Int} {x : Ins} (h : behI d x = d2) (h0 : 64 < d2 ∨ (d2 ≠ 0 ∧ (leaI x = true ∨ x.op = 7))) : badI d x = true := by
  unfold badI; rw [h]
  rcases h0 with h1 | ⟨h1, h2 | h2⟩
  · rw [decide_eq_true h1]; rfl
  · rw [h2]; simp [h1]
  · simp [h1, h2]

set_option maxRecDepth 100000 in
set_option maxHeartbeats 16000000 in
theorem depths_any (va : Value) (l : List Ins) (w : World) (hA : CellsAt w va l.length (insLs l)) (hM : l.length ≤ 4096) :
    Calls Tryz.prog 31 #[va] w fun e w' => ∃ v, e = .returned (.tuple #[v, .bool (depG [] 0 l).2]) ∧ CellsAt w' v (depG [] 0 l).1.length (intsL (depG [] 0 l).1) ∧ Below w.heap.size w w' := by
  obtain ⟨aa, ca, rfl, -⟩ := id hA
  obtain ⟨⟨D, g⟩, hR⟩ : ∃ R, depG [] 0 l = R := ⟨_, rfl⟩
  rw [hR]
  have HQ := Lib.hid (show depG [] 0 (l.drop 0) = (D, g) from hR); have HA := Lib.hid hA; clear hR hA
  have HZ := Lib.hid (own_nil w w.heap.size 3 1)
  go_enter Tryz.func31, Tryz.ntmps31
  go_wp2
  go_loopw [4, 5, 10] (fun v s5 i wr => ∃ (k : Nat) (A : List Int) (d : Int), k ≤ l.length ∧ i = .int .i64 k ∧ s5 = .int .i64 d ∧ A.length = k ∧ 0 ≤ d ∧ d ≤ 64 ∧ Hid (depG A d (l.drop k) = (D, g)) ∧ Hid (wr.ownsRow w.heap.size 3 1 v A.length (intsL A)) ∧ Below w.heap.size w wr) (fun _ _ i _ => l.length - (intOf i).toNat)
  case atStart => exact ⟨0, [], 0, Nat.zero_le _, rfl, rfl, rfl, by omega, by omega, HQ, HZ, Below.refl _ _⟩
  case round =>
    obtain ⟨k, A, d, hk, rfl, rfl, hAk, hd0, hd1, HQ2, HO, hB⟩ := hrel
    clear HQ HZ
    have HB := Lib.hid hB; clear hB
    by_cases hlt : k < l.length
    · have hlt' : (k : Int) < (l.length : Int) := by omega
      have hw1 : IntKind.i64.wrap ((k : Int) + 1) = (k : Int) + 1 := by rw [IntKind.wrap_i64]; omega
      obtain ⟨ba, oa, rfl, p0, p1, p2, p3, p4⟩ := ins_cells (HA.out.below HB.out) hlt
      obtain ⟨⟨op, a, b, n, s⟩, hxe⟩ : ∃ x, l[k] = x := ⟨_, rfl⟩
      rw [hxe] at p0 p1 p2 p3 p4
      simp only at p0 p1 p2 p3 p4
      have HXE := Lib.hid hxe; clear hxe
      have hal := (Below.refl wr.heap.size wr).alloc (Nat.le_refl _) (.cells #[.int .i64 op, .int .i64 a, .int .i64 b, .int .i64 n, .string (bs s)] 39)
      have HX := Lib.hid (Bx.new wr #[.int .i64 op, .int .i64 a, .int .i64 b, .int .i64 n, .string (bs s)] 39); have HB := Lib.hid (btrans HB.out HB.out.size hal); have HO := Lib.hid (own_below HO.out hal); clear hal
      go_upto_region 6 with (fail)
      clear p0 p1 p2 p3 p4
      generalize hW : wr.alloc (.cells #[.int .i64 op, .int .i64 a, .int .i64 b, .int .i64 n, .string (bs s)] 39) = v1 at HX HB HO ⊢
      clear hW
      obtain ⟨tk, htk⟩ : ∃ t, takeI ⟨op, a, b, n, s⟩ = t := ⟨_, rfl⟩
      obtain ⟨pt, hpt⟩ : ∃ t, putI ⟨op, a, b, n, s⟩ = t := ⟨_, rfl⟩
      obtain ⟨lv, hlv⟩ : ∃ t, leaI ⟨op, a, b, n, s⟩ = t := ⟨_, rfl⟩
      have htr := takeI_rng ⟨op, a, b, n, s⟩
      have hpr := putI_rng ⟨op, a, b, n, s⟩
      rw [htk] at htr
      rw [hpt] at hpr
      obtain ⟨ht0, ht1⟩ := htr
      obtain ⟨hp0, hp1⟩ := hpr
      have HTK := Lib.hid htk; have HPT := Lib.hid hpt; have HLV := Lib.hid hlv; clear htk hpt hlv
      go_wp2_with (at_builtin; refine wpList_append_int rfl _ _ rfl w.heap.size _ A d HO.out rfl rfl (by omega) w w.heap.size HB.out HB.out.size (Nat.le_refl _) ?_; intro v5 w5 hown5 hb5 hg5; have HX := Lib.hid (HX.out.grown hg5 HO.out (by decide)); have HB := Lib.hid hb5; have HO := Lib.hid hown5; clear hg5 hb5 hown5; have x0 : w5.cell? ⟨wr.heap.size, 0, none⟩ = some (.int .i64 op) := HX.out.cell 0; have x1 : w5.cell? ⟨wr.heap.size, 1, none⟩ = some (.int .i64 a) := HX.out.cell 1; have x2 : w5.cell? ⟨wr.heap.size, 2, none⟩ = some (.int .i64 b) := HX.out.cell 2; have x3 : w5.cell? ⟨wr.heap.size, 3, none⟩ = some (.int .i64 n) := HX.out.cell 3; have x4 : w5.cell? ⟨wr.heap.size, 4, none⟩ = some (.string (bs s)) := HX.out.cell 4)
      have hcl := takes_any ⟨op, a, b, n, s⟩
      simp only [insV] at hcl
      refine (hcl _).mono ?_
      rw [HTK.out]
      clear hcl
      rintro er w6 ⟨rfl, hb1⟩
      clear x0 x1 x2 x3 x4
      have HX := Lib.hid (HX.out.call hb1); have HB := Lib.hid (btrans HB.out HB.out.size hb1); have HO := Lib.hid (own_below HO.out hb1); clear hb1
      by_cases h1 : d < tk
      · skip
        have hT : ([], false) = (D, g) := (dep_bad1 hlt HXE.out (by rw [HTK.out]; exact h1)).symm.trans HQ2.out
        have h1 : D = [] := (congrArg Prod.fst hT).symm
        have h2 : g = false := (congrArg Prod.snd hT).symm
        have H1 := Lib.hid h1; have H2 := Lib.hid h2; clear hT h1 h2
        go_wp2
        go_ret2
        exact ⟨_, by rw [H2.out] <;> rfl, by rw [H1.out]; exact ⟨none, 0, rfl, fun h => absurd rfl h⟩, HB.out⟩
      have HN1 := Lib.hid h1
      have hw2 : IntKind.i64.wrap (pt - tk) = pt - tk := by rw [IntKind.wrap_i64]; omega
      obtain ⟨d2, hd2⟩ : ∃ d2, d + (pt - tk) = d2 := ⟨_, rfl⟩
      have hw3 : IntKind.i64.wrap (d + (pt - tk)) = d2 := by rw [IntKind.wrap_i64]; omega
      have h20 : 0 ≤ d2 := by omega
      have h2x : d2 ≤ 70 := by omega
      have HBE := Lib.hid (show behI d ⟨op, a, b, n, s⟩ = d2 by unfold behI; rw [HTK.out, HPT.out]; exact hd2)
      clear hd2
      have hs0 : Bx wr.heap.size #[.int .i64 op, .int .i64 a, .int .i64 b, .int .i64 n, .string (bs s)] 39 w6.drew := HX.out
      have HS0 := Lib.hid hs0; clear hs0
      go_upto_region 9 with (fail)
      go_wp2_with fail
      refine wp_region_held_drew (S := (fun w' => Bx wr.heap.size #[.int .i64 op, .int .i64 a, .int .i64 b, .int .i64 n, .string (bs s)] 39 w')) (by kernel_rfl) ?_ (fun hHeld => ?_)
      · exact HS0.out
      refine takeH (i := 0) (v := ?vv1) 22 rfl rfl (by kernel_rfl) (by kernel_rfl) (by kernel_rfl) (fun _ _ _ h => h) (Or.inl ⟨by kernel_rfl, ?yy1⟩) (by assumption) ?_
      case yy1 => intro w hSw; (try dsimp only at hSw); go_simp; (try with_reducible rfl)
      simp only [List.setIfInBounds_toArray, List.set_cons_zero, List.set_cons_succ]
      refine takeH (i := 1) (v := ?vv2) 23 rfl rfl (by kernel_rfl) (by kernel_rfl) (by kernel_rfl) (fun _ _ _ h => h) (Or.inl ⟨by kernel_rfl, ?yy2⟩) (by assumption) ?_
      case yy2 =>
        intro wq hSw
        have c0_0 : wq.cell? ⟨wr.heap.size, 0, none⟩ = some (.int .i64 op) := (hSw).cell 0
        have c0_1 : wq.cell? ⟨wr.heap.size, 1, none⟩ = some (.int .i64 a) := (hSw).cell 1
        have c0_2 : wq.cell? ⟨wr.heap.size, 2, none⟩ = some (.int .i64 b) := (hSw).cell 2
        have c0_3 : wq.cell? ⟨wr.heap.size, 3, none⟩ = some (.int .i64 n) := (hSw).cell 3
        have c0_4 : wq.cell? ⟨wr.heap.size, 4, none⟩ = some (.string (bs s)) := (hSw).cell 4
        clear hSw
        go_simp
        (try with_reducible rfl)
      simp only [List.setIfInBounds_toArray, List.set_cons_zero, List.set_cons_succ]
      refine takeH (i := 3) (v := ?vv3) 25 rfl rfl (by kernel_rfl) (by kernel_rfl) (by kernel_rfl) (fun _ _ _ h => h) (Or.inl ⟨by kernel_rfl, ?yy3⟩) (by assumption) ?_
      case yy3 =>
        intro wq hSw
        have c0_0 : wq.cell? ⟨wr.heap.size, 0, none⟩ = some (.int .i64 op) := (hSw).cell 0
        have c0_1 : wq.cell? ⟨wr.heap.size, 1, none⟩ = some (.int .i64 a) := (hSw).cell 1
        have c0_2 : wq.cell? ⟨wr.heap.size, 2, none⟩ = some (.int .i64 b) := (hSw).cell 2
        have c0_3 : wq.cell? ⟨wr.heap.size, 3, none⟩ = some (.int .i64 n) := (hSw).cell 3
        have c0_4 : wq.cell? ⟨wr.heap.size, 4, none⟩ = some (.string (bs s)) := (hSw).cell 4
        clear hSw
        go_simp
        (try with_reducible rfl)
      simp only [List.setIfInBounds_toArray, List.set_cons_zero, List.set_cons_succ]
      refine wpAnyH_ready (rs := [2]) (by kernel_rfl) (by simp) ?_
      refine (AllReadyH.cons rfl (fun K hK => ?_) AllReadyH.nil)
      go_simp
      (have hcl := puts_any ⟨op, a, b, n, s⟩; simp only [insV] at hcl; refine (hcl _).mono ?_; rw [HPT.out]; clear hcl; rintro er u1 ⟨rfl, hb1⟩)
      (try go_wp2_with fail)
      refine hK.out _ _ ?_ (fun hHeld => ?_)
      · exact hHeld.call hb1
      clear hK K
      (try simp only [Act.put, List.setIfInBounds_toArray, List.set_cons_zero, List.set_cons_succ])
      refine wpAnyH_ready (rs := [4]) (by kernel_rfl) (by simp) ?_
      refine (AllReadyH.cons rfl (fun K hK => ?_) AllReadyH.nil)
      go_simp
      (have hcl := takes_any ⟨op, a, b, n, s⟩; simp only [insV] at hcl; refine (hcl _).mono ?_; rw [HTK.out]; clear hcl; rintro er u2 ⟨rfl, hb2⟩)
      (try go_wp2_with fail)
      refine hK.out _ _ ?_ (fun hHeld => ?_)
      · exact hHeld.call hb2
      clear hK K
      (try simp only [Act.put, List.setIfInBounds_toArray, List.set_cons_zero, List.set_cons_succ])
      refine takeH (i := 5) (v := ?vv4) 27 rfl rfl (by kernel_rfl) (by kernel_rfl) (by kernel_rfl) (fun _ _ _ h => h) (Or.inl ⟨by kernel_rfl, ?yy4⟩) (by assumption) ?_
      case yy4 => intro w hSw; (try dsimp only at hSw); go_simp; (try with_reducible rfl)
      simp only [List.setIfInBounds_toArray, List.set_cons_zero, List.set_cons_succ]
      refine takeH (i := 6) (v := ?vv5) 28 rfl rfl (by kernel_rfl) (by kernel_rfl) (by kernel_rfl) (fun _ _ _ h => h) (Or.inl ⟨by kernel_rfl, ?yy5⟩) (by assumption) ?_
      case yy5 => intro w hSw; (try dsimp only at hSw); go_simp; (try with_reducible rfl)
      simp only [List.setIfInBounds_toArray, List.set_cons_zero, List.set_cons_succ]
      refine takeH (i := 7) (v := ?vv6) 5 rfl rfl (by kernel_rfl) (by kernel_rfl) (by kernel_rfl) (fun _ _ _ h => h) (Or.inl ⟨by kernel_rfl, ?yy6⟩) (by assumption) ?_
      case yy6 => intro w hSw; (try dsimp only at hSw); go_simp; (try with_reducible rfl)
      simp only [List.setIfInBounds_toArray, List.set_cons_zero, List.set_cons_succ]
      refine wpAnyH_done (by kernel_rfl) ?_ _
      have hb0 : Below w6.heap.size w6 w6.drew := (Below.refl w6.heap.size w6).drew
      have hb3 := btrans (btrans hb0 hb0.size hb1) (btrans hb0 hb0.size hb1).size hb2
      have HX := Lib.hid (HX.out.call hb3); have HB := Lib.hid (btrans HB.out HB.out.size hb3); have HO := Lib.hid (own_below HO.out hb3); clear hb0 hb1 hb2 hb3 hHeld HS0
      by_cases h64 : 64 < d2
      · skip
        have x0 : u2.cell? ⟨wr.heap.size, 0, none⟩ = some (.int .i64 op) := HX.out.cell 0
        have x1 : u2.cell? ⟨wr.heap.size, 1, none⟩ = some (.int .i64 a) := HX.out.cell 1
        have x2 : u2.cell? ⟨wr.heap.size, 2, none⟩ = some (.int .i64 b) := HX.out.cell 2
        have x3 : u2.cell? ⟨wr.heap.size, 3, none⟩ = some (.int .i64 n) := HX.out.cell 3
        have x4 : u2.cell? ⟨wr.heap.size, 4, none⟩ = some (.string (bs s)) := HX.out.cell 4
        go_upto_region 11 with (fail)
        clear x0 x1 x2 x3 x4
        have hT : ([], false) = (D, g) := (dep_bad2 hlt HXE.out (by rw [HTK.out]; have := HN1.out; omega) (badI_true HBE.out (.inl h64))).symm.trans HQ2.out
        have h1 : D = [] := (congrArg Prod.fst hT).symm
        have h2 : g = false := (congrArg Prod.snd hT).symm
        have H1 := Lib.hid h1; have H2 := Lib.hid h2; clear hT h1 h2
        go_wp2
        go_ret2
        exact ⟨_, by rw [H2.out] <;> rfl, by rw [H1.out]; exact ⟨none, 0, rfl, fun h => absurd rfl h⟩, HB.out⟩
      by_cases h0 : d2 = 0
      · have t0 : (d2 != 0) = false := by rw [h0]; rfl
        have H0 := Lib.hid h0; clear h0
        have HN := Lib.hid ((dep_ok (A := A) hlt HXE.out (by rw [HTK.out]; have := HN1.out; omega) (badI_false HBE.out (by omega) (.inl H0.out))).symm.trans HQ2.out)
        rw [HBE.out] at HN
        go_wp2
        go_roundw
        case rel => exact ⟨k + 1, A ++ [d], d2, by omega, by go_num, rfl, by rw [List.length_append, hAk]; rfl, h20, by omega, HN, HO, HB.out⟩
        case measure => simp [intOf]; omega
      have t0 : (d2 != 0) = true := by rw [bne_iff_ne]; exact h0
      have x0 : u2.cell? ⟨wr.heap.size, 0, none⟩ = some (.int .i64 op) := HX.out.cell 0
      have x1 : u2.cell? ⟨wr.heap.size, 1, none⟩ = some (.int .i64 a) := HX.out.cell 1
      have x2 : u2.cell? ⟨wr.heap.size, 2, none⟩ = some (.int .i64 b) := HX.out.cell 2
      have x3 : u2.cell? ⟨wr.heap.size, 3, none⟩ = some (.int .i64 n) := HX.out.cell 3
      have x4 : u2.cell? ⟨wr.heap.size, 4, none⟩ = some (.string (bs s)) := HX.out.cell 4
      cases lv with
      | true =>
        go_wp2_with fail
        have hcl := leaves_any ⟨op, a, b, n, s⟩
        simp only [insV] at hcl
        refine (hcl _).mono ?_
        rw [HLV.out]
        clear hcl
        rintro er w7 ⟨rfl, hb1⟩
        clear x0 x1 x2 x3 x4
        have HX := Lib.hid (HX.out.call hb1); have HB := Lib.hid (btrans HB.out HB.out.size hb1); have HO := Lib.hid (own_below HO.out hb1); clear hb1
        go_upto_region 11 with (fail)
        have hT : ([], false) = (D, g) := (dep_bad2 hlt HXE.out (by rw [HTK.out]; have := HN1.out; omega) (badI_true HBE.out (.inr ⟨h0, .inl HLV.out⟩))).symm.trans HQ2.out
        have h1 : D = [] := (congrArg Prod.fst hT).symm
        have h2 : g = false := (congrArg Prod.snd hT).symm
        have H1 := Lib.hid h1; have H2 := Lib.hid h2; clear hT h1 h2
        go_wp2
        go_ret2
        exact ⟨_, by rw [H2.out] <;> rfl, by rw [H1.out]; exact ⟨none, 0, rfl, fun h => absurd rfl h⟩, HB.out⟩
      | false =>
        go_wp2_with fail
        have hcl := leaves_any ⟨op, a, b, n, s⟩
        simp only [insV] at hcl
        refine (hcl _).mono ?_
        rw [HLV.out]
        clear hcl
        rintro er w7 ⟨rfl, hb1⟩
        clear x0 x1 x2 x3 x4
        have HX := Lib.hid (HX.out.call hb1); have HB := Lib.hid (btrans HB.out HB.out.size hb1); have HO := Lib.hid (own_below HO.out hb1); clear hb1
        have x0 : w7.cell? ⟨wr.heap.size, 0, none⟩ = some (.int .i64 op) := HX.out.cell 0
        have x1 : w7.cell? ⟨wr.heap.size, 1, none⟩ = some (.int .i64 a) := HX.out.cell 1
        have x2 : w7.cell? ⟨wr.heap.size, 2, none⟩ = some (.int .i64 b) := HX.out.cell 2
        have x3 : w7.cell? ⟨wr.heap.size, 3, none⟩ = some (.int .i64 n) := HX.out.cell 3
        have x4 : w7.cell? ⟨wr.heap.size, 4, none⟩ = some (.string (bs s)) := HX.out.cell 4
        by_cases h7 : op = 7
        · have t7 : (op == 7) = true := by rw [h7]; rfl
          have H7 := Lib.hid h7; clear h7
          go_upto_region 11 with (fail)
          clear x0 x1 x2 x3 x4
          have hT : ([], false) = (D, g) := (dep_bad2 hlt HXE.out (by rw [HTK.out]; have := HN1.out; omega) (badI_true HBE.out (.inr ⟨h0, .inr H7.out⟩))).symm.trans HQ2.out
          have h1 : D = [] := (congrArg Prod.fst hT).symm
          have h2 : g = false := (congrArg Prod.snd hT).symm
          have H1 := Lib.hid h1; have H2 := Lib.hid h2; clear hT h1 h2
          go_wp2
          go_ret2
          exact ⟨_, by rw [H2.out] <;> rfl, by rw [H1.out]; exact ⟨none, 0, rfl, fun h => absurd rfl h⟩, HB.out⟩
        have t7 : (op == 7) = false := by rw [beq_eq_false_iff_ne]; exact h7
        have H7 := Lib.hid h7; clear h7
        go_upto_region 12 with (fail)
        clear x0 x1 x2 x3 x4
        have HN := Lib.hid ((dep_ok (A := A) hlt HXE.out (by rw [HTK.out]; have := HN1.out; omega) (badI_false HBE.out (by omega) (.inr ⟨HLV.out, H7.out⟩))).symm.trans HQ2.out)
        rw [HBE.out] at HN
        go_wp2
        go_roundw
        case rel => exact ⟨k + 1, A ++ [d], d2, by omega, by go_num, rfl, by rw [List.length_append, hAk]; rfl, h20, by omega, HN, HO, HB.out⟩
        case measure => simp [intOf]; omega
    · have hlt' : ¬ (k : Int) < (l.length : Int) := by omega
      have hT : (A, true) = (D, g) := (show depG A d (l.drop k) = (A, true) by rw [List.drop_of_length_le (by omega)]; rfl).symm.trans HQ2.out
      have h1 : D = A := (congrArg Prod.fst hT).symm
      have h2 : g = true := (congrArg Prod.snd hT).symm
      have H1 := Lib.hid h1; have H2 := Lib.hid h2; clear hT h1 h2
      go_wp2
      go_ret2
      exact ⟨_, by rw [H2.out] <;> rfl, by rw [H1.out]; exact own_intAt HO.out, HB.out⟩
end Go.Proofs.YtkmmdkklpbafdaaGreatDoor
