/- The walk of layer 16's numbers. No conditions. -/
import Derived.Test.YtkmmdkklpbafdaaGreatDoorBytL
namespace Go.Proofs.YtkmmdkklpbafdaaGreatDoor
open Go.RowKit

theorem infoI64 : (Tryz.prog.info? 2).map (fun i => (i.zero, i.size, i.bytes)) = some (some (.int .i64 0), 1, 8) := by kernel_rfl
theorem cellsAt_i64 (w : World) (x : Int) : CellsAt (w.alloc (.cells #[.int .i64 x] 2)) (.slice (some ⟨w.heap.size, 0, none⟩) 1 1) 1 [.int .i64 x] := by
  refine ⟨_, _, rfl, fun _ => ⟨_, _, rfl, fun j y hj => ?_⟩⟩
  rw [Nat.zero_add]
  have h := (Bx.new w #[.int .i64 x] 2).cell j
  rw [h]
  rcases j with _ | j
  · exact hj
  · simp at hj
/-- 'v = append(v, y)', v a slice of numbers of the call's own -/
theorem wpList_append_i64 {w1 : World} {ops : Array Oper} {rest : List Oper} {o : Oper} {a : Act} {Q : Exit → Act → World → Prop} (hgd : o.guard = none) (s x : Operand)
    (ho : o.op = .call { callee := .builtin .append, args := #[s, x], argTypes := #[70, 70] }) (B : Nat) (v : Value) (L : List Int) (y : Int) (hown : w1.ownsRow B 2 1 v L.length (intsL L))
    (hs : a.eval s = v) (hx : a.eval x = .slice (some ⟨w1.heap.size, 0, none⟩) 1 1) (hlen : L.length ≤ 1000000) (W0 : World) (B0 : Nat) (hbel : Below B0 W0 w1) (hB : B ≤ w1.heap.size) (hB0 : B0 ≤ B)
    (h : ∀ v' w', w'.ownsRow B 2 1 v' (L ++ [y]).length (intsL (L ++ [y])) → Below B0 W0 w' → w1.grownBy w' v.ownBlock → wpList Tryz.prog ops Q rest (a.put o.dst v') w') :
    wpList Tryz.prog ops Q (o :: rest) a (w1.alloc (.cells #[.int .i64 y] 2)) := by
  obtain ⟨i0, hi, hz0, hz1, hz2⟩ := info_parts infoI64
  refine wpList_append_any hgd s x 70 ho B 2 i0 (.int .i64 0) 1 8 Tryz.underlying70 hi hz0 hz1 hz2 rfl (by decide) v _ L.length 1 (intsL L) [.int .i64 y] hs (hown.alloc _) hx (cellsAt_i64 w1 y) rfl
    (by intro u hu; simp only [List.mem_cons, List.not_mem_nil, or_false] at hu; subst hu; rfl) (by unfold maxLen; omega) (by omega) W0 B0 (hbel.alloc (Nat.le_trans hB0 hB) _) (by simp; omega) hB0 ?_
  intro v2 w2 hown2 hb2 hgrow
  refine h v2 w2 (by rw [intsL_snoc, List.length_append]; exact hown2) hb2 ?_
  exact ⟨hgrow.os, hgrow.tape, hgrow.output, Nat.le_trans (by simp) hgrow.size, fun k hk hne => (hgrow.block k (by simp; omega) hne).trans ((World.grownBy_alloc w1 (.cells #[.int .i64 y] 2) none).block k hk (by simp))⟩
theorem run_idx3_0 (w : World) : (Instr.index 114 (.agg #[.int .i64 1, .int .i64 2, .int .i64 4]) (.int .i64 0)).run Tryz.prog w = .ok (.int .i64 1) w := by
  simp [Instr.index, asIntOf, run_underlying Tryz.underlying114, go_sem]
theorem run_idx3_1 (w : World) : (Instr.index 114 (.agg #[.int .i64 1, .int .i64 2, .int .i64 4]) (.int .i64 1)).run Tryz.prog w = .ok (.int .i64 2) w := by
  simp [Instr.index, asIntOf, run_underlying Tryz.underlying114, go_sem]
theorem run_idx3_2 (w : World) : (Instr.index 114 (.agg #[.int .i64 1, .int .i64 2, .int .i64 4]) (.int .i64 2)).run Tryz.prog w = .ok (.int .i64 4) w := by
  simp [Instr.index, asIntOf, run_underlying Tryz.underlying114, go_sem]
attribute [go_sem] run_idx3_0 run_idx3_1 run_idx3_2
/-- v is a slice of the numbers M -/
def SlI (W : World) (v : Value) (M : List Int) : Prop := ∃ ad cap, v = .slice ad M.length cap ∧ M.length ≤ cap ∧ (M ≠ [] → ∃ b off, ad = some ⟨b, off, none⟩ ∧ ∀ j (_ : j < M.length), W.cell? ⟨b, off + j, none⟩ = some (.int .i64 M[j]))
theorem SlI.below {W W' : World} {v : Value} {M : List Int} (h : SlI W v M) (hb : Below W.heap.size W W') : SlI W' v M := by
  obtain ⟨ad, cap, rfl, hc, hx⟩ := h
  refine ⟨ad, cap, rfl, hc, fun hne => ?_⟩
  obtain ⟨b, off, rfl, hcell⟩ := hx hne
  exact ⟨b, off, rfl, fun j hj => cell1_below (hcell j hj) hb⟩
theorem own_SlI {W : World} {B : Nat} {v : Value} {L : List Int} (h : W.ownsRow B 2 1 v L.length (intsL L)) : SlI W v L := by
  rcases own_form h with ⟨rfl, h0⟩ | ⟨g, cap, rfl, hc, _⟩
  · have : L = [] := List.eq_nil_of_length_eq_zero h0
    subst this
    exact ⟨none, 0, rfl, Nat.le_refl _, fun hne => absurd rfl hne⟩
  · refine ⟨_, cap, rfl, hc, fun _ => ⟨g, 0, rfl, fun j hj => ?_⟩⟩
    have h1 := h.cells (g := g) rfl j (.int .i64 L[j]) (by unfold intsL; rw [List.getElem?_map, List.getElem?_eq_getElem hj]; rfl)
    have e : (⟨g, 0, none⟩ : Addr).add j = ⟨g, 0 + j, none⟩ := by unfold Addr.add; split <;> simp_all
    rw [e] at h1; exact h1
theorem Bx.sets5 {b : Nat} {T : TypeId} {W : World} {z0 z1 z2 z3 z4 : Value} (h : Bx b #[z0, z1, z2, z3, z4] T W) (u0 u1 u2 u3 u4 : Value) :
    Bx b #[u0, u1, u2, u3, u4] T (((((W.setCell ⟨b, 0, none⟩ u0).setCell ⟨b, 1, none⟩ u1).setCell ⟨b, 2, none⟩ u2).setCell ⟨b, 3, none⟩ u3).setCell ⟨b, 4, none⟩ u4) :=
  ((((h.set 0 u0).set 1 u1).set 2 u2).set 3 u3).set 4 u4
theorem below_sets5 {B : Nat} {w W : World} (h : Below B w W) (b : Nat) (hb : B ≤ b) (u0 u1 u2 u3 u4 : Value) :
    Below B w (((((W.setCell ⟨b, 0, none⟩ u0).setCell ⟨b, 1, none⟩ u1).setCell ⟨b, 2, none⟩ u2).setCell ⟨b, 3, none⟩ u3).setCell ⟨b, 4, none⟩ u4) :=
  below_set (below_set (below_set (below_set (below_set h b 0 hb u0) b 1 hb u1) b 2 hb u2) b 3 hb u3) b 4 hb u4
theorem Bx.st5_1 {b : Nat} {T : TypeId} {W : World} {z0 z1 z2 z3 z4 : Value} (h : Bx b #[z0, z1, z2, z3, z4] T W) (u : Value) : Bx b #[z0, u, z2, z3, z4] T (W.setCell ⟨b, 1, none⟩ u) := by have := h.set 1 u; simpa using this
theorem Bx.st5_2 {b : Nat} {T : TypeId} {W : World} {z0 z1 z2 z3 z4 : Value} (h : Bx b #[z0, z1, z2, z3, z4] T W) (u : Value) : Bx b #[z0, z1, u, z3, z4] T (W.setCell ⟨b, 2, none⟩ u) := by have := h.set 2 u; simpa using this
theorem Bx.st5_3 {b : Nat} {T : TypeId} {W : World} {z0 z1 z2 z3 z4 : Value} (h : Bx b #[z0, z1, z2, z3, z4] T W) (u : Value) : Bx b #[z0, z1, z2, u, z4] T (W.setCell ⟨b, 3, none⟩ u) := by have := h.set 3 u; simpa using this
theorem Bx.st5_4 {b : Nat} {T : TypeId} {W : World} {z0 z1 z2 z3 z4 : Value} (h : Bx b #[z0, z1, z2, z3, z4] T W) (u : Value) : Bx b #[z0, z1, z2, z3, u] T (W.setCell ⟨b, 4, none⟩ u) := by have := h.set 4 u; simpa using this
def stg3 (op a b n : Int) (M : List Int) : Option Ins := if M = [] then some ⟨op, a, b, n, []⟩ else none
def stg2 (op a b n : Int) (M : List Int) : Option Ins := if uN op = true then (match M with | [] => none | v :: r => stg3 op a b v r) else stg3 op a b n M
def stg1 (op a b n : Int) (M : List Int) : Option Ins := if uB op = true then (match M with | [] => none | v :: r => stg2 op a v n r) else stg2 op a b n M
def stg0 (op a b n : Int) (M : List Int) : Option Ins := if uA op = true then (match M with | [] => none | v :: r => stg1 op v b n r) else stg1 op a b n M
def stg (op : Int) : Nat → Int → Int → Int → List Int → Option Ins
  | 0 => stg0 op
  | 1 => stg1 op
  | 2 => stg2 op
  | _ => stg3 op
theorem stg_lay {op : Int} (h1 : 1 ≤ op) (h2 : op ≤ 14) (N : List Int) : stg op 0 0 0 0 N = layN op N := by
  show stg0 op 0 0 0 N = layN op N
  rcases grp_any h1 h2 with ⟨_, hA, hB, hN, _⟩ | ⟨_, hA, hB, hN, _⟩ | ⟨_, hA, hB, hN, _⟩ | ⟨_, hA, hB, hN, _⟩ | ⟨_, hA, hB, hN, _⟩ <;>
    (unfold stg0 stg1 stg2 stg3 layN; simp only [hA, hB, hN, if_true, Bool.false_eq_true, if_false]
     rcases N with _ | ⟨x, _ | ⟨y, _ | ⟨z, _ | ⟨t, r⟩⟩⟩⟩ <;> simp)
theorem numG_go {A : List Int} {L : List (List UInt8)} {k : Nat} {w : List UInt8} (hk : k < L.length) (hw : L[k] = w) (h : (parseS w).2 = 0) : numG A (L.drop k) = numG (A ++ [(parseS w).1]) (L.drop (k + 1)) := by rw [List.drop_eq_getElem_cons hk, hw]; show (if _ then _ else _) = _; rw [if_pos h]
theorem numG_no {A : List Int} {L : List (List UInt8)} {k : Nat} {w : List UInt8} (hk : k < L.length) (hw : L[k] = w) (h : (parseS w).2 ≠ 0) : numG A (L.drop k) = ([], false) := by rw [List.drop_eq_getElem_cons hk, hw]; show (if _ then _ else _) = _; rw [if_neg h]
theorem numG_end {A : List Int} {L : List (List UInt8)} {k : Nat} (hk : ¬ k < L.length) : numG A (L.drop k) = (A, true) := by rw [List.drop_of_length_le (by omega)]; rfl
theorem nums_no {op : Int} {L : List (List UInt8)} (h : (numG [] L).2 = false) : numsI op L = none := by unfold numsI; rw [h]; rfl
theorem nums_yes {op : Int} {L : List (List UInt8)} {N : List Int} (h1 : 1 ≤ op) (h2 : op ≤ 14) (h : numG [] L = (N, true)) : numsI op L = stg op 0 0 0 0 N := by rw [stg_lay h1 h2]; unfold numsI; rw [h]; rfl

theorem sl_tail {W : World} {g off : Nat} {mv : Int} {mr : List Int} (h : ∀ j (_ : j < (mv :: mr).length), W.cell? ⟨g, off + j, none⟩ = some (.int .i64 (mv :: mr)[j])) : ∀ j (_ : j < mr.length), W.cell? ⟨g, off + 1 + j, none⟩ = some (.int .i64 mr[j]) := by
  intro j hj
  have := h (j + 1) (by simp; omega)
  rw [show off + 1 + j = off + (j + 1) by omega]
  simpa using this

set_option maxRecDepth 100000 in
set_option maxHeartbeats 32000000 in
theorem numbers_any (op : Int) (h1 : 1 ≤ op) (h2 : op ≤ 14) (lb : Nat) (Ls : List (List UInt8)) (m c : Nat) (w : World) (hm : Ls.length = m) (hX : Bx lb (Ls.map strV).toArray 9 w) (hm2 : m ≤ 100001) (hl : ∀ q ∈ Ls, q.length ≤ 100000) (hB : LaidB w) :
    Calls Tryz.prog 72 #[.agg #[.int .i64 op, .int .i64 0, .int .i64 0, .int .i64 0, .string (bs [])], .slice (some ⟨lb, 0, none⟩) m c] w fun e w' => ∃ X, e = .returned (.tuple #[.agg (insV X), .bool (numsI op Ls).isSome]) ∧ (∀ y, numsI op Ls = some y → X = y) ∧ Below w.heap.size w w' := by
  obtain ⟨R, hR⟩ : ∃ R, numsI op Ls = R := ⟨_, rfl⟩
  rw [hR]
  have HR := Lib.hid hR; have HLX := Lib.hid hX; have HM := Lib.hid hm; have HLL := Lib.hid hl; have HLB := Lib.hid hB; have HG := Lib.hid (grp_any h1 h2); clear hR hX hm hl hB
  have hlt0 := HLX.out.lt
  obtain ⟨v0, hW0, hb0, hx0, hr0⟩ := boxes2 w #[.int .i64 op, .int .i64 0, .int .i64 0, .int .i64 0, .string (bs [])] 39 #[.int .i64 0, .int .i64 0, .int .i64 0, .int .i64 0, .string ⟨#[]⟩] 39
  have HW := Lib.hid hW0; have HB := Lib.hid hb0; have HX := Lib.hid hx0; have HRB := Lib.hid hr0; clear hW0 hb0 hx0 hr0
  go_enter Tryz.func72, Tryz.ntmps72
  go_upto_region 1 with (fail)
  rw [HW.out]
  clear HW
  obtain ⟨x0, x1, x2, x3, x4⟩ := HX.out.c5
  obtain ⟨fv, hfv⟩ : ∃ t, fldS op = t := ⟨_, rfl⟩
  have HFV := Lib.hid hfv; clear hfv
  go_wp2_with fail
  refine (fields_any op h1 h2 _).mono ?_
  rw [HFV.out]
  rintro er w1 ⟨rfl, hb1⟩
  clear x0 x1 x2 x3 x4
  have HX := Lib.hid (HX.out.call hb1); have HRB := Lib.hid (HRB.out.call hb1); have HB := Lib.hid (btrans HB.out HB.out.size hb1); clear hb1
  have HZ := Lib.hid (own_nil w1 w.heap.size 2 1)
  have HQ := Lib.hid (show numG [] (Ls.drop 0) = numG [] Ls from rfl)
  obtain ⟨⟨N, g⟩, hN⟩ : ∃ R, numG [] Ls = R := ⟨_, rfl⟩
  rw [hN] at HQ
  have HN := Lib.hid hN; clear hN
  go_wp2
  go_loopw [7, 19] (fun v i wr => ∃ (k : Nat) (A : List Int), k ≤ m ∧ i = .int .i64 k ∧ A.length = k ∧ Hid (numG A (Ls.drop k) = (N, g)) ∧ Hid (Bx w.heap.size #[.int .i64 op, .int .i64 0, .int .i64 0, .int .i64 0, .string (bs [])] 39 wr) ∧ Hid (Bx (w.heap.size + 1) #[.int .i64 0, .int .i64 0, .int .i64 0, .int .i64 0, .string ⟨#[]⟩] 39 wr) ∧ Hid (wr.ownsRow w.heap.size 2 1 v A.length (intsL A)) ∧ Below w.heap.size w wr) (fun _ i _ => m - (intOf i).toNat)
  case atStart => exact ⟨0, [], Nat.zero_le _, rfl, rfl, HQ, HX, HRB, HZ, HB.out⟩
  case round =>
    clear HB HX HRB HQ HZ
    obtain ⟨k, A, hk, rfl, hAk, HQ, HX, HRB, HO, hB2⟩ := hrel
    have HB := Lib.hid hB2; clear hB2
    by_cases hlt : k < m
    · have hlt' : (k : Int) < (m : Int) := by omega
      have hlt2 : k < Ls.length := by rw [HM.out]; exact hlt
      have hw1 : IntKind.i64.wrap ((k : Int) + 1) = (k : Int) + 1 := by rw [IntKind.wrap_i64]; omega
      have p0 := strs_cell (HLX.out.below HB.out hlt0) hlt2
      obtain ⟨y, hy⟩ : ∃ y, Ls[k] = y := ⟨_, rfl⟩
      have hyl := HLL.out _ (List.getElem_mem hlt2)
      rw [hy] at p0 hyl
      have HY := Lib.hid hy; clear hy
      obtain ⟨⟨pv, pe⟩, hp⟩ : ∃ r, parseS y = r := ⟨_, rfl⟩
      have HP := Lib.hid hp; clear hp
      go_wp2_with fail
      refine (Parse_any y _ (by omega) (HLB.out.below HB.out).1).mono ?_
      rw [HP.out]
      rintro er w2 ⟨rfl, hb1⟩
      clear p0
      have HX := Lib.hid (HX.out.call hb1); have HRB := Lib.hid (HRB.out.call hb1); have HB := Lib.hid (btrans HB.out HB.out.size hb1); have HO := Lib.hid (own_below HO.out hb1); clear hb1
      by_cases e0 : pe = 0
      rotate_left
      · have t0 : (pe != 0) = true := by rw [bne_iff_ne]; exact e0
        have E0 := Lib.hid e0; clear e0
        obtain ⟨x0, x1, x2, x3, x4⟩ := HX.out.c5
        have HF := Lib.hid (show R = none from HR.out.symm.trans (nums_no (by rw [HN.out]; exact (congrArg Prod.snd ((numG_no (A := A) hlt2 HY.out (by rw [HP.out]; exact E0.out)).symm.trans HQ.out)).symm)))
        have r0 : w2.cell? ⟨(w.heap.size + 1), 0, none⟩ = some (.int .i64 0) := HRB.out.cell 0
        have r1 : w2.cell? ⟨(w.heap.size + 1), 1, none⟩ = some (.int .i64 0) := HRB.out.cell 1
        have r2 : w2.cell? ⟨(w.heap.size + 1), 2, none⟩ = some (.int .i64 0) := HRB.out.cell 2
        have r3 : w2.cell? ⟨(w.heap.size + 1), 3, none⟩ = some (.int .i64 0) := HRB.out.cell 3
        have r4 : w2.cell? ⟨(w.heap.size + 1), 4, none⟩ = some (.string ⟨#[]⟩) := HRB.out.cell 4
        have f0 := HRB.out.free 0
        have f1 := HRB.out.free 1
        have f2 := HRB.out.free 2
        have f3 := HRB.out.free 3
        have f4 := HRB.out.free 4
        have HK := Lib.hid (HRB.out.sets5 (.int .i64 op) (.int .i64 0) (.int .i64 0) (.int .i64 0) (.string (bs [])))
        go_wp2
        have k0 := HK.out.cell 0
        have k1 := HK.out.cell 1
        have k2 := HK.out.cell 2
        have k3 := HK.out.cell 3
        have k4 := HK.out.cell 4
        simp only [List.getElem?_toArray, List.getElem?_cons_zero, List.getElem?_cons_succ] at k0 k1 k2 k3 k4
        refine bodyPost_ret (v := .tuple #[.agg #[.int .i64 op, .int .i64 0, .int .i64 0, .int .i64 0, .string (bs [])], .bool false]) (by simp [results, Tryz.results72, go_sem, k0, k1, k2, k3, k4] <;> rfl) rfl ⟨_, show Ending.returned (.tuple #[.agg (insV ⟨op, 0, 0, 0, []⟩), .bool false]) = _ from (by rw [HF.out]; rfl), fun y hy => (by rw [HF.out] at hy; cases hy), below_sets5 HB.out (w.heap.size + 1) (by omega) _ _ _ _ _⟩
      have t0 : (pe != 0) = false := by rw [e0]; rfl
      have HNX := Lib.hid ((numG_go (A := A) hlt2 HY.out (by rw [HP.out]; exact e0)).symm.trans HQ.out)
      rw [HP.out] at HNX
      clear e0
      go_wp2_with (at_builtin; refine wpList_append_i64 rfl _ _ rfl w.heap.size _ A pv HO.out rfl rfl (by omega) w w.heap.size HB.out HB.out.size (Nat.le_refl _) ?_; intro v5 w5 hown5 hb5 hg5; have HX := Lib.hid (HX.out.grown hg5 HO.out (by decide)); have HRB := Lib.hid (HRB.out.grown hg5 HO.out (by decide)); have HB := Lib.hid hb5; have HO := Lib.hid hown5; clear hg5 hb5 hown5)
      go_roundw
      case rel => exact ⟨k + 1, A ++ [pv], by omega, by go_num, by rw [List.length_append, hAk]; rfl, HNX, HX, HRB, HO, HB.out⟩
      case measure => simp [intOf]; omega
    · have hlt' : ¬ (k : Int) < (m : Int) := by omega
      have hT : (A, true) = (N, g) := (numG_end (A := A) (by rw [HM.out]; exact hlt)).symm.trans HQ.out
      have h3 : N = A := (congrArg Prod.fst hT).symm
      have h4 : g = true := (congrArg Prod.snd hT).symm
      subst h3 h4
      clear hT HQ hlt hAk hk
      have HSN := Lib.hid ((nums_yes h1 h2 HN.out).symm.trans HR.out)
      have HSL := Lib.hid (own_SlI HO.out)
      skip
      have hrow : ∀ b off n cap, u7 = .slice (some ⟨b, off, none⟩) n cap → b ≠ w.heap.size ∧ b ≠ w.heap.size + 1 := by
        intro b off n cap e
        rcases own_form HO.out with ⟨e2, _⟩ | ⟨g, c2, e2, _, _⟩
        · rw [e] at e2; cases e2
        · have h5 := HO.out
          rw [e2] at h5
          have h6 := own_other h5 HX.out (by decide)
          have h7 := own_other h5 HRB.out (by decide)
          rw [e] at e2; cases e2; exact ⟨h6, h7⟩
      rcases HG.out with h | h | h | h | h
      · obtain ⟨hV, hA, hB, hN, hS⟩ := h
        have hfv : fv = 4 := HFV.out.symm.trans hV
        subst hfv
        clear hV
        have GA := Lib.hid hA; have GB := Lib.hid hB; have GN := Lib.hid hN; clear hA hB hN hS
        have HRW := Lib.hid hrow; have HXX := Lib.hid (show Bx w.heap.size #[.int .i64 op, .int .i64 0, .int .i64 0, .int .i64 0, .string (bs [])] 39 wr from HX.out)
        clear HX HO hrow
        go_wp2
        go_loopw [7, 37] (fun v i wr => ∃ (j : Nat) (ji a b n : Int) (M : List Int), j ≤ 3 ∧ i = .int .i64 ji ∧ ji = (j : Int) ∧ Hid (stg op j a b n M = R) ∧ Hid (SlI wr v M) ∧ Hid (∀ b off n cap, v = .slice (some ⟨b, off, none⟩) n cap → b ≠ w.heap.size ∧ b ≠ w.heap.size + 1) ∧ Hid (Bx w.heap.size #[.int .i64 op, .int .i64 a, .int .i64 b, .int .i64 n, .string (bs [])] 39 wr) ∧ Hid (Bx (w.heap.size + 1) #[.int .i64 0, .int .i64 0, .int .i64 0, .int .i64 0, .string ⟨#[]⟩] 39 wr) ∧ Below w.heap.size w wr) (fun _ i _ => 3 - (intOf i).toNat)
        case atStart => exact ⟨0, 0, 0, 0, 0, N, Nat.zero_le _, rfl, rfl, HSN, HSL, HRW, HXX, HRB, HB.out⟩
        case round =>
          clear HSN HSL HRW HXX HRB HB
          obtain ⟨j, ji, a, b, n, M, hj3, rfl, hji, HS, HSL, HRW, HX, HRB, hB2⟩ := hrel
          have HB := Lib.hid hB2; clear hB2
          by_cases hlt : j < 3
          · have hj : j = 0 ∨ j = 1 ∨ j = 2 := by omega
            clear hj3 hlt
            rcases hj with rfl | rfl | rfl
            · obtain rfl : ji = 0 := by omega
              clear hji
              have hw1 : IntKind.i64.wrap (0 + 1) = 1 := by rw [IntKind.wrap_i64]; decide
              have HN2 := Lib.hid (show stg op 1 a b n M = R from by rw [← HS.out]; show stg1 op a b n M = stg0 op a b n M; conv => rhs; unfold stg0; rw [if_neg (by rw [GA.out]; simp)])
              obtain ⟨sa, sc, hsv, -⟩ := id HSL.out
              subst hsv
              go_wp2
              skip
              go_roundw
              case rel => exact ⟨1, _, a, b, n, M, by omega, rfl, by rfl, HN2, HSL, HRW, HX, HRB, HB.out⟩
              case measure => simp [intOf]
            · obtain rfl : ji = 1 := by omega
              clear hji
              have hw1 : IntKind.i64.wrap (1 + 1) = 2 := by rw [IntKind.wrap_i64]; decide
              have HN2 := Lib.hid (show stg op 2 a b n M = R from by rw [← HS.out]; show stg2 op a b n M = stg1 op a b n M; conv => rhs; unfold stg1; rw [if_neg (by rw [GB.out]; simp)])
              obtain ⟨sa, sc, hsv, -⟩ := id HSL.out
              subst hsv
              go_wp2
              skip
              go_roundw
              case rel => exact ⟨2, _, a, b, n, M, by omega, rfl, by rfl, HN2, HSL, HRW, HX, HRB, HB.out⟩
              case measure => simp [intOf]
            · obtain rfl : ji = 2 := by omega
              clear hji
              have hw1 : IntKind.i64.wrap (2 + 1) = 3 := by rw [IntKind.wrap_i64]; decide
              obtain ⟨sa, sc, hsv, hsc, hcell⟩ := HSL.out
              subst hsv
              clear HSL
              rcases M with _ | ⟨mv, mr⟩
              · have hl0 : ([] : List Int).length = 0 := rfl
                obtain ⟨x0, x1, x2, x3, x4⟩ := HX.out.c5
                clear hcell hsc hl0
                have HF := Lib.hid (show R = none from HR.out.symm.trans (HR.out.trans (HS.out.symm.trans (by show stg2 op a b n [] = none; unfold stg2; rw [if_pos GN.out]))))
                have r0 : wr.cell? ⟨(w.heap.size + 1), 0, none⟩ = some (.int .i64 0) := HRB.out.cell 0
                have r1 : wr.cell? ⟨(w.heap.size + 1), 1, none⟩ = some (.int .i64 0) := HRB.out.cell 1
                have r2 : wr.cell? ⟨(w.heap.size + 1), 2, none⟩ = some (.int .i64 0) := HRB.out.cell 2
                have r3 : wr.cell? ⟨(w.heap.size + 1), 3, none⟩ = some (.int .i64 0) := HRB.out.cell 3
                have r4 : wr.cell? ⟨(w.heap.size + 1), 4, none⟩ = some (.string ⟨#[]⟩) := HRB.out.cell 4
                have f0 := HRB.out.free 0
                have f1 := HRB.out.free 1
                have f2 := HRB.out.free 2
                have f3 := HRB.out.free 3
                have f4 := HRB.out.free 4
                have HK := Lib.hid (HRB.out.sets5 (.int .i64 op) (.int .i64 a) (.int .i64 b) (.int .i64 n) (.string (bs [])))
                go_wp2
                have k0 := HK.out.cell 0
                have k1 := HK.out.cell 1
                have k2 := HK.out.cell 2
                have k3 := HK.out.cell 3
                have k4 := HK.out.cell 4
                simp only [List.getElem?_toArray, List.getElem?_cons_zero, List.getElem?_cons_succ] at k0 k1 k2 k3 k4
                refine bodyPost_ret (v := .tuple #[.agg #[.int .i64 op, .int .i64 a, .int .i64 b, .int .i64 n, .string (bs [])], .bool false]) (by simp [results, Tryz.results72, go_sem, k0, k1, k2, k3, k4] <;> rfl) rfl ⟨_, show Ending.returned (.tuple #[.agg (insV ⟨op, a, b, n, []⟩), .bool false]) = _ from (by rw [HF.out]; rfl), fun y hy => (by rw [HF.out] at hy; cases hy), below_sets5 HB.out (w.heap.size + 1) (by omega) _ _ _ _ _⟩
              obtain ⟨g, off, rfl, hcl⟩ := hcell (by simp)
              have hg := HRW.out g off _ _ rfl
              have p0 := hcl 0 (by simp)
              rw [Nat.add_zero, List.getElem_cons_zero] at p0
              have HTL := Lib.hid (sl_tail hcl)
              have HS2 := Lib.hid (show stg op 3 a b mv mr = R from by rw [← HS.out]; show stg3 op a b mv mr = stg2 op a b n (mv :: mr); conv => rhs; unfold stg2; rw [if_pos GN.out])
              have hn0 : (((mr.length : Int) + 1) == 0) = false := by rw [beq_eq_false_iff_ne]; omega
              have hn1 : (0 : Int) < (mr.length : Int) + 1 := by omega
              have hn2 : (1 : Int) ≤ (mr.length : Int) + 1 := by omega
              simp only [List.length_cons] at hsc ⊢
              clear hcl hcell HS
              have f3 := HX.out.free 3
              obtain ⟨x0, x1, x2, x3, x4⟩ := HX.out.c5
              go_upto_region 24 with (fail)
              have HX2 := Lib.hid (HX.out.st5_3 (.int .i64 mv)); have HB2 := Lib.hid (below_set HB.out w.heap.size 3 (Nat.le_refl _) (.int .i64 mv)); have HR2 := Lib.hid (HRB.out.other (c := w.heap.size) (i := 3) (by omega) (.int .i64 mv)); have HT2 := Lib.hid (show ∀ j (_ : j < mr.length), (wr.setCell ⟨w.heap.size, 3, none⟩ (.int .i64 mv)).cell? ⟨g, off + 1 + j, none⟩ = some (.int .i64 mr[j]) from fun j hj => cell1_set _ (fun e => hg.1 e.symm) (HTL.out j hj))
              clear x0 x1 x2 x3 x4 f3 p0 HX HB HRB HTL
              generalize hWE : wr.setCell ⟨w.heap.size, 3, none⟩ (.int .i64 mv) = v6 at HX2 HB2 HR2 HT2 ⊢
              clear hWE
              have HG2 := Lib.hid hg; clear hg
              by_cases hc : sc - 1 = 0
              · skip
                go_wp2
                go_roundw
                case rel => exact ⟨3, _, a, b, mv, mr, by omega, rfl, by rfl, HS2, Lib.hid ⟨_, _, rfl, by omega, fun hne => absurd (List.eq_nil_of_length_eq_zero (by omega)) hne⟩, Lib.hid (fun b off n cap e => by cases e; exact HG2.out), HX2, HR2, HB2.out⟩
                case measure => simp [intOf]
              · skip
                go_wp2
                go_roundw
                case rel => exact ⟨3, _, a, b, mv, mr, by omega, rfl, by rfl, HS2, Lib.hid ⟨_, _, rfl, by omega, fun _ => ⟨g, off + 1, rfl, HT2.out⟩⟩, Lib.hid (fun b off n cap e => by cases e; exact HG2.out), HX2, HR2, HB2.out⟩
                case measure => simp [intOf]
          · have hj : j = 3 := by omega
            subst hj
            obtain rfl : ji = 3 := by omega
            clear hj3 hlt hji
            obtain ⟨sa, sc, hsv, hsc, -⟩ := HSL.out
            subst hsv
            rcases M with _ | ⟨mv, mr⟩
            · have HF := Lib.hid (show R = some ⟨op, a, b, n, []⟩ from HS.out.symm.trans (by show stg3 op a b n [] = _; unfold stg3; rw [if_pos rfl]))
              obtain ⟨x0, x1, x2, x3, x4⟩ := HX.out.c5
              have r0 : wr.cell? ⟨(w.heap.size + 1), 0, none⟩ = some (.int .i64 0) := HRB.out.cell 0
              have r1 : wr.cell? ⟨(w.heap.size + 1), 1, none⟩ = some (.int .i64 0) := HRB.out.cell 1
              have r2 : wr.cell? ⟨(w.heap.size + 1), 2, none⟩ = some (.int .i64 0) := HRB.out.cell 2
              have r3 : wr.cell? ⟨(w.heap.size + 1), 3, none⟩ = some (.int .i64 0) := HRB.out.cell 3
              have r4 : wr.cell? ⟨(w.heap.size + 1), 4, none⟩ = some (.string ⟨#[]⟩) := HRB.out.cell 4
              have f0 := HRB.out.free 0
              have f1 := HRB.out.free 1
              have f2 := HRB.out.free 2
              have f3 := HRB.out.free 3
              have f4 := HRB.out.free 4
              have HK := Lib.hid (HRB.out.sets5 (.int .i64 op) (.int .i64 a) (.int .i64 b) (.int .i64 n) (.string (bs [])))
              go_wp2
              have k0 := HK.out.cell 0
              have k1 := HK.out.cell 1
              have k2 := HK.out.cell 2
              have k3 := HK.out.cell 3
              have k4 := HK.out.cell 4
              simp only [List.getElem?_toArray, List.getElem?_cons_zero, List.getElem?_cons_succ] at k0 k1 k2 k3 k4
              refine bodyPost_ret (v := .tuple #[.agg #[.int .i64 op, .int .i64 a, .int .i64 b, .int .i64 n, .string (bs [])], .bool true]) (by simp [results, Tryz.results72, go_sem, k0, k1, k2, k3, k4] <;> rfl) rfl ⟨_, show Ending.returned (.tuple #[.agg (insV ⟨op, a, b, n, []⟩), .bool true]) = _ from (by rw [HF.out]; rfl), fun y hy => (by rw [HF.out] at hy; cases hy; rfl), below_sets5 HB.out (w.heap.size + 1) (by omega) _ _ _ _ _⟩
            · have HF := Lib.hid (show R = none from HS.out.symm.trans (by show stg3 op a b n (mv :: mr) = _; unfold stg3; rw [if_neg (by simp)]))
              have hn0 : (((mr.length : Int) + 1) == 0) = false := by rw [beq_eq_false_iff_ne]; omega
              simp only [List.length_cons]
              obtain ⟨x0, x1, x2, x3, x4⟩ := HX.out.c5
              have r0 : wr.cell? ⟨(w.heap.size + 1), 0, none⟩ = some (.int .i64 0) := HRB.out.cell 0
              have r1 : wr.cell? ⟨(w.heap.size + 1), 1, none⟩ = some (.int .i64 0) := HRB.out.cell 1
              have r2 : wr.cell? ⟨(w.heap.size + 1), 2, none⟩ = some (.int .i64 0) := HRB.out.cell 2
              have r3 : wr.cell? ⟨(w.heap.size + 1), 3, none⟩ = some (.int .i64 0) := HRB.out.cell 3
              have r4 : wr.cell? ⟨(w.heap.size + 1), 4, none⟩ = some (.string ⟨#[]⟩) := HRB.out.cell 4
              have f0 := HRB.out.free 0
              have f1 := HRB.out.free 1
              have f2 := HRB.out.free 2
              have f3 := HRB.out.free 3
              have f4 := HRB.out.free 4
              have HK := Lib.hid (HRB.out.sets5 (.int .i64 op) (.int .i64 a) (.int .i64 b) (.int .i64 n) (.string (bs [])))
              go_wp2
              have k0 := HK.out.cell 0
              have k1 := HK.out.cell 1
              have k2 := HK.out.cell 2
              have k3 := HK.out.cell 3
              have k4 := HK.out.cell 4
              simp only [List.getElem?_toArray, List.getElem?_cons_zero, List.getElem?_cons_succ] at k0 k1 k2 k3 k4
              refine bodyPost_ret (v := .tuple #[.agg #[.int .i64 op, .int .i64 a, .int .i64 b, .int .i64 n, .string (bs [])], .bool false]) (by simp [results, Tryz.results72, go_sem, k0, k1, k2, k3, k4] <;> rfl) rfl ⟨_, show Ending.returned (.tuple #[.agg (insV ⟨op, a, b, n, []⟩), .bool false]) = _ from (by rw [HF.out]; rfl), fun y hy => (by rw [HF.out] at hy; cases hy), below_sets5 HB.out (w.heap.size + 1) (by omega) _ _ _ _ _⟩
      · obtain ⟨hV, hA, hB, hN, hS⟩ := h
        have hfv : fv = 8 := HFV.out.symm.trans hV
        subst hfv
        clear hV
        have GA := Lib.hid hA; have GB := Lib.hid hB; have GN := Lib.hid hN; clear hA hB hN hS
        have HRW := Lib.hid hrow; have HXX := Lib.hid (show Bx w.heap.size #[.int .i64 op, .int .i64 0, .int .i64 0, .int .i64 0, .string (bs [])] 39 wr from HX.out)
        clear HX HO hrow
        go_wp2
        go_loopw [7, 37] (fun v i wr => ∃ (j : Nat) (ji a b n : Int) (M : List Int), j ≤ 3 ∧ i = .int .i64 ji ∧ ji = (j : Int) ∧ Hid (stg op j a b n M = R) ∧ Hid (SlI wr v M) ∧ Hid (∀ b off n cap, v = .slice (some ⟨b, off, none⟩) n cap → b ≠ w.heap.size ∧ b ≠ w.heap.size + 1) ∧ Hid (Bx w.heap.size #[.int .i64 op, .int .i64 a, .int .i64 b, .int .i64 n, .string (bs [])] 39 wr) ∧ Hid (Bx (w.heap.size + 1) #[.int .i64 0, .int .i64 0, .int .i64 0, .int .i64 0, .string ⟨#[]⟩] 39 wr) ∧ Below w.heap.size w wr) (fun _ i _ => 3 - (intOf i).toNat)
        case atStart => exact ⟨0, 0, 0, 0, 0, N, Nat.zero_le _, rfl, rfl, HSN, HSL, HRW, HXX, HRB, HB.out⟩
        case round =>
          clear HSN HSL HRW HXX HRB HB
          obtain ⟨j, ji, a, b, n, M, hj3, rfl, hji, HS, HSL, HRW, HX, HRB, hB2⟩ := hrel
          have HB := Lib.hid hB2; clear hB2
          by_cases hlt : j < 3
          · have hj : j = 0 ∨ j = 1 ∨ j = 2 := by omega
            clear hj3 hlt
            rcases hj with rfl | rfl | rfl
            · obtain rfl : ji = 0 := by omega
              clear hji
              have hw1 : IntKind.i64.wrap (0 + 1) = 1 := by rw [IntKind.wrap_i64]; decide
              have HN2 := Lib.hid (show stg op 1 a b n M = R from by rw [← HS.out]; show stg1 op a b n M = stg0 op a b n M; conv => rhs; unfold stg0; rw [if_neg (by rw [GA.out]; simp)])
              obtain ⟨sa, sc, hsv, -⟩ := id HSL.out
              subst hsv
              go_wp2
              skip
              go_roundw
              case rel => exact ⟨1, _, a, b, n, M, by omega, rfl, by rfl, HN2, HSL, HRW, HX, HRB, HB.out⟩
              case measure => simp [intOf]
            · obtain rfl : ji = 1 := by omega
              clear hji
              have hw1 : IntKind.i64.wrap (1 + 1) = 2 := by rw [IntKind.wrap_i64]; decide
              have HN2 := Lib.hid (show stg op 2 a b n M = R from by rw [← HS.out]; show stg2 op a b n M = stg1 op a b n M; conv => rhs; unfold stg1; rw [if_neg (by rw [GB.out]; simp)])
              obtain ⟨sa, sc, hsv, -⟩ := id HSL.out
              subst hsv
              go_wp2
              skip
              go_roundw
              case rel => exact ⟨2, _, a, b, n, M, by omega, rfl, by rfl, HN2, HSL, HRW, HX, HRB, HB.out⟩
              case measure => simp [intOf]
            · obtain rfl : ji = 2 := by omega
              clear hji
              have hw1 : IntKind.i64.wrap (2 + 1) = 3 := by rw [IntKind.wrap_i64]; decide
              have HN2 := Lib.hid (show stg op 3 a b n M = R from by rw [← HS.out]; show stg3 op a b n M = stg2 op a b n M; conv => rhs; unfold stg2; rw [if_neg (by rw [GN.out]; simp)])
              obtain ⟨sa, sc, hsv, -⟩ := id HSL.out
              subst hsv
              go_wp2
              skip
              go_roundw
              case rel => exact ⟨3, _, a, b, n, M, by omega, rfl, by rfl, HN2, HSL, HRW, HX, HRB, HB.out⟩
              case measure => simp [intOf]
          · have hj : j = 3 := by omega
            subst hj
            obtain rfl : ji = 3 := by omega
            clear hj3 hlt hji
            obtain ⟨sa, sc, hsv, hsc, -⟩ := HSL.out
            subst hsv
            rcases M with _ | ⟨mv, mr⟩
            · have HF := Lib.hid (show R = some ⟨op, a, b, n, []⟩ from HS.out.symm.trans (by show stg3 op a b n [] = _; unfold stg3; rw [if_pos rfl]))
              obtain ⟨x0, x1, x2, x3, x4⟩ := HX.out.c5
              have r0 : wr.cell? ⟨(w.heap.size + 1), 0, none⟩ = some (.int .i64 0) := HRB.out.cell 0
              have r1 : wr.cell? ⟨(w.heap.size + 1), 1, none⟩ = some (.int .i64 0) := HRB.out.cell 1
              have r2 : wr.cell? ⟨(w.heap.size + 1), 2, none⟩ = some (.int .i64 0) := HRB.out.cell 2
              have r3 : wr.cell? ⟨(w.heap.size + 1), 3, none⟩ = some (.int .i64 0) := HRB.out.cell 3
              have r4 : wr.cell? ⟨(w.heap.size + 1), 4, none⟩ = some (.string ⟨#[]⟩) := HRB.out.cell 4
              have f0 := HRB.out.free 0
              have f1 := HRB.out.free 1
              have f2 := HRB.out.free 2
              have f3 := HRB.out.free 3
              have f4 := HRB.out.free 4
              have HK := Lib.hid (HRB.out.sets5 (.int .i64 op) (.int .i64 a) (.int .i64 b) (.int .i64 n) (.string (bs [])))
              go_wp2
              have k0 := HK.out.cell 0
              have k1 := HK.out.cell 1
              have k2 := HK.out.cell 2
              have k3 := HK.out.cell 3
              have k4 := HK.out.cell 4
              simp only [List.getElem?_toArray, List.getElem?_cons_zero, List.getElem?_cons_succ] at k0 k1 k2 k3 k4
              refine bodyPost_ret (v := .tuple #[.agg #[.int .i64 op, .int .i64 a, .int .i64 b, .int .i64 n, .string (bs [])], .bool true]) (by simp [results, Tryz.results72, go_sem, k0, k1, k2, k3, k4] <;> rfl) rfl ⟨_, show Ending.returned (.tuple #[.agg (insV ⟨op, a, b, n, []⟩), .bool true]) = _ from (by rw [HF.out]; rfl), fun y hy => (by rw [HF.out] at hy; cases hy; rfl), below_sets5 HB.out (w.heap.size + 1) (by omega) _ _ _ _ _⟩
            · have HF := Lib.hid (show R = none from HS.out.symm.trans (by show stg3 op a b n (mv :: mr) = _; unfold stg3; rw [if_neg (by simp)]))
              have hn0 : (((mr.length : Int) + 1) == 0) = false := by rw [beq_eq_false_iff_ne]; omega
              simp only [List.length_cons]
              obtain ⟨x0, x1, x2, x3, x4⟩ := HX.out.c5
              have r0 : wr.cell? ⟨(w.heap.size + 1), 0, none⟩ = some (.int .i64 0) := HRB.out.cell 0
              have r1 : wr.cell? ⟨(w.heap.size + 1), 1, none⟩ = some (.int .i64 0) := HRB.out.cell 1
              have r2 : wr.cell? ⟨(w.heap.size + 1), 2, none⟩ = some (.int .i64 0) := HRB.out.cell 2
              have r3 : wr.cell? ⟨(w.heap.size + 1), 3, none⟩ = some (.int .i64 0) := HRB.out.cell 3
              have r4 : wr.cell? ⟨(w.heap.size + 1), 4, none⟩ = some (.string ⟨#[]⟩) := HRB.out.cell 4
              have f0 := HRB.out.free 0
              have f1 := HRB.out.free 1
              have f2 := HRB.out.free 2
              have f3 := HRB.out.free 3
              have f4 := HRB.out.free 4
              have HK := Lib.hid (HRB.out.sets5 (.int .i64 op) (.int .i64 a) (.int .i64 b) (.int .i64 n) (.string (bs [])))
              go_wp2
              have k0 := HK.out.cell 0
              have k1 := HK.out.cell 1
              have k2 := HK.out.cell 2
              have k3 := HK.out.cell 3
              have k4 := HK.out.cell 4
              simp only [List.getElem?_toArray, List.getElem?_cons_zero, List.getElem?_cons_succ] at k0 k1 k2 k3 k4
              refine bodyPost_ret (v := .tuple #[.agg #[.int .i64 op, .int .i64 a, .int .i64 b, .int .i64 n, .string (bs [])], .bool false]) (by simp [results, Tryz.results72, go_sem, k0, k1, k2, k3, k4] <;> rfl) rfl ⟨_, show Ending.returned (.tuple #[.agg (insV ⟨op, a, b, n, []⟩), .bool false]) = _ from (by rw [HF.out]; rfl), fun y hy => (by rw [HF.out] at hy; cases hy), below_sets5 HB.out (w.heap.size + 1) (by omega) _ _ _ _ _⟩
      · obtain ⟨hV, hA, hB, hN, hS⟩ := h
        have hfv : fv = 7 := HFV.out.symm.trans hV
        subst hfv
        clear hV
        have GA := Lib.hid hA; have GB := Lib.hid hB; have GN := Lib.hid hN; clear hA hB hN hS
        have HRW := Lib.hid hrow; have HXX := Lib.hid (show Bx w.heap.size #[.int .i64 op, .int .i64 0, .int .i64 0, .int .i64 0, .string (bs [])] 39 wr from HX.out)
        clear HX HO hrow
        go_wp2
        go_loopw [7, 37] (fun v i wr => ∃ (j : Nat) (ji a b n : Int) (M : List Int), j ≤ 3 ∧ i = .int .i64 ji ∧ ji = (j : Int) ∧ Hid (stg op j a b n M = R) ∧ Hid (SlI wr v M) ∧ Hid (∀ b off n cap, v = .slice (some ⟨b, off, none⟩) n cap → b ≠ w.heap.size ∧ b ≠ w.heap.size + 1) ∧ Hid (Bx w.heap.size #[.int .i64 op, .int .i64 a, .int .i64 b, .int .i64 n, .string (bs [])] 39 wr) ∧ Hid (Bx (w.heap.size + 1) #[.int .i64 0, .int .i64 0, .int .i64 0, .int .i64 0, .string ⟨#[]⟩] 39 wr) ∧ Below w.heap.size w wr) (fun _ i _ => 3 - (intOf i).toNat)
        case atStart => exact ⟨0, 0, 0, 0, 0, N, Nat.zero_le _, rfl, rfl, HSN, HSL, HRW, HXX, HRB, HB.out⟩
        case round =>
          clear HSN HSL HRW HXX HRB HB
          obtain ⟨j, ji, a, b, n, M, hj3, rfl, hji, HS, HSL, HRW, HX, HRB, hB2⟩ := hrel
          have HB := Lib.hid hB2; clear hB2
          by_cases hlt : j < 3
          · have hj : j = 0 ∨ j = 1 ∨ j = 2 := by omega
            clear hj3 hlt
            rcases hj with rfl | rfl | rfl
            · obtain rfl : ji = 0 := by omega
              clear hji
              have hw1 : IntKind.i64.wrap (0 + 1) = 1 := by rw [IntKind.wrap_i64]; decide
              obtain ⟨sa, sc, hsv, hsc, hcell⟩ := HSL.out
              subst hsv
              clear HSL
              rcases M with _ | ⟨mv, mr⟩
              · have hl0 : ([] : List Int).length = 0 := rfl
                obtain ⟨x0, x1, x2, x3, x4⟩ := HX.out.c5
                clear hcell hsc hl0
                have HF := Lib.hid (show R = none from HR.out.symm.trans (HR.out.trans (HS.out.symm.trans (by show stg0 op a b n [] = none; unfold stg0; rw [if_pos GA.out]))))
                have r0 : wr.cell? ⟨(w.heap.size + 1), 0, none⟩ = some (.int .i64 0) := HRB.out.cell 0
                have r1 : wr.cell? ⟨(w.heap.size + 1), 1, none⟩ = some (.int .i64 0) := HRB.out.cell 1
                have r2 : wr.cell? ⟨(w.heap.size + 1), 2, none⟩ = some (.int .i64 0) := HRB.out.cell 2
                have r3 : wr.cell? ⟨(w.heap.size + 1), 3, none⟩ = some (.int .i64 0) := HRB.out.cell 3
                have r4 : wr.cell? ⟨(w.heap.size + 1), 4, none⟩ = some (.string ⟨#[]⟩) := HRB.out.cell 4
                have f0 := HRB.out.free 0
                have f1 := HRB.out.free 1
                have f2 := HRB.out.free 2
                have f3 := HRB.out.free 3
                have f4 := HRB.out.free 4
                have HK := Lib.hid (HRB.out.sets5 (.int .i64 op) (.int .i64 a) (.int .i64 b) (.int .i64 n) (.string (bs [])))
                go_wp2
                have k0 := HK.out.cell 0
                have k1 := HK.out.cell 1
                have k2 := HK.out.cell 2
                have k3 := HK.out.cell 3
                have k4 := HK.out.cell 4
                simp only [List.getElem?_toArray, List.getElem?_cons_zero, List.getElem?_cons_succ] at k0 k1 k2 k3 k4
                refine bodyPost_ret (v := .tuple #[.agg #[.int .i64 op, .int .i64 a, .int .i64 b, .int .i64 n, .string (bs [])], .bool false]) (by simp [results, Tryz.results72, go_sem, k0, k1, k2, k3, k4] <;> rfl) rfl ⟨_, show Ending.returned (.tuple #[.agg (insV ⟨op, a, b, n, []⟩), .bool false]) = _ from (by rw [HF.out]; rfl), fun y hy => (by rw [HF.out] at hy; cases hy), below_sets5 HB.out (w.heap.size + 1) (by omega) _ _ _ _ _⟩
              obtain ⟨g, off, rfl, hcl⟩ := hcell (by simp)
              have hg := HRW.out g off _ _ rfl
              have p0 := hcl 0 (by simp)
              rw [Nat.add_zero, List.getElem_cons_zero] at p0
              have HTL := Lib.hid (sl_tail hcl)
              have HS2 := Lib.hid (show stg op 1 mv b n mr = R from by rw [← HS.out]; show stg1 op mv b n mr = stg0 op a b n (mv :: mr); conv => rhs; unfold stg0; rw [if_pos GA.out])
              have hn0 : (((mr.length : Int) + 1) == 0) = false := by rw [beq_eq_false_iff_ne]; omega
              have hn1 : (0 : Int) < (mr.length : Int) + 1 := by omega
              have hn2 : (1 : Int) ≤ (mr.length : Int) + 1 := by omega
              simp only [List.length_cons] at hsc ⊢
              clear hcl hcell HS
              have f1 := HX.out.free 1
              obtain ⟨x0, x1, x2, x3, x4⟩ := HX.out.c5
              go_upto_region 24 with (fail)
              have HX2 := Lib.hid (HX.out.st5_1 (.int .i64 mv)); have HB2 := Lib.hid (below_set HB.out w.heap.size 1 (Nat.le_refl _) (.int .i64 mv)); have HR2 := Lib.hid (HRB.out.other (c := w.heap.size) (i := 1) (by omega) (.int .i64 mv)); have HT2 := Lib.hid (show ∀ j (_ : j < mr.length), (wr.setCell ⟨w.heap.size, 1, none⟩ (.int .i64 mv)).cell? ⟨g, off + 1 + j, none⟩ = some (.int .i64 mr[j]) from fun j hj => cell1_set _ (fun e => hg.1 e.symm) (HTL.out j hj))
              clear x0 x1 x2 x3 x4 f1 p0 HX HB HRB HTL
              generalize hWE : wr.setCell ⟨w.heap.size, 1, none⟩ (.int .i64 mv) = v6 at HX2 HB2 HR2 HT2 ⊢
              clear hWE
              have HG2 := Lib.hid hg; clear hg
              by_cases hc : sc - 1 = 0
              · skip
                go_wp2
                go_roundw
                case rel => exact ⟨1, _, mv, b, n, mr, by omega, rfl, by rfl, HS2, Lib.hid ⟨_, _, rfl, by omega, fun hne => absurd (List.eq_nil_of_length_eq_zero (by omega)) hne⟩, Lib.hid (fun b off n cap e => by cases e; exact HG2.out), HX2, HR2, HB2.out⟩
                case measure => simp [intOf]
              · skip
                go_wp2
                go_roundw
                case rel => exact ⟨1, _, mv, b, n, mr, by omega, rfl, by rfl, HS2, Lib.hid ⟨_, _, rfl, by omega, fun _ => ⟨g, off + 1, rfl, HT2.out⟩⟩, Lib.hid (fun b off n cap e => by cases e; exact HG2.out), HX2, HR2, HB2.out⟩
                case measure => simp [intOf]
            · obtain rfl : ji = 1 := by omega
              clear hji
              have hw1 : IntKind.i64.wrap (1 + 1) = 2 := by rw [IntKind.wrap_i64]; decide
              obtain ⟨sa, sc, hsv, hsc, hcell⟩ := HSL.out
              subst hsv
              clear HSL
              rcases M with _ | ⟨mv, mr⟩
              · have hl0 : ([] : List Int).length = 0 := rfl
                obtain ⟨x0, x1, x2, x3, x4⟩ := HX.out.c5
                clear hcell hsc hl0
                have HF := Lib.hid (show R = none from HR.out.symm.trans (HR.out.trans (HS.out.symm.trans (by show stg1 op a b n [] = none; unfold stg1; rw [if_pos GB.out]))))
                have r0 : wr.cell? ⟨(w.heap.size + 1), 0, none⟩ = some (.int .i64 0) := HRB.out.cell 0
                have r1 : wr.cell? ⟨(w.heap.size + 1), 1, none⟩ = some (.int .i64 0) := HRB.out.cell 1
                have r2 : wr.cell? ⟨(w.heap.size + 1), 2, none⟩ = some (.int .i64 0) := HRB.out.cell 2
                have r3 : wr.cell? ⟨(w.heap.size + 1), 3, none⟩ = some (.int .i64 0) := HRB.out.cell 3
                have r4 : wr.cell? ⟨(w.heap.size + 1), 4, none⟩ = some (.string ⟨#[]⟩) := HRB.out.cell 4
                have f0 := HRB.out.free 0
                have f1 := HRB.out.free 1
                have f2 := HRB.out.free 2
                have f3 := HRB.out.free 3
                have f4 := HRB.out.free 4
                have HK := Lib.hid (HRB.out.sets5 (.int .i64 op) (.int .i64 a) (.int .i64 b) (.int .i64 n) (.string (bs [])))
                go_wp2
                have k0 := HK.out.cell 0
                have k1 := HK.out.cell 1
                have k2 := HK.out.cell 2
                have k3 := HK.out.cell 3
                have k4 := HK.out.cell 4
                simp only [List.getElem?_toArray, List.getElem?_cons_zero, List.getElem?_cons_succ] at k0 k1 k2 k3 k4
                refine bodyPost_ret (v := .tuple #[.agg #[.int .i64 op, .int .i64 a, .int .i64 b, .int .i64 n, .string (bs [])], .bool false]) (by simp [results, Tryz.results72, go_sem, k0, k1, k2, k3, k4] <;> rfl) rfl ⟨_, show Ending.returned (.tuple #[.agg (insV ⟨op, a, b, n, []⟩), .bool false]) = _ from (by rw [HF.out]; rfl), fun y hy => (by rw [HF.out] at hy; cases hy), below_sets5 HB.out (w.heap.size + 1) (by omega) _ _ _ _ _⟩
              obtain ⟨g, off, rfl, hcl⟩ := hcell (by simp)
              have hg := HRW.out g off _ _ rfl
              have p0 := hcl 0 (by simp)
              rw [Nat.add_zero, List.getElem_cons_zero] at p0
              have HTL := Lib.hid (sl_tail hcl)
              have HS2 := Lib.hid (show stg op 2 a mv n mr = R from by rw [← HS.out]; show stg2 op a mv n mr = stg1 op a b n (mv :: mr); conv => rhs; unfold stg1; rw [if_pos GB.out])
              have hn0 : (((mr.length : Int) + 1) == 0) = false := by rw [beq_eq_false_iff_ne]; omega
              have hn1 : (0 : Int) < (mr.length : Int) + 1 := by omega
              have hn2 : (1 : Int) ≤ (mr.length : Int) + 1 := by omega
              simp only [List.length_cons] at hsc ⊢
              clear hcl hcell HS
              have f2 := HX.out.free 2
              obtain ⟨x0, x1, x2, x3, x4⟩ := HX.out.c5
              go_upto_region 24 with (fail)
              have HX2 := Lib.hid (HX.out.st5_2 (.int .i64 mv)); have HB2 := Lib.hid (below_set HB.out w.heap.size 2 (Nat.le_refl _) (.int .i64 mv)); have HR2 := Lib.hid (HRB.out.other (c := w.heap.size) (i := 2) (by omega) (.int .i64 mv)); have HT2 := Lib.hid (show ∀ j (_ : j < mr.length), (wr.setCell ⟨w.heap.size, 2, none⟩ (.int .i64 mv)).cell? ⟨g, off + 1 + j, none⟩ = some (.int .i64 mr[j]) from fun j hj => cell1_set _ (fun e => hg.1 e.symm) (HTL.out j hj))
              clear x0 x1 x2 x3 x4 f2 p0 HX HB HRB HTL
              generalize hWE : wr.setCell ⟨w.heap.size, 2, none⟩ (.int .i64 mv) = v6 at HX2 HB2 HR2 HT2 ⊢
              clear hWE
              have HG2 := Lib.hid hg; clear hg
              by_cases hc : sc - 1 = 0
              · skip
                go_wp2
                go_roundw
                case rel => exact ⟨2, _, a, mv, n, mr, by omega, rfl, by rfl, HS2, Lib.hid ⟨_, _, rfl, by omega, fun hne => absurd (List.eq_nil_of_length_eq_zero (by omega)) hne⟩, Lib.hid (fun b off n cap e => by cases e; exact HG2.out), HX2, HR2, HB2.out⟩
                case measure => simp [intOf]
              · skip
                go_wp2
                go_roundw
                case rel => exact ⟨2, _, a, mv, n, mr, by omega, rfl, by rfl, HS2, Lib.hid ⟨_, _, rfl, by omega, fun _ => ⟨g, off + 1, rfl, HT2.out⟩⟩, Lib.hid (fun b off n cap e => by cases e; exact HG2.out), HX2, HR2, HB2.out⟩
                case measure => simp [intOf]
            · obtain rfl : ji = 2 := by omega
              clear hji
              have hw1 : IntKind.i64.wrap (2 + 1) = 3 := by rw [IntKind.wrap_i64]; decide
              obtain ⟨sa, sc, hsv, hsc, hcell⟩ := HSL.out
              subst hsv
              clear HSL
              rcases M with _ | ⟨mv, mr⟩
              · have hl0 : ([] : List Int).length = 0 := rfl
                obtain ⟨x0, x1, x2, x3, x4⟩ := HX.out.c5
                clear hcell hsc hl0
                have HF := Lib.hid (show R = none from HR.out.symm.trans (HR.out.trans (HS.out.symm.trans (by show stg2 op a b n [] = none; unfold stg2; rw [if_pos GN.out]))))
                have r0 : wr.cell? ⟨(w.heap.size + 1), 0, none⟩ = some (.int .i64 0) := HRB.out.cell 0
                have r1 : wr.cell? ⟨(w.heap.size + 1), 1, none⟩ = some (.int .i64 0) := HRB.out.cell 1
                have r2 : wr.cell? ⟨(w.heap.size + 1), 2, none⟩ = some (.int .i64 0) := HRB.out.cell 2
                have r3 : wr.cell? ⟨(w.heap.size + 1), 3, none⟩ = some (.int .i64 0) := HRB.out.cell 3
                have r4 : wr.cell? ⟨(w.heap.size + 1), 4, none⟩ = some (.string ⟨#[]⟩) := HRB.out.cell 4
                have f0 := HRB.out.free 0
                have f1 := HRB.out.free 1
                have f2 := HRB.out.free 2
                have f3 := HRB.out.free 3
                have f4 := HRB.out.free 4
                have HK := Lib.hid (HRB.out.sets5 (.int .i64 op) (.int .i64 a) (.int .i64 b) (.int .i64 n) (.string (bs [])))
                go_wp2
                have k0 := HK.out.cell 0
                have k1 := HK.out.cell 1
                have k2 := HK.out.cell 2
                have k3 := HK.out.cell 3
                have k4 := HK.out.cell 4
                simp only [List.getElem?_toArray, List.getElem?_cons_zero, List.getElem?_cons_succ] at k0 k1 k2 k3 k4
                refine bodyPost_ret (v := .tuple #[.agg #[.int .i64 op, .int .i64 a, .int .i64 b, .int .i64 n, .string (bs [])], .bool false]) (by simp [results, Tryz.results72, go_sem, k0, k1, k2, k3, k4] <;> rfl) rfl ⟨_, show Ending.returned (.tuple #[.agg (insV ⟨op, a, b, n, []⟩), .bool false]) = _ from (by rw [HF.out]; rfl), fun y hy => (by rw [HF.out] at hy; cases hy), below_sets5 HB.out (w.heap.size + 1) (by omega) _ _ _ _ _⟩
              obtain ⟨g, off, rfl, hcl⟩ := hcell (by simp)
              have hg := HRW.out g off _ _ rfl
              have p0 := hcl 0 (by simp)
              rw [Nat.add_zero, List.getElem_cons_zero] at p0
              have HTL := Lib.hid (sl_tail hcl)
              have HS2 := Lib.hid (show stg op 3 a b mv mr = R from by rw [← HS.out]; show stg3 op a b mv mr = stg2 op a b n (mv :: mr); conv => rhs; unfold stg2; rw [if_pos GN.out])
              have hn0 : (((mr.length : Int) + 1) == 0) = false := by rw [beq_eq_false_iff_ne]; omega
              have hn1 : (0 : Int) < (mr.length : Int) + 1 := by omega
              have hn2 : (1 : Int) ≤ (mr.length : Int) + 1 := by omega
              simp only [List.length_cons] at hsc ⊢
              clear hcl hcell HS
              have f3 := HX.out.free 3
              obtain ⟨x0, x1, x2, x3, x4⟩ := HX.out.c5
              go_upto_region 24 with (fail)
              have HX2 := Lib.hid (HX.out.st5_3 (.int .i64 mv)); have HB2 := Lib.hid (below_set HB.out w.heap.size 3 (Nat.le_refl _) (.int .i64 mv)); have HR2 := Lib.hid (HRB.out.other (c := w.heap.size) (i := 3) (by omega) (.int .i64 mv)); have HT2 := Lib.hid (show ∀ j (_ : j < mr.length), (wr.setCell ⟨w.heap.size, 3, none⟩ (.int .i64 mv)).cell? ⟨g, off + 1 + j, none⟩ = some (.int .i64 mr[j]) from fun j hj => cell1_set _ (fun e => hg.1 e.symm) (HTL.out j hj))
              clear x0 x1 x2 x3 x4 f3 p0 HX HB HRB HTL
              generalize hWE : wr.setCell ⟨w.heap.size, 3, none⟩ (.int .i64 mv) = v6 at HX2 HB2 HR2 HT2 ⊢
              clear hWE
              have HG2 := Lib.hid hg; clear hg
              by_cases hc : sc - 1 = 0
              · skip
                go_wp2
                go_roundw
                case rel => exact ⟨3, _, a, b, mv, mr, by omega, rfl, by rfl, HS2, Lib.hid ⟨_, _, rfl, by omega, fun hne => absurd (List.eq_nil_of_length_eq_zero (by omega)) hne⟩, Lib.hid (fun b off n cap e => by cases e; exact HG2.out), HX2, HR2, HB2.out⟩
                case measure => simp [intOf]
              · skip
                go_wp2
                go_roundw
                case rel => exact ⟨3, _, a, b, mv, mr, by omega, rfl, by rfl, HS2, Lib.hid ⟨_, _, rfl, by omega, fun _ => ⟨g, off + 1, rfl, HT2.out⟩⟩, Lib.hid (fun b off n cap e => by cases e; exact HG2.out), HX2, HR2, HB2.out⟩
                case measure => simp [intOf]
          · have hj : j = 3 := by omega
            subst hj
            obtain rfl : ji = 3 := by omega
            clear hj3 hlt hji
            obtain ⟨sa, sc, hsv, hsc, -⟩ := HSL.out
            subst hsv
            rcases M with _ | ⟨mv, mr⟩
            · have HF := Lib.hid (show R = some ⟨op, a, b, n, []⟩ from HS.out.symm.trans (by show stg3 op a b n [] = _; unfold stg3; rw [if_pos rfl]))
              obtain ⟨x0, x1, x2, x3, x4⟩ := HX.out.c5
              have r0 : wr.cell? ⟨(w.heap.size + 1), 0, none⟩ = some (.int .i64 0) := HRB.out.cell 0
              have r1 : wr.cell? ⟨(w.heap.size + 1), 1, none⟩ = some (.int .i64 0) := HRB.out.cell 1
              have r2 : wr.cell? ⟨(w.heap.size + 1), 2, none⟩ = some (.int .i64 0) := HRB.out.cell 2
              have r3 : wr.cell? ⟨(w.heap.size + 1), 3, none⟩ = some (.int .i64 0) := HRB.out.cell 3
              have r4 : wr.cell? ⟨(w.heap.size + 1), 4, none⟩ = some (.string ⟨#[]⟩) := HRB.out.cell 4
              have f0 := HRB.out.free 0
              have f1 := HRB.out.free 1
              have f2 := HRB.out.free 2
              have f3 := HRB.out.free 3
              have f4 := HRB.out.free 4
              have HK := Lib.hid (HRB.out.sets5 (.int .i64 op) (.int .i64 a) (.int .i64 b) (.int .i64 n) (.string (bs [])))
              go_wp2
              have k0 := HK.out.cell 0
              have k1 := HK.out.cell 1
              have k2 := HK.out.cell 2
              have k3 := HK.out.cell 3
              have k4 := HK.out.cell 4
              simp only [List.getElem?_toArray, List.getElem?_cons_zero, List.getElem?_cons_succ] at k0 k1 k2 k3 k4
              refine bodyPost_ret (v := .tuple #[.agg #[.int .i64 op, .int .i64 a, .int .i64 b, .int .i64 n, .string (bs [])], .bool true]) (by simp [results, Tryz.results72, go_sem, k0, k1, k2, k3, k4] <;> rfl) rfl ⟨_, show Ending.returned (.tuple #[.agg (insV ⟨op, a, b, n, []⟩), .bool true]) = _ from (by rw [HF.out]; rfl), fun y hy => (by rw [HF.out] at hy; cases hy; rfl), below_sets5 HB.out (w.heap.size + 1) (by omega) _ _ _ _ _⟩
            · have HF := Lib.hid (show R = none from HS.out.symm.trans (by show stg3 op a b n (mv :: mr) = _; unfold stg3; rw [if_neg (by simp)]))
              have hn0 : (((mr.length : Int) + 1) == 0) = false := by rw [beq_eq_false_iff_ne]; omega
              simp only [List.length_cons]
              obtain ⟨x0, x1, x2, x3, x4⟩ := HX.out.c5
              have r0 : wr.cell? ⟨(w.heap.size + 1), 0, none⟩ = some (.int .i64 0) := HRB.out.cell 0
              have r1 : wr.cell? ⟨(w.heap.size + 1), 1, none⟩ = some (.int .i64 0) := HRB.out.cell 1
              have r2 : wr.cell? ⟨(w.heap.size + 1), 2, none⟩ = some (.int .i64 0) := HRB.out.cell 2
              have r3 : wr.cell? ⟨(w.heap.size + 1), 3, none⟩ = some (.int .i64 0) := HRB.out.cell 3
              have r4 : wr.cell? ⟨(w.heap.size + 1), 4, none⟩ = some (.string ⟨#[]⟩) := HRB.out.cell 4
              have f0 := HRB.out.free 0
              have f1 := HRB.out.free 1
              have f2 := HRB.out.free 2
              have f3 := HRB.out.free 3
              have f4 := HRB.out.free 4
              have HK := Lib.hid (HRB.out.sets5 (.int .i64 op) (.int .i64 a) (.int .i64 b) (.int .i64 n) (.string (bs [])))
              go_wp2
              have k0 := HK.out.cell 0
              have k1 := HK.out.cell 1
              have k2 := HK.out.cell 2
              have k3 := HK.out.cell 3
              have k4 := HK.out.cell 4
              simp only [List.getElem?_toArray, List.getElem?_cons_zero, List.getElem?_cons_succ] at k0 k1 k2 k3 k4
              refine bodyPost_ret (v := .tuple #[.agg #[.int .i64 op, .int .i64 a, .int .i64 b, .int .i64 n, .string (bs [])], .bool false]) (by simp [results, Tryz.results72, go_sem, k0, k1, k2, k3, k4] <;> rfl) rfl ⟨_, show Ending.returned (.tuple #[.agg (insV ⟨op, a, b, n, []⟩), .bool false]) = _ from (by rw [HF.out]; rfl), fun y hy => (by rw [HF.out] at hy; cases hy), below_sets5 HB.out (w.heap.size + 1) (by omega) _ _ _ _ _⟩
      · obtain ⟨hV, hA, hB, hN, hS⟩ := h
        have hfv : fv = 1 := HFV.out.symm.trans hV
        subst hfv
        clear hV
        have GA := Lib.hid hA; have GB := Lib.hid hB; have GN := Lib.hid hN; clear hA hB hN hS
        have HRW := Lib.hid hrow; have HXX := Lib.hid (show Bx w.heap.size #[.int .i64 op, .int .i64 0, .int .i64 0, .int .i64 0, .string (bs [])] 39 wr from HX.out)
        clear HX HO hrow
        go_wp2
        go_loopw [7, 37] (fun v i wr => ∃ (j : Nat) (ji a b n : Int) (M : List Int), j ≤ 3 ∧ i = .int .i64 ji ∧ ji = (j : Int) ∧ Hid (stg op j a b n M = R) ∧ Hid (SlI wr v M) ∧ Hid (∀ b off n cap, v = .slice (some ⟨b, off, none⟩) n cap → b ≠ w.heap.size ∧ b ≠ w.heap.size + 1) ∧ Hid (Bx w.heap.size #[.int .i64 op, .int .i64 a, .int .i64 b, .int .i64 n, .string (bs [])] 39 wr) ∧ Hid (Bx (w.heap.size + 1) #[.int .i64 0, .int .i64 0, .int .i64 0, .int .i64 0, .string ⟨#[]⟩] 39 wr) ∧ Below w.heap.size w wr) (fun _ i _ => 3 - (intOf i).toNat)
        case atStart => exact ⟨0, 0, 0, 0, 0, N, Nat.zero_le _, rfl, rfl, HSN, HSL, HRW, HXX, HRB, HB.out⟩
        case round =>
          clear HSN HSL HRW HXX HRB HB
          obtain ⟨j, ji, a, b, n, M, hj3, rfl, hji, HS, HSL, HRW, HX, HRB, hB2⟩ := hrel
          have HB := Lib.hid hB2; clear hB2
          by_cases hlt : j < 3
          · have hj : j = 0 ∨ j = 1 ∨ j = 2 := by omega
            clear hj3 hlt
            rcases hj with rfl | rfl | rfl
            · obtain rfl : ji = 0 := by omega
              clear hji
              have hw1 : IntKind.i64.wrap (0 + 1) = 1 := by rw [IntKind.wrap_i64]; decide
              obtain ⟨sa, sc, hsv, hsc, hcell⟩ := HSL.out
              subst hsv
              clear HSL
              rcases M with _ | ⟨mv, mr⟩
              · have hl0 : ([] : List Int).length = 0 := rfl
                obtain ⟨x0, x1, x2, x3, x4⟩ := HX.out.c5
                clear hcell hsc hl0
                have HF := Lib.hid (show R = none from HR.out.symm.trans (HR.out.trans (HS.out.symm.trans (by show stg0 op a b n [] = none; unfold stg0; rw [if_pos GA.out]))))
                have r0 : wr.cell? ⟨(w.heap.size + 1), 0, none⟩ = some (.int .i64 0) := HRB.out.cell 0
                have r1 : wr.cell? ⟨(w.heap.size + 1), 1, none⟩ = some (.int .i64 0) := HRB.out.cell 1
                have r2 : wr.cell? ⟨(w.heap.size + 1), 2, none⟩ = some (.int .i64 0) := HRB.out.cell 2
                have r3 : wr.cell? ⟨(w.heap.size + 1), 3, none⟩ = some (.int .i64 0) := HRB.out.cell 3
                have r4 : wr.cell? ⟨(w.heap.size + 1), 4, none⟩ = some (.string ⟨#[]⟩) := HRB.out.cell 4
                have f0 := HRB.out.free 0
                have f1 := HRB.out.free 1
                have f2 := HRB.out.free 2
                have f3 := HRB.out.free 3
                have f4 := HRB.out.free 4
                have HK := Lib.hid (HRB.out.sets5 (.int .i64 op) (.int .i64 a) (.int .i64 b) (.int .i64 n) (.string (bs [])))
                go_wp2
                have k0 := HK.out.cell 0
                have k1 := HK.out.cell 1
                have k2 := HK.out.cell 2
                have k3 := HK.out.cell 3
                have k4 := HK.out.cell 4
                simp only [List.getElem?_toArray, List.getElem?_cons_zero, List.getElem?_cons_succ] at k0 k1 k2 k3 k4
                refine bodyPost_ret (v := .tuple #[.agg #[.int .i64 op, .int .i64 a, .int .i64 b, .int .i64 n, .string (bs [])], .bool false]) (by simp [results, Tryz.results72, go_sem, k0, k1, k2, k3, k4] <;> rfl) rfl ⟨_, show Ending.returned (.tuple #[.agg (insV ⟨op, a, b, n, []⟩), .bool false]) = _ from (by rw [HF.out]; rfl), fun y hy => (by rw [HF.out] at hy; cases hy), below_sets5 HB.out (w.heap.size + 1) (by omega) _ _ _ _ _⟩
              obtain ⟨g, off, rfl, hcl⟩ := hcell (by simp)
              have hg := HRW.out g off _ _ rfl
              have p0 := hcl 0 (by simp)
              rw [Nat.add_zero, List.getElem_cons_zero] at p0
              have HTL := Lib.hid (sl_tail hcl)
              have HS2 := Lib.hid (show stg op 1 mv b n mr = R from by rw [← HS.out]; show stg1 op mv b n mr = stg0 op a b n (mv :: mr); conv => rhs; unfold stg0; rw [if_pos GA.out])
              have hn0 : (((mr.length : Int) + 1) == 0) = false := by rw [beq_eq_false_iff_ne]; omega
              have hn1 : (0 : Int) < (mr.length : Int) + 1 := by omega
              have hn2 : (1 : Int) ≤ (mr.length : Int) + 1 := by omega
              simp only [List.length_cons] at hsc ⊢
              clear hcl hcell HS
              have f1 := HX.out.free 1
              obtain ⟨x0, x1, x2, x3, x4⟩ := HX.out.c5
              go_upto_region 24 with (fail)
              have HX2 := Lib.hid (HX.out.st5_1 (.int .i64 mv)); have HB2 := Lib.hid (below_set HB.out w.heap.size 1 (Nat.le_refl _) (.int .i64 mv)); have HR2 := Lib.hid (HRB.out.other (c := w.heap.size) (i := 1) (by omega) (.int .i64 mv)); have HT2 := Lib.hid (show ∀ j (_ : j < mr.length), (wr.setCell ⟨w.heap.size, 1, none⟩ (.int .i64 mv)).cell? ⟨g, off + 1 + j, none⟩ = some (.int .i64 mr[j]) from fun j hj => cell1_set _ (fun e => hg.1 e.symm) (HTL.out j hj))
              clear x0 x1 x2 x3 x4 f1 p0 HX HB HRB HTL
              generalize hWE : wr.setCell ⟨w.heap.size, 1, none⟩ (.int .i64 mv) = v6 at HX2 HB2 HR2 HT2 ⊢
              clear hWE
              have HG2 := Lib.hid hg; clear hg
              by_cases hc : sc - 1 = 0
              · skip
                go_wp2
                go_roundw
                case rel => exact ⟨1, _, mv, b, n, mr, by omega, rfl, by rfl, HS2, Lib.hid ⟨_, _, rfl, by omega, fun hne => absurd (List.eq_nil_of_length_eq_zero (by omega)) hne⟩, Lib.hid (fun b off n cap e => by cases e; exact HG2.out), HX2, HR2, HB2.out⟩
                case measure => simp [intOf]
              · skip
                go_wp2
                go_roundw
                case rel => exact ⟨1, _, mv, b, n, mr, by omega, rfl, by rfl, HS2, Lib.hid ⟨_, _, rfl, by omega, fun _ => ⟨g, off + 1, rfl, HT2.out⟩⟩, Lib.hid (fun b off n cap e => by cases e; exact HG2.out), HX2, HR2, HB2.out⟩
                case measure => simp [intOf]
            · obtain rfl : ji = 1 := by omega
              clear hji
              have hw1 : IntKind.i64.wrap (1 + 1) = 2 := by rw [IntKind.wrap_i64]; decide
              have HN2 := Lib.hid (show stg op 2 a b n M = R from by rw [← HS.out]; show stg2 op a b n M = stg1 op a b n M; conv => rhs; unfold stg1; rw [if_neg (by rw [GB.out]; simp)])
              obtain ⟨sa, sc, hsv, -⟩ := id HSL.out
              subst hsv
              go_wp2
              skip
              go_roundw
              case rel => exact ⟨2, _, a, b, n, M, by omega, rfl, by rfl, HN2, HSL, HRW, HX, HRB, HB.out⟩
              case measure => simp [intOf]
            · obtain rfl : ji = 2 := by omega
              clear hji
              have hw1 : IntKind.i64.wrap (2 + 1) = 3 := by rw [IntKind.wrap_i64]; decide
              have HN2 := Lib.hid (show stg op 3 a b n M = R from by rw [← HS.out]; show stg3 op a b n M = stg2 op a b n M; conv => rhs; unfold stg2; rw [if_neg (by rw [GN.out]; simp)])
              obtain ⟨sa, sc, hsv, -⟩ := id HSL.out
              subst hsv
              go_wp2
              skip
              go_roundw
              case rel => exact ⟨3, _, a, b, n, M, by omega, rfl, by rfl, HN2, HSL, HRW, HX, HRB, HB.out⟩
              case measure => simp [intOf]
          · have hj : j = 3 := by omega
            subst hj
            obtain rfl : ji = 3 := by omega
            clear hj3 hlt hji
            obtain ⟨sa, sc, hsv, hsc, -⟩ := HSL.out
            subst hsv
            rcases M with _ | ⟨mv, mr⟩
            · have HF := Lib.hid (show R = some ⟨op, a, b, n, []⟩ from HS.out.symm.trans (by show stg3 op a b n [] = _; unfold stg3; rw [if_pos rfl]))
              obtain ⟨x0, x1, x2, x3, x4⟩ := HX.out.c5
              have r0 : wr.cell? ⟨(w.heap.size + 1), 0, none⟩ = some (.int .i64 0) := HRB.out.cell 0
              have r1 : wr.cell? ⟨(w.heap.size + 1), 1, none⟩ = some (.int .i64 0) := HRB.out.cell 1
              have r2 : wr.cell? ⟨(w.heap.size + 1), 2, none⟩ = some (.int .i64 0) := HRB.out.cell 2
              have r3 : wr.cell? ⟨(w.heap.size + 1), 3, none⟩ = some (.int .i64 0) := HRB.out.cell 3
              have r4 : wr.cell? ⟨(w.heap.size + 1), 4, none⟩ = some (.string ⟨#[]⟩) := HRB.out.cell 4
              have f0 := HRB.out.free 0
              have f1 := HRB.out.free 1
              have f2 := HRB.out.free 2
              have f3 := HRB.out.free 3
              have f4 := HRB.out.free 4
              have HK := Lib.hid (HRB.out.sets5 (.int .i64 op) (.int .i64 a) (.int .i64 b) (.int .i64 n) (.string (bs [])))
              go_wp2
              have k0 := HK.out.cell 0
              have k1 := HK.out.cell 1
              have k2 := HK.out.cell 2
              have k3 := HK.out.cell 3
              have k4 := HK.out.cell 4
              simp only [List.getElem?_toArray, List.getElem?_cons_zero, List.getElem?_cons_succ] at k0 k1 k2 k3 k4
              refine bodyPost_ret (v := .tuple #[.agg #[.int .i64 op, .int .i64 a, .int .i64 b, .int .i64 n, .string (bs [])], .bool true]) (by simp [results, Tryz.results72, go_sem, k0, k1, k2, k3, k4] <;> rfl) rfl ⟨_, show Ending.returned (.tuple #[.agg (insV ⟨op, a, b, n, []⟩), .bool true]) = _ from (by rw [HF.out]; rfl), fun y hy => (by rw [HF.out] at hy; cases hy; rfl), below_sets5 HB.out (w.heap.size + 1) (by omega) _ _ _ _ _⟩
            · have HF := Lib.hid (show R = none from HS.out.symm.trans (by show stg3 op a b n (mv :: mr) = _; unfold stg3; rw [if_neg (by simp)]))
              have hn0 : (((mr.length : Int) + 1) == 0) = false := by rw [beq_eq_false_iff_ne]; omega
              simp only [List.length_cons]
              obtain ⟨x0, x1, x2, x3, x4⟩ := HX.out.c5
              have r0 : wr.cell? ⟨(w.heap.size + 1), 0, none⟩ = some (.int .i64 0) := HRB.out.cell 0
              have r1 : wr.cell? ⟨(w.heap.size + 1), 1, none⟩ = some (.int .i64 0) := HRB.out.cell 1
              have r2 : wr.cell? ⟨(w.heap.size + 1), 2, none⟩ = some (.int .i64 0) := HRB.out.cell 2
              have r3 : wr.cell? ⟨(w.heap.size + 1), 3, none⟩ = some (.int .i64 0) := HRB.out.cell 3
              have r4 : wr.cell? ⟨(w.heap.size + 1), 4, none⟩ = some (.string ⟨#[]⟩) := HRB.out.cell 4
              have f0 := HRB.out.free 0
              have f1 := HRB.out.free 1
              have f2 := HRB.out.free 2
              have f3 := HRB.out.free 3
              have f4 := HRB.out.free 4
              have HK := Lib.hid (HRB.out.sets5 (.int .i64 op) (.int .i64 a) (.int .i64 b) (.int .i64 n) (.string (bs [])))
              go_wp2
              have k0 := HK.out.cell 0
              have k1 := HK.out.cell 1
              have k2 := HK.out.cell 2
              have k3 := HK.out.cell 3
              have k4 := HK.out.cell 4
              simp only [List.getElem?_toArray, List.getElem?_cons_zero, List.getElem?_cons_succ] at k0 k1 k2 k3 k4
              refine bodyPost_ret (v := .tuple #[.agg #[.int .i64 op, .int .i64 a, .int .i64 b, .int .i64 n, .string (bs [])], .bool false]) (by simp [results, Tryz.results72, go_sem, k0, k1, k2, k3, k4] <;> rfl) rfl ⟨_, show Ending.returned (.tuple #[.agg (insV ⟨op, a, b, n, []⟩), .bool false]) = _ from (by rw [HF.out]; rfl), fun y hy => (by rw [HF.out] at hy; cases hy), below_sets5 HB.out (w.heap.size + 1) (by omega) _ _ _ _ _⟩
      · obtain ⟨hV, hA, hB, hN, hS⟩ := h
        have hfv : fv = 0 := HFV.out.symm.trans hV
        subst hfv
        clear hV
        have GA := Lib.hid hA; have GB := Lib.hid hB; have GN := Lib.hid hN; clear hA hB hN hS
        have HRW := Lib.hid hrow; have HXX := Lib.hid (show Bx w.heap.size #[.int .i64 op, .int .i64 0, .int .i64 0, .int .i64 0, .string (bs [])] 39 wr from HX.out)
        clear HX HO hrow
        go_wp2
        go_loopw [7, 37] (fun v i wr => ∃ (j : Nat) (ji a b n : Int) (M : List Int), j ≤ 3 ∧ i = .int .i64 ji ∧ ji = (j : Int) ∧ Hid (stg op j a b n M = R) ∧ Hid (SlI wr v M) ∧ Hid (∀ b off n cap, v = .slice (some ⟨b, off, none⟩) n cap → b ≠ w.heap.size ∧ b ≠ w.heap.size + 1) ∧ Hid (Bx w.heap.size #[.int .i64 op, .int .i64 a, .int .i64 b, .int .i64 n, .string (bs [])] 39 wr) ∧ Hid (Bx (w.heap.size + 1) #[.int .i64 0, .int .i64 0, .int .i64 0, .int .i64 0, .string ⟨#[]⟩] 39 wr) ∧ Below w.heap.size w wr) (fun _ i _ => 3 - (intOf i).toNat)
        case atStart => exact ⟨0, 0, 0, 0, 0, N, Nat.zero_le _, rfl, rfl, HSN, HSL, HRW, HXX, HRB, HB.out⟩
        case round =>
          clear HSN HSL HRW HXX HRB HB
          obtain ⟨j, ji, a, b, n, M, hj3, rfl, hji, HS, HSL, HRW, HX, HRB, hB2⟩ := hrel
          have HB := Lib.hid hB2; clear hB2
          by_cases hlt : j < 3
          · have hj : j = 0 ∨ j = 1 ∨ j = 2 := by omega
            clear hj3 hlt
            rcases hj with rfl | rfl | rfl
            · obtain rfl : ji = 0 := by omega
              clear hji
              have hw1 : IntKind.i64.wrap (0 + 1) = 1 := by rw [IntKind.wrap_i64]; decide
              have HN2 := Lib.hid (show stg op 1 a b n M = R from by rw [← HS.out]; show stg1 op a b n M = stg0 op a b n M; conv => rhs; unfold stg0; rw [if_neg (by rw [GA.out]; simp)])
              obtain ⟨sa, sc, hsv, -⟩ := id HSL.out
              subst hsv
              go_wp2
              skip
              go_roundw
              case rel => exact ⟨1, _, a, b, n, M, by omega, rfl, by rfl, HN2, HSL, HRW, HX, HRB, HB.out⟩
              case measure => simp [intOf]
            · obtain rfl : ji = 1 := by omega
              clear hji
              have hw1 : IntKind.i64.wrap (1 + 1) = 2 := by rw [IntKind.wrap_i64]; decide
              have HN2 := Lib.hid (show stg op 2 a b n M = R from by rw [← HS.out]; show stg2 op a b n M = stg1 op a b n M; conv => rhs; unfold stg1; rw [if_neg (by rw [GB.out]; simp)])
              obtain ⟨sa, sc, hsv, -⟩ := id HSL.out
              subst hsv
              go_wp2
              skip
              go_roundw
              case rel => exact ⟨2, _, a, b, n, M, by omega, rfl, by rfl, HN2, HSL, HRW, HX, HRB, HB.out⟩
              case measure => simp [intOf]
            · obtain rfl : ji = 2 := by omega
              clear hji
              have hw1 : IntKind.i64.wrap (2 + 1) = 3 := by rw [IntKind.wrap_i64]; decide
              have HN2 := Lib.hid (show stg op 3 a b n M = R from by rw [← HS.out]; show stg3 op a b n M = stg2 op a b n M; conv => rhs; unfold stg2; rw [if_neg (by rw [GN.out]; simp)])
              obtain ⟨sa, sc, hsv, -⟩ := id HSL.out
              subst hsv
              go_wp2
              skip
              go_roundw
              case rel => exact ⟨3, _, a, b, n, M, by omega, rfl, by rfl, HN2, HSL, HRW, HX, HRB, HB.out⟩
              case measure => simp [intOf]
          · have hj : j = 3 := by omega
            subst hj
            obtain rfl : ji = 3 := by omega
            clear hj3 hlt hji
            obtain ⟨sa, sc, hsv, hsc, -⟩ := HSL.out
            subst hsv
            rcases M with _ | ⟨mv, mr⟩
            · have HF := Lib.hid (show R = some ⟨op, a, b, n, []⟩ from HS.out.symm.trans (by show stg3 op a b n [] = _; unfold stg3; rw [if_pos rfl]))
              obtain ⟨x0, x1, x2, x3, x4⟩ := HX.out.c5
              have r0 : wr.cell? ⟨(w.heap.size + 1), 0, none⟩ = some (.int .i64 0) := HRB.out.cell 0
              have r1 : wr.cell? ⟨(w.heap.size + 1), 1, none⟩ = some (.int .i64 0) := HRB.out.cell 1
              have r2 : wr.cell? ⟨(w.heap.size + 1), 2, none⟩ = some (.int .i64 0) := HRB.out.cell 2
              have r3 : wr.cell? ⟨(w.heap.size + 1), 3, none⟩ = some (.int .i64 0) := HRB.out.cell 3
              have r4 : wr.cell? ⟨(w.heap.size + 1), 4, none⟩ = some (.string ⟨#[]⟩) := HRB.out.cell 4
              have f0 := HRB.out.free 0
              have f1 := HRB.out.free 1
              have f2 := HRB.out.free 2
              have f3 := HRB.out.free 3
              have f4 := HRB.out.free 4
              have HK := Lib.hid (HRB.out.sets5 (.int .i64 op) (.int .i64 a) (.int .i64 b) (.int .i64 n) (.string (bs [])))
              go_wp2
              have k0 := HK.out.cell 0
              have k1 := HK.out.cell 1
              have k2 := HK.out.cell 2
              have k3 := HK.out.cell 3
              have k4 := HK.out.cell 4
              simp only [List.getElem?_toArray, List.getElem?_cons_zero, List.getElem?_cons_succ] at k0 k1 k2 k3 k4
              refine bodyPost_ret (v := .tuple #[.agg #[.int .i64 op, .int .i64 a, .int .i64 b, .int .i64 n, .string (bs [])], .bool true]) (by simp [results, Tryz.results72, go_sem, k0, k1, k2, k3, k4] <;> rfl) rfl ⟨_, show Ending.returned (.tuple #[.agg (insV ⟨op, a, b, n, []⟩), .bool true]) = _ from (by rw [HF.out]; rfl), fun y hy => (by rw [HF.out] at hy; cases hy; rfl), below_sets5 HB.out (w.heap.size + 1) (by omega) _ _ _ _ _⟩
            · have HF := Lib.hid (show R = none from HS.out.symm.trans (by show stg3 op a b n (mv :: mr) = _; unfold stg3; rw [if_neg (by simp)]))
              have hn0 : (((mr.length : Int) + 1) == 0) = false := by rw [beq_eq_false_iff_ne]; omega
              simp only [List.length_cons]
              obtain ⟨x0, x1, x2, x3, x4⟩ := HX.out.c5
              have r0 : wr.cell? ⟨(w.heap.size + 1), 0, none⟩ = some (.int .i64 0) := HRB.out.cell 0
              have r1 : wr.cell? ⟨(w.heap.size + 1), 1, none⟩ = some (.int .i64 0) := HRB.out.cell 1
              have r2 : wr.cell? ⟨(w.heap.size + 1), 2, none⟩ = some (.int .i64 0) := HRB.out.cell 2
              have r3 : wr.cell? ⟨(w.heap.size + 1), 3, none⟩ = some (.int .i64 0) := HRB.out.cell 3
              have r4 : wr.cell? ⟨(w.heap.size + 1), 4, none⟩ = some (.string ⟨#[]⟩) := HRB.out.cell 4
              have f0 := HRB.out.free 0
              have f1 := HRB.out.free 1
              have f2 := HRB.out.free 2
              have f3 := HRB.out.free 3
              have f4 := HRB.out.free 4
              have HK := Lib.hid (HRB.out.sets5 (.int .i64 op) (.int .i64 a) (.int .i64 b) (.int .i64 n) (.string (bs [])))
              go_wp2
              have k0 := HK.out.cell 0
              have k1 := HK.out.cell 1
              have k2 := HK.out.cell 2
              have k3 := HK.out.cell 3
              have k4 := HK.out.cell 4
              simp only [List.getElem?_toArray, List.getElem?_cons_zero, List.getElem?_cons_succ] at k0 k1 k2 k3 k4
              refine bodyPost_ret (v := .tuple #[.agg #[.int .i64 op, .int .i64 a, .int .i64 b, .int .i64 n, .string (bs [])], .bool false]) (by simp [results, Tryz.results72, go_sem, k0, k1, k2, k3, k4] <;> rfl) rfl ⟨_, show Ending.returned (.tuple #[.agg (insV ⟨op, a, b, n, []⟩), .bool false]) = _ from (by rw [HF.out]; rfl), fun y hy => (by rw [HF.out] at hy; cases hy), below_sets5 HB.out (w.heap.size + 1) (by omega) _ _ _ _ _⟩
end Go.Proofs.YtkmmdkklpbafdaaGreatDoor
