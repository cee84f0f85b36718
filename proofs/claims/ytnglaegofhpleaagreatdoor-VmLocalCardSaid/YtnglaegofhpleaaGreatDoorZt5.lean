/- What the claim needs of: VmK, VmN, VmR, VmS, VmT, VmU, VmWa, VmWp, VmWq. No conditions. -/
import Derived.Test.YtnglaegofhpleaaGreatDoorZt4
import Derived.Test.YtnglaegofhpleaaGreatDoorRows
import Derived.WalkKit
import Derived.WalkSpells
import Derived.WalkLawsBesides
import Derived.Lib.SlBytesRow
import Derived.Lib.Hide
import Derived.Lib.ParseIntBTie
import Derived.Lib.ItoaLen
import Derived.Shelf.Small.Strs
import Derived.Shelf.Small.Wraps
import Derived.Shelf.Strconv.Itoa0
import Derived.Shelf.Strconv.Itoa1
import Derived.Shelf.LaysM
import Derived.Shelf.Strconv.Itoa2
import Derived.Shelf.Strconv.Itoa3
import Derived.Shelf.Strconv.Itoa4
import Derived.Shelf.Strings.Fields
import Derived.Shelf.Slices.Turned
import Derived.Lib.SmallJoins
import Derived.Lib.AppendIntMem
import Derived.Deep.RegionHeld3
import Derived.Outline
import Derived.Deep.Cut
import Derived.Deep.CutRange
import Derived.Deep.DeepCutAuto
import Derived.Deep.RegionLaw
import Derived.Lib.Builder
import Derived.Lib.AppendStr
import Derived.Lib.UnsafeStr
import Derived.Laws.Externs
import Derived.Laws.AppendOwnNone
import Derived.Deep.DeepAppendWide
import Derived.Laws.RangeAny
import Derived.Lib.IndexLaws
import Derived.Lib.LaidTab
import Derived.Shelf.Spec.SlicesInsert
import Derived.Shelf.Spec.SlicesInsertGrow
import Derived.Shelf.Spec.SearchS
import Derived.OrdersIn
import Derived.TacticsIn
import Derived.BigQuiet
import Derived.Tactics
import Derived.Tactics2
import Derived.Defers
import Derived.Recover
import Derived.Laws.Pointers
import Derived.Deep.AppendLies
import Derived.Laws.CopyOwn
import Derived.Stop.LaidErr
import Derived.LaidMore
import Derived.Deep.Slices
import Derived.OpenShut
import Derived.ProofKit
import Derived.SizedLaws
import Derived.SliceStrings
import Derived.HandedShaped
import Derived.Shelf.Vars
namespace Go.Proofs.YtnglaegofhpleaaGreatDoor
open Go.RowKit

theorem cellsAt_val (w : World) (x : Vl) : CellsAt (w.alloc (.cells (vV x) 52)) (.slice (some ⟨w.heap.size, 0, none⟩) 1 1) 1 (vlL x) := by
  refine ⟨_, _, rfl, fun _ => ⟨_, _, rfl, fun j y hj => ?_⟩⟩
  rw [Nat.zero_add]
  have h := (Bx.new w (vV x) 52).cell j
  rw [h]
  rcases j with _ | _ | _ | j
  · exact hj
  · exact hj
  · exact hj
  · simp [vlL] at hj
/-- 'v = append(v, y)', v a slice of tokens of the call's own -/
theorem wpList_append_val {w1 : World} {ops : Array Oper} {rest : List Oper} {o : Oper} {a : Act} {Q : Exit → Act → World → Prop} (hgd : o.guard = none) (s x : Operand)
    (ho : o.op = .call { callee := .builtin .append, args := #[s, x], argTypes := #[26, 26] }) (B : Nat) (v : Value) (L : List Vl) (y : Vl) (hown : w1.ownsRow B 52 3 v L.length (vlLs L))
    (hs : a.eval s = v) (hx : a.eval x = .slice (some ⟨w1.heap.size, 0, none⟩) 1 1) (hlen : L.length ≤ 1000000000000) (W0 : World) (B0 : Nat) (hbel : Below B0 W0 w1) (hB : B ≤ w1.heap.size) (hB0 : B0 ≤ B)
    (h : ∀ v' w', w'.ownsRow B 52 3 v' (L ++ [y]).length (vlLs (L ++ [y])) → Below B0 W0 w' → w1.grownBy w' v.ownBlock → wpList Tryz.prog ops Q rest (a.put o.dst v') w') :
    wpList Tryz.prog ops Q (o :: rest) a (w1.alloc (.cells (vV y) 52)) := by
  obtain ⟨i0, hi, hz0, hz1, hz2⟩ := info_parts infoVl
  refine wpList_append_any hgd s x 26 ho B 52 i0 (.agg #[.int .i64 0, .int .i64 0, .string ⟨#[]⟩]) 3 32 Tryz.underlying26 hi hz0 hz1 hz2 rfl (by decide) v _ L.length 1 (vlLs L) (vlL y) hs (hown.alloc _) hx (cellsAt_val w1 y) rfl
    (by intro u hu; simp only [vlL, List.mem_cons, List.not_mem_nil, or_false] at hu; rcases hu with rfl | rfl | rfl <;> rfl) (by unfold maxLen; omega) (by omega) W0 B0 (hbel.alloc (Nat.le_trans hB0 hB) _) (by simp; omega) hB0 ?_
  intro v2 w2 hown2 hb2 hgrow
  refine h v2 w2 (by rw [vlLs_snoc, List.length_append]; exact hown2) hb2 ?_
  exact ⟨hgrow.os, hgrow.tape, hgrow.output, Nat.le_trans (by simp) hgrow.size, fun k hk hne => (hgrow.block k (by simp; omega) hne).trans ((World.grownBy_alloc w1 (.cells (vV y) 52) none).block k hk (by simp))⟩

theorem own_valAt {W : World} {B : Nat} {v : Value} {L : List Vl} (h : W.ownsRow B 52 3 v L.length (vlLs L)) : CellsAt W v L.length (vlLs L) := by
  rcases own_form h with ⟨rfl, h0⟩ | ⟨g, cap, rfl, hc, _⟩
  · have : L = [] := List.eq_nil_of_length_eq_zero h0
    subst this
    exact ⟨none, 0, rfl, fun hne => absurd rfl hne⟩
  · refine ⟨_, cap, rfl, fun _ => ⟨g, 0, rfl, fun j u hj => ?_⟩⟩
    have h1 := h.cells (g := g) rfl j u hj
    have e : (⟨g, 0, none⟩ : Addr).add j = ⟨g, 0 + j, none⟩ := by unfold Addr.add; split <;> simp_all
    rw [e] at h1; exact h1

theorem Mp.set {m b : Nat} {L : List Pr} {W : World} (h : Mp m L W) (hne : m ≠ b) (i : Nat) (u : Value) : Mp m L (W.setCell ⟨b, i, none⟩ u) := by
  obtain ⟨es, c, h1, h2⟩ := h
  exact ⟨es, c, (heap_setCell_other W ⟨b, i, none⟩ m u (fun e => hne (by simpa using e))).trans h1, h2⟩
theorem Mp.grownv {m B k n : Nat} {e : TypeId} {v : Value} {xs : List Value} {L : List Pr} {W W' : World} (h : Mp m L W) (hg : W.grownBy W' v.ownBlock) (ho : W.ownsRow B e k v n xs) : Mp m L W' := by
  refine h.kept hg (fun q => ?_)
  obtain ⟨es, c, h1, _⟩ := h
  rcases ho.2 with ⟨rfl, _⟩ | ⟨g, cap, cur, rfl, _, h3, _⟩
  · simp [Value.ownBlock] at q
  · have hgm : g = m := by simpa [Value.ownBlock] using q
    rw [hgm, h1] at h3; cases h3
theorem Mp.sets3 {m b : Nat} {L : List Pr} {W : World} (h : Mp m L W) (hne : m ≠ b) (u0 u1 u2 : Value) : Mp m L (((W.setCell ⟨b, 0, none⟩ u0).setCell ⟨b, 1, none⟩ u1).setCell ⟨b, 2, none⟩ u2) := ((h.set hne 0 u0).set hne 1 u1).set hne 2 u2

set_option maxRecDepth 100000 in
set_option maxHeartbeats 16000000 in
theorem evalVar_any (mb vm om : Nat) (sa ra wa : Option Addr) (sc rc wc : Nat) (M : List Pr) (al : Bool) (rd wri : List (List UInt8)) (V : List Pr) (x : List UInt8) (w : World) (hX : Bx mb #[.slice sa M.length sc, .bool al, .slice ra rd.length rc, .slice wa wri.length wc, .map (some vm), .map (some om), .int .i64 0, .int .i64 0, .slice none 0 0, .slice none 0 0, .slice none 0 0, .slice none 0 0, .string ⟨#[]⟩, .int .i64 0] 143 w) (hV : Mp vm V w) (hin : hasK V x = true) :
    Calls Tryz.prog 119 #[.pointer (some ⟨mb, 0, none⟩), .agg #[.int .i64 3, .int .i64 0, .string (bs x), .slice none 0 0]] w fun e w' => e = .returned (.agg (vV (getP V x))) ∧ Below w.heap.size w w' := by
  obtain ⟨gv, hgv⟩ : ∃ v, getP V x = v := ⟨_, rfl⟩
  rw [hgv]
  simp only [vV]
  have HGV := Lib.hid hgv; have HIN := Lib.hid hin; clear hgv hin
  have hmw := hX.lt
  have hVw := hV.lt
  have hal0 := ((Below.refl w.heap.size w).alloc (Nat.le_refl _) (.cells #[.int .i64 3, .int .i64 0, .string (bs x), .slice none 0 0] 116)).alloc (by simp) (.cells #[.int .i64 0, .int .i64 0, .string ⟨#[]⟩] 52)
  have hr0 := Bx.new (w.alloc (.cells #[.int .i64 3, .int .i64 0, .string (bs x), .slice none 0 0] 116)) #[.int .i64 0, .int .i64 0, .string ⟨#[]⟩] 52
  rw [show (w.alloc (.cells #[.int .i64 3, .int .i64 0, .string (bs x), .slice none 0 0] 116)).heap.size = w.heap.size + 1 by simp] at hr0
  have HE := Lib.hid ((Bx.new w #[.int .i64 3, .int .i64 0, .string (bs x), .slice none 0 0] 116).alloc (.cells #[.int .i64 0, .int .i64 0, .string ⟨#[]⟩] 52))
  have HB := Lib.hid hal0; have HRB := Lib.hid hr0; have HX := Lib.hid (hX.call hal0); have HV := Lib.hid (hV.call hal0); clear hX hV hal0 hr0
  go_enter Tryz.func119, Tryz.ntmps119
  go_upto_region 1 with (fail)
  generalize hW : (w.alloc (.cells #[.int .i64 3, .int .i64 0, .string (bs x), .slice none 0 0] 116)).alloc (.cells #[.int .i64 0, .int .i64 0, .string ⟨#[]⟩] 52) = v0 at HB HRB HE HX HV ⊢
  clear hW
  obtain ⟨e0, e1, e2, e3⟩ := HE.out.c4
  go_upto_region 7 with (fail)
  clear e0 e1 e2 e3
  have hs0 : Bx mb #[.slice sa M.length sc, .bool al, .slice ra rd.length rc, .slice wa wri.length wc, .map (some vm), .map (some om), .int .i64 0, .int .i64 0, .slice none 0 0, .slice none 0 0, .slice none 0 0, .slice none 0 0, .string ⟨#[]⟩, .int .i64 0] 143 v0.drew ∧ Bx w.heap.size #[.int .i64 3, .int .i64 0, .string (bs x), .slice none 0 0] 116 v0.drew ∧ Mp vm V v0.drew := ⟨HX.out, HE.out, HV.out⟩
  have HS0 := Lib.hid hs0; clear hs0
  go_wp2_with fail
  refine wp_region_held_drew (S := (fun w' => Bx mb #[.slice sa M.length sc, .bool al, .slice ra rd.length rc, .slice wa wri.length wc, .map (some vm), .map (some om), .int .i64 0, .int .i64 0, .slice none 0 0, .slice none 0 0, .slice none 0 0, .slice none 0 0, .string ⟨#[]⟩, .int .i64 0] 143 w' ∧ Bx w.heap.size #[.int .i64 3, .int .i64 0, .string (bs x), .slice none 0 0] 116 w' ∧ Mp vm V w')) (by kernel_rfl) ?_ (fun hHeld => ?_)
  · exact HS0.out
  refine tkX (i := 0) 25 ?_
  simp only [sA, sB, sC]
  refine tkX (i := 1) 26 ?_
  simp only [sA, sB, sC]
  refine tkX (i := 2) 27 ?_
  simp only [sA, sB, sC]
  refine tkY (i := 3) (v := ?vv4) 28 ?yy4 ?_
  case yy4 =>
    intro wq hSw
    obtain ⟨m0, m1, m2, m3, m4, -⟩ := hSw.1.c14
    clear hSw
    go_simp
    (try with_reducible rfl)
  simp only [sA, sB, sC]
  refine tkX (i := 4) 29 ?_
  simp only [sA, sB, sC]
  refine tkY (i := 5) (v := ?vv6) 30 ?yy6 ?_
  case yy6 =>
    intro wq hSw
    obtain ⟨e0, e1, e2, e3⟩ := hSw.2.1.c4
    clear hSw
    go_simp
    (try with_reducible rfl)
  simp only [sA, sB, sC]
  refine tkY (i := 6) (v := ?vv7) 31 ?yy7 ?_
  case yy7 =>
    intro wq hSw
    have hlk := run_look hSw.2.2 x
    rw [HGV.out, HIN.out] at hlk
    simp only [vV] at hlk
    clear hSw
    go_simp
    (try with_reducible rfl)
  simp only [sA, sB, sC]
  refine tkX (i := 7) 24 ?_
  simp only [sA, sB, sC]
  refine tkX (i := 8) 32 ?_
  simp only [sA, sB, sC]
  refine tkX (i := 9) 33 ?_
  simp only [sA, sB, sC]
  refine wpAnyH_ready (rs := [10]) (by kernel_rfl) (by simp) ?_
  refine (AllReadyH.cons rfl (fun K hK => ?_) AllReadyH.nil)
  go_simp
  skip
  focus (try go_wp2_with fail)
  refine hK.out _ _ ?_ (fun hHeld => ?_)
  · exact ⟨hHeld.1.alloc _, hHeld.2.1.alloc _, hHeld.2.2.call ((Below.refl _ _).alloc (Nat.le_refl _) _)⟩
  clear hK K
  (try simp only [Act.put, sA, sB, sC])
  have HN := Lib.hid (show Bx v0.heap.size #[.int .i64 0, .int .i64 0, .string ⟨#[]⟩] 52 (v0.drew.alloc (.cells #[.int .i64 0, .int .i64 0, .string ⟨#[]⟩] 52)) from Bx.new v0.drew #[.int .i64 0, .int .i64 0, .string ⟨#[]⟩] 52)
  have HBB := Lib.hid (show Below w.heap.size w (v0.drew.alloc (.cells #[.int .i64 0, .int .i64 0, .string ⟨#[]⟩] 52)) from btrans HB.out HB.out.size ((Below.refl v0.heap.size v0).drew.alloc (Nat.le_refl _) (.cells #[.int .i64 0, .int .i64 0, .string ⟨#[]⟩] 52)))
  have HRR := Lib.hid (show Bx (w.heap.size + 1) #[.int .i64 0, .int .i64 0, .string ⟨#[]⟩] 52 (v0.drew.alloc (.cells #[.int .i64 0, .int .i64 0, .string ⟨#[]⟩] 52)) from HRB.out.drew.alloc _)
  have HH := Lib.hid (show Bx mb #[.slice sa M.length sc, .bool al, .slice ra rd.length rc, .slice wa wri.length wc, .map (some vm), .map (some om), .int .i64 0, .int .i64 0, .slice none 0 0, .slice none 0 0, .slice none 0 0, .slice none 0 0, .string ⟨#[]⟩, .int .i64 0] 143 (v0.drew.alloc (.cells #[.int .i64 0, .int .i64 0, .string ⟨#[]⟩] 52)) ∧ Bx w.heap.size #[.int .i64 3, .int .i64 0, .string (bs x), .slice none 0 0] 116 (v0.drew.alloc (.cells #[.int .i64 0, .int .i64 0, .string ⟨#[]⟩] 52)) ∧ Mp vm V (v0.drew.alloc (.cells #[.int .i64 0, .int .i64 0, .string ⟨#[]⟩] 52)) from hHeld)
  have hsz0 := HRB.out.lt
  clear hHeld HB HRB HX HE HV HS0
  (try rw [show (v0.alloc (.cells #[.int .i64 0, .int .i64 0, .string ⟨#[]⟩] 52)).drew = v0.drew.alloc (.cells #[.int .i64 0, .int .i64 0, .string ⟨#[]⟩] 52) from rfl])
  generalize hW : v0.drew.alloc (.cells #[.int .i64 0, .int .i64 0, .string ⟨#[]⟩] 52) = v1 at HN HBB HRR HH ⊢
  clear hW
  have hHeld := HH.out
  clear HH
  have n0 : v1.cell? ⟨v0.heap.size, 0, none⟩ = some (.int .i64 0) := HN.out.cell 0
  have n1 : v1.cell? ⟨v0.heap.size, 1, none⟩ = some (.int .i64 0) := HN.out.cell 1
  have n2 : v1.cell? ⟨v0.heap.size, 2, none⟩ = some (.string ⟨#[]⟩) := HN.out.cell 2
  have g0 := HN.out.free 0
  have g1 := HN.out.free 1
  have g2 := HN.out.free 2
  have hne1 : mb ≠ v0.heap.size := by omega
  have hne2 : w.heap.size ≠ v0.heap.size := by omega
  have hne3 : vm ≠ v0.heap.size := by omega
  have q1 : Bx mb #[.slice sa M.length sc, .bool al, .slice ra rd.length rc, .slice wa wri.length wc, .map (some vm), .map (some om), .int .i64 0, .int .i64 0, .slice none 0 0, .slice none 0 0, .slice none 0 0, .slice none 0 0, .string ⟨#[]⟩, .int .i64 0] 143 v1 := hHeld.1
  have q2 : Bx w.heap.size #[.int .i64 3, .int .i64 0, .string (bs x), .slice none 0 0] 116 v1 := hHeld.2.1
  have q3 : Mp vm V v1 := hHeld.2.2
  have HKK := Lib.hid (show Bx mb #[.slice sa M.length sc, .bool al, .slice ra rd.length rc, .slice wa wri.length wc, .map (some vm), .map (some om), .int .i64 0, .int .i64 0, .slice none 0 0, .slice none 0 0, .slice none 0 0, .slice none 0 0, .string ⟨#[]⟩, .int .i64 0] 143 (((v1.setCell ⟨v0.heap.size, 0, none⟩ (.int .i64 gv.k)).setCell ⟨v0.heap.size, 1, none⟩ (.int .i64 gv.n)).setCell ⟨v0.heap.size, 2, none⟩ (.string (bs gv.s))) ∧ Bx w.heap.size #[.int .i64 3, .int .i64 0, .string (bs x), .slice none 0 0] 116 (((v1.setCell ⟨v0.heap.size, 0, none⟩ (.int .i64 gv.k)).setCell ⟨v0.heap.size, 1, none⟩ (.int .i64 gv.n)).setCell ⟨v0.heap.size, 2, none⟩ (.string (bs gv.s))) ∧ Mp vm V (((v1.setCell ⟨v0.heap.size, 0, none⟩ (.int .i64 gv.k)).setCell ⟨v0.heap.size, 1, none⟩ (.int .i64 gv.n)).setCell ⟨v0.heap.size, 2, none⟩ (.string (bs gv.s))) from ⟨q1.sets3_ne hne1 (.int .i64 gv.k) (.int .i64 gv.n) (.string (bs gv.s)), q2.sets3_ne hne2 (.int .i64 gv.k) (.int .i64 gv.n) (.string (bs gv.s)), q3.sets3 hne3 (.int .i64 gv.k) (.int .i64 gv.n) (.string (bs gv.s))⟩)
  clear q1 q2 q3
  refine wpAnyH_ready (rs := [11]) (by kernel_rfl) (by simp) ?_
  refine (AllReadyH.cons rfl (fun K hK => ?_) AllReadyH.nil)
  go_simp
  focus (try go_wp2_with fail)
  refine hK.out _ _ ?_ (fun hHeld => ?_)
  · exact HKK.out
  clear hK K
  (try simp only [Act.put, sA, sB, sC])
  refine tkX (i := 12) 6 ?_
  simp only [sA, sB, sC]
  refine wpAnyH_done (by kernel_rfl) ?_ _
  have HN2 := Lib.hid (HN.out.sets3 (.int .i64 gv.k) (.int .i64 gv.n) (.string (bs gv.s))); have HB2 := Lib.hid (below_sets3 HBB.out v0.heap.size (by omega) (.int .i64 gv.k) (.int .i64 gv.n) (.string (bs gv.s))); have HR2 := Lib.hid (HRR.out.sets3_ne (c := v0.heap.size) (by omega) (.int .i64 gv.k) (.int .i64 gv.n) (.string (bs gv.s)))
  clear n0 n1 n2 g0 g1 g2 hHeld HN HBB HRR
  generalize hW : ((v1.setCell ⟨v0.heap.size, 0, none⟩ (.int .i64 gv.k)).setCell ⟨v0.heap.size, 1, none⟩ (.int .i64 gv.n)).setCell ⟨v0.heap.size, 2, none⟩ (.string (bs gv.s)) = v2 at HN2 HB2 HR2 ⊢
  clear hW
  go_wp2_with fail
  refine (must_yes _).mono ?_
  rintro er w3 ⟨rfl, rfl⟩
  have x0 : w3.cell? ⟨v0.heap.size, 0, none⟩ = some (.int .i64 gv.k) := HN2.out.cell 0
  have x1 : w3.cell? ⟨v0.heap.size, 1, none⟩ = some (.int .i64 gv.n) := HN2.out.cell 1
  have x2 : w3.cell? ⟨v0.heap.size, 2, none⟩ = some (.string (bs gv.s)) := HN2.out.cell 2
  have r0 : w3.cell? ⟨(w.heap.size + 1), 0, none⟩ = some (.int .i64 0) := HR2.out.cell 0
  have r1 : w3.cell? ⟨(w.heap.size + 1), 1, none⟩ = some (.int .i64 0) := HR2.out.cell 1
  have r2 : w3.cell? ⟨(w.heap.size + 1), 2, none⟩ = some (.string ⟨#[]⟩) := HR2.out.cell 2
  have f0 := HR2.out.free 0
  have f1 := HR2.out.free 1
  have f2 := HR2.out.free 2
  have HK := Lib.hid (HR2.out.sets3 (.int .i64 gv.k) (.int .i64 gv.n) (.string (bs gv.s)))
  go_wp2
  have k0 := HK.out.cell 0
  have k1 := HK.out.cell 1
  have k2 := HK.out.cell 2
  simp only [List.getElem?_toArray, List.getElem?_cons_zero, List.getElem?_cons_succ] at k0 k1 k2
  refine bodyPost_ret (v := .agg #[.int .i64 gv.k, .int .i64 gv.n, .string (bs gv.s)]) (by simp [results, Tryz.results119, go_sem, k0, k1, k2] <;> rfl) rfl ⟨rfl, below_sets3 HB2.out (w.heap.size + 1) (by omega) _ _ _⟩
def exL (x : List UInt8) : List Value := [.int .i64 3, .int .i64 0, .string (bs x), .slice none 0 0]
def exLs (L : List (List UInt8)) : List Value := L.flatMap exL
theorem exLs_length (L : List (List UInt8)) : (exLs L).length = L.length * 4 := by
  unfold exLs
  induction L with
  | nil => rfl
  | cons x r ih => rw [List.flatMap_cons, List.length_append, ih, List.length_cons]; show 4 + _ = _; omega
theorem exLs_get : ∀ (M : List (List UInt8)) (k : Nat) (h : k < M.length), (exLs M)[k * 4]? = some (.int .i64 3) ∧ (exLs M)[k * 4 + 1]? = some (.int .i64 0) ∧ (exLs M)[k * 4 + 2]? = some (.string (bs M[k])) ∧ (exLs M)[k * 4 + 3]? = some (.slice none 0 0)
  | [], k, h => by simp at h
  | x :: r, 0, h => ⟨rfl, rfl, rfl, rfl⟩
  | x :: r, k + 1, h => by
    have ih := exLs_get r k (by simpa using h)
    have e : ∀ j, (exLs (x :: r))[j + 4]? = (exLs r)[j]? := fun j => by
      show (exL x ++ exLs r)[j + 4]? = _
      rw [List.getElem?_append_right (by show 4 ≤ _; omega)]; rfl
    refine ⟨?_, ?_, ?_, ?_⟩
    · rw [show (k + 1) * 4 = k * 4 + 4 by omega, e]; exact ih.1
    · rw [show (k + 1) * 4 + 1 = (k * 4 + 1) + 4 by omega, e]; exact ih.2.1
    · rw [show (k + 1) * 4 + 2 = (k * 4 + 2) + 4 by omega, e]; exact ih.2.2.1
    · rw [show (k + 1) * 4 + 3 = (k * 4 + 3) + 4 by omega, e]; exact ih.2.2.2
theorem ex_cells {W : World} {ad : Option Addr} {n cap : Nat} {M : List (List UInt8)} (h : CellsAt W (.slice ad n cap) n (exLs M)) {k : Nat} (hk : k < M.length) : ∃ b off, ad = some ⟨b, off, none⟩ ∧ W.cell? ⟨b, off + k * 4, none⟩ = some (.int .i64 3) ∧ W.cell? ⟨b, off + k * 4 + 1, none⟩ = some (.int .i64 0) ∧ W.cell? ⟨b, off + k * 4 + 2, none⟩ = some (.string (bs M[k])) ∧ W.cell? ⟨b, off + k * 4 + 3, none⟩ = some (.slice none 0 0) := by
  obtain ⟨a, c, hs, hc⟩ := h
  obtain ⟨b, off, ha, hcell⟩ := hc (by intro e; have := exLs_length M; rw [e] at this; simp at this; omega)
  cases hs
  obtain ⟨h1, h2, h3, h4⟩ := exLs_get M k hk
  exact ⟨b, off, ha, hcell _ _ h1, by have := hcell _ _ h2; rwa [← Nat.add_assoc] at this, by have := hcell _ _ h3; rwa [← Nat.add_assoc] at this, by have := hcell _ _ h4; rwa [← Nat.add_assoc] at this⟩
def evS (al : Bool) (rd : List (List UInt8)) (M : List Pr) (op : Int) (l : List Vl) : Rs × List (List UInt8) := match l with
  | [a] => uneS al rd M op a
  | [a, b] => (binS op a b, [])
  | _ => (.ab 1009, [])
/-- the operands are variables that hold the values -/
def VarsAre (V : List Pr) (names : List (List UInt8)) (vals : List Vl) : Prop := names.length = vals.length ∧ ∀ k (h : k < names.length) (h2 : k < vals.length), hasK V names[k] = true ∧ getP V names[k] = vals[k]
def OkV (v : Vl) : Prop := -9223372036854775808 ≤ v.n ∧ v.n ≤ 9223372036854775807 ∧ v.s.length ≤ 1000000

theorem grown_drew0 {w w' : World} {row : Option Nat} (h : w.drew.grownBy w' row) : w.grownBy w' row := ⟨h.os, h.tape, h.output, h.size, h.block⟩
set_option maxRecDepth 100000 in
set_option maxHeartbeats 32000000 in
theorem evalOp_any (mb vm om : Nat) (sa ra wa : Option Addr) (sc rc wc : Nat) (M : List Pr) (al : Bool) (rd wri : List (List UInt8)) (op : Int) (aa : Option Addr) (ac : Nat) (V : List Pr) (names : List (List UInt8)) (vals : List Vl) (hop : (vals.length = 1 ∧ (op = 9 ∨ op = 18 ∨ op = 20 ∨ op = 21 ∨ op = 22 ∨ op = 23 ∨ op = 24)) ∨ (vals.length = 2 ∧ 4 ≤ op ∧ op ≤ 19 ∧ op ≠ 9 ∧ op ≠ 18)) (hva : VarsAre V names vals) (hok : ∀ v ∈ vals, OkV v) (w W0 : World) (hX : Bx mb #[.slice sa M.length sc, .bool al, .slice ra rd.length rc, .slice wa wri.length wc, .map (some vm), .map (some om), .int .i64 0, .int .i64 0, .slice none 0 0, .slice none 0 0, .slice none 0 0, .slice none 0 0, .string ⟨#[]⟩, .int .i64 0] 143 w) (hO : Mp om [] w) (hmb : W0.heap.size ≤ mb) (hW0 : Below W0.heap.size W0 w) (hM : CellsAt W0 (.slice sa M.length sc) M.length (prLs M)) (hR : StrS W0 (.slice ra rd.length rc) rd) (hl1 : M.length ≤ 9000000000000) (hl2 : rd.length ≤ 9000000000000) (hV : Mp vm V w) (hA : CellsAt W0 (.slice aa vals.length ac) vals.length (exLs names)) (hLd : Laid W0) :
    Calls Tryz.prog 119 #[.pointer (some ⟨mb, 0, none⟩), .agg #[.int .i64 op, .int .i64 0, .string ⟨#[]⟩, .slice aa vals.length ac]] w fun e w' => e = endR (evS al rd M op vals).1 ∧ w.grownBy w' (some mb) ∧ ∃ rv, Bx mb #[.slice sa M.length sc, .bool al, .slice ra rd.length rc, .slice wa wri.length wc, .map (some vm), .map (some om), .int .i64 0, .int .i64 0, .slice none 0 0, rv, .slice none 0 0, .slice none 0 0, .string ⟨#[]⟩, .int .i64 0] 143 w' ∧ w'.ownsRow w.heap.size 9 1 rv (evS al rd M op vals).2.length ((evS al rd M op vals).2.map strV) := by
  obtain ⟨⟨R, ks⟩, hU⟩ : ∃ x, evS al rd M op vals = x := ⟨_, rfl⟩
  rw [hU]
  simp only
  have hmw := hX.lt
  have hsz := hW0.size
  have HU := Lib.hid hU; have HM := Lib.hid hM; have HRS := Lib.hid hR; have HLD := Lib.hid hLd; have HVA := Lib.hid hva.2; have hnl := hva.1; have HOK := Lib.hid hok; have HAR := Lib.hid hA; clear hU hM hR hLd hva hok hA
  have hvl : vals.length ≤ 2 := by omega
  have h4 : 4 ≤ op := by omega
  have HOP := Lib.hid hop; clear hop
  have n1 : (op == 1) = false := by rw [beq_eq_false_iff_ne]; omega
  have n2 : (op == 2) = false := by rw [beq_eq_false_iff_ne]; omega
  have n3 : (op == 3) = false := by rw [beq_eq_false_iff_ne]; omega
  have hal0 := ((Below.refl w.heap.size w).alloc (Nat.le_refl _) (.cells #[.int .i64 op, .int .i64 0, .string ⟨#[]⟩, .slice aa vals.length ac] 116)).alloc (by simp) (.cells #[.int .i64 0, .int .i64 0, .string ⟨#[]⟩] 52)
  have hr0 := Bx.new (w.alloc (.cells #[.int .i64 op, .int .i64 0, .string ⟨#[]⟩, .slice aa vals.length ac] 116)) #[.int .i64 0, .int .i64 0, .string ⟨#[]⟩] 52
  rw [show (w.alloc (.cells #[.int .i64 op, .int .i64 0, .string ⟨#[]⟩, .slice aa vals.length ac] 116)).heap.size = w.heap.size + 1 by simp] at hr0
  have HE := Lib.hid ((Bx.new w #[.int .i64 op, .int .i64 0, .string ⟨#[]⟩, .slice aa vals.length ac] 116).alloc (.cells #[.int .i64 0, .int .i64 0, .string ⟨#[]⟩] 52))
  have HG := Lib.hid (grown_below hal0 (some mb)); have HRB := Lib.hid hr0; have HX := Lib.hid (hX.call hal0); have HO := Lib.hid (hO.call hal0); have HV := Lib.hid (hV.call hal0); have HW := Lib.hid (btrans hW0 hsz hal0); clear hX hO hV hW0 hal0 hr0
  go_enter Tryz.func119, Tryz.ntmps119
  go_upto_region 1 with (fail)
  generalize hW : (w.alloc (.cells #[.int .i64 op, .int .i64 0, .string ⟨#[]⟩, .slice aa vals.length ac] 116)).alloc (.cells #[.int .i64 0, .int .i64 0, .string ⟨#[]⟩] 52) = v0 at HG HRB HE HX HO HV HW ⊢
  clear hW
  obtain ⟨e0, e1, e2, e3⟩ := HE.out.c4
  have HZ := Lib.hid (own_nil v0 (w.heap.size + 2) 52 3)
  go_wp2
  go_loopw [7, 40] (fun v i wr => ∃ (k : Nat) (A : List Vl), k ≤ vals.length ∧ i = .int .i64 k ∧ A.length = k ∧ Hid (A = vals.take k) ∧ Hid (Bx mb #[.slice sa M.length sc, .bool al, .slice ra rd.length rc, .slice wa wri.length wc, .map (some vm), .map (some om), .int .i64 0, .int .i64 0, .slice none 0 0, .slice none 0 0, .slice none 0 0, .slice none 0 0, .string ⟨#[]⟩, .int .i64 0] 143 wr) ∧ Hid (Mp om [] wr) ∧ Hid (Mp vm V wr) ∧ Hid (Bx w.heap.size #[.int .i64 op, .int .i64 0, .string ⟨#[]⟩, .slice aa vals.length ac] 116 wr) ∧ Hid (Bx (w.heap.size + 1) #[.int .i64 0, .int .i64 0, .string ⟨#[]⟩] 52 wr) ∧ Hid (w.grownBy wr (some mb)) ∧ Hid (wr.ownsRow (w.heap.size + 2) 52 3 v A.length (vlLs A)) ∧ Below W0.heap.size W0 wr) (fun _ i _ => vals.length - (intOf i).toNat)
  case atStart => exact ⟨0, [], Nat.zero_le _, by first | exact True.intro | rfl, rfl, Lib.hid rfl, HX, HO, HV, HE, HRB, HG, HZ, HW.out⟩
  case round =>
    clear e0 e1 e2 e3 HX HO HV HE HRB HG HZ HW
    obtain ⟨k, A, hk, rfl, hAk, HA, HX, HO, HV, HE, HRB, HG, HOW, hW⟩ := hrel
    have HW := Lib.hid hW; clear hW
    obtain ⟨e0, e1, e2, e3⟩ := HE.out.c4
    by_cases hlt : k < vals.length
    · have hlt' : (k : Int) < (vals.length : Int) := by omega
      have hkb : (0 : Int) ≤ (k : Int) ∧ (k : Int) < (vals.length : Int) := ⟨by omega, by omega⟩
      have hw1 : IntKind.i64.wrap ((k : Int) + 1) = (k : Int) + 1 := by rw [IntKind.wrap_i64]; omega
      have hln : k < names.length := by omega
      obtain ⟨b, off, rfl, p0, p1, p2, p3⟩ := ex_cells (HAR.out.below HW.out) hln
      obtain ⟨x, hx⟩ : ∃ x, names[k] = x := ⟨_, rfl⟩
      obtain ⟨y, hy⟩ : ∃ y, vals[k] = y := ⟨_, rfl⟩
      obtain ⟨hin, hgt⟩ := HVA.out k hln hlt
      rw [hx] at p2 hin hgt
      rw [hy] at hgt
      have HY := Lib.hid hy; clear hx hy
      have hb1 := (Below.refl wr.heap.size wr).alloc (Nat.le_refl _) (.cells #[.int .i64 3, .int .i64 0, .string (bs x), .slice none 0 0] 116)
      have HXB := Lib.hid (Bx.new wr #[.int .i64 3, .int .i64 0, .string (bs x), .slice none 0 0] 116)
      have HG := Lib.hid (HG.out.trans (grown_below hb1 _)); have HE := Lib.hid (HE.out.call hb1); have HRB := Lib.hid (HRB.out.call hb1); have HX := Lib.hid (HX.out.call hb1); have HO := Lib.hid (HO.out.call hb1); have HV := Lib.hid (HV.out.call hb1); have HOW := Lib.hid (own_below HOW.out hb1); have HW := Lib.hid (btrans HW.out HW.out.size hb1)
      clear hb1 e0 e1 e2 e3
      go_upto_region 14 with (fail)
      generalize hW : wr.alloc (.cells #[.int .i64 3, .int .i64 0, .string (bs x), .slice none 0 0] 116) = v1 at HXB HG HE HRB HX HO HV HOW HW ⊢
      clear hW p0 p1 p2 p3
      obtain ⟨x0, x1, x2, x3⟩ := HXB.out.c4
      obtain ⟨yk, yn, ys⟩ := y
      have HN := Lib.hid (show A ++ [⟨yk, yn, ys⟩] = vals.take (k + 1) by rw [HA.out, List.take_succ_eq_append_getElem hlt, HY.out])
      go_wp2_with (first | (go_at_call 119; refine (evalVar_any mb vm om sa ra wa sc rc wc M al rd wri V x _ HX.out HV.out hin).mono ?_; rw [hgt]; rintro er w2 ⟨rfl, hb2⟩; simp only [vV]; have HG := Lib.hid (HG.out.trans (grown_below hb2 _)); have HE := Lib.hid (HE.out.call hb2); have HRB := Lib.hid (HRB.out.call hb2); have HX := Lib.hid (HX.out.call hb2); have HO := Lib.hid (HO.out.call hb2); have HV := Lib.hid (HV.out.call hb2); have HOW := Lib.hid (own_below HOW.out hb2); have HW := Lib.hid (btrans HW.out HW.out.size hb2); clear hb2 x0 x1 x2 x3) | (at_builtin; refine wpList_append_val rfl _ _ rfl (w.heap.size + 2) _ A ⟨yk, yn, ys⟩ HOW.out rfl rfl (by omega) W0 W0.heap.size HW.out HRB.out.lt (by omega) ?_; intro v5 w5 hown5 hb5 hg5; have HX := Lib.hid (HX.out.grown hg5 HOW.out (by decide)); have HE := Lib.hid (HE.out.grown hg5 HOW.out (by decide)); have HRB := Lib.hid (HRB.out.kept hg5 (fun e => by have := (HOW.out.lt _ e).1; omega)); have HO := Lib.hid (HO.out.grownv hg5 HOW.out); have HV := Lib.hid (HV.out.grownv hg5 HOW.out); have HG := Lib.hid (HG.out.andThen hg5 (fun j hj => .inl (by have := (HOW.out.lt j hj).1; omega))); have HW := Lib.hid hb5; have HOW := Lib.hid hown5; clear hg5 hb5 hown5))
      go_wp2
      go_roundw
      case rel => exact ⟨k + 1, A ++ [⟨yk, yn, ys⟩], by omega, by go_num, by rw [List.length_append, hAk]; rfl, HN, HX, HO, HV, HE, HRB, HG, HOW, HW.out⟩
      case measure => simp [intOf]; omega
    · have hlt' : ¬ (k : Int) < (vals.length : Int) := by omega
      have hAv : A = vals := HA.out.trans (List.take_of_length_le (by omega))
      subst hAv
      clear HA hlt hk
      obtain ⟨la, lc, rfl⟩ := own_sl HOW.out
      have HCL := Lib.hid (own_valAt HOW.out)
      rcases A with _ | ⟨a, _ | ⟨c, _ | ⟨d, r⟩⟩⟩
      · have := HOP.out; simp at this
      rotate_right
      · simp at hvl
      · simp only [List.length_cons, List.length_nil] at HOW HCL HE e0 e1 e2 e3 hvl ⊢
        obtain ⟨lb, lo, rfl, c0, c1, c2⟩ := vl_cells HCL.out (k := 0) (by simp)
        simp only [List.getElem_cons_zero, Nat.zero_mul, Nat.add_zero] at c0 c1 c2
        have hlbw : w.heap.size + 2 ≤ lb := (HOW.out.lt lb rfl).1
        have HEE := Lib.hid (show Bx w.heap.size #[.int .i64 op, .int .i64 0, .string ⟨#[]⟩, .slice aa 1 ac] 116 wr from HE.out)
        have hsw := HRB.out.lt
        have hnl2 : names.length = 1 := hnl
        have hop1 : op = 9 ∨ op = 18 ∨ op = 20 ∨ op = 21 ∨ op = 22 ∨ op = 23 ∨ op = 24 := (HOP.out.resolve_right (by simp)).2
        have hoa := HOK.out a (by simp)
        have HU1 := Lib.hid (show uneS al rd M op a = (R, ks) from HU.out); clear HU
        rcases R with v | e | e
        · skip
          have hs0 : ((fun w' => Bx w.heap.size #[.int .i64 op, .int .i64 0, .string ⟨#[]⟩, .slice aa 1 ac] 116 w' ∧ w'.cell? ⟨lb, lo, none⟩ = some (.int .i64 a.k) ∧ w'.cell? ⟨lb, lo + 1, none⟩ = some (.int .i64 a.n) ∧ w'.cell? ⟨lb, lo + 2, none⟩ = some (.string (bs a.s)))) wr.drew := ⟨HEE.out, c0, c1, c2⟩
          have HS0 := Lib.hid hs0; clear hs0
          go_wp2_with fail
          refine wp_region_held_drew (S := (fun w' => Bx w.heap.size #[.int .i64 op, .int .i64 0, .string ⟨#[]⟩, .slice aa 1 ac] 116 w' ∧ w'.cell? ⟨lb, lo, none⟩ = some (.int .i64 a.k) ∧ w'.cell? ⟨lb, lo + 1, none⟩ = some (.int .i64 a.n) ∧ w'.cell? ⟨lb, lo + 2, none⟩ = some (.string (bs a.s)))) (by kernel_rfl) ?_ (fun hHeld => ?_)
          · exact HS0.out
          refine tkX (i := 0) 55 ?_
          simp only [sA, sB, sC]
          refine tkX (i := 1) 56 ?_
          simp only [sA, sB, sC]
          refine tkY (i := 2) (v := ?vv14) 57 ?yy14 ?_
          case yy14 =>
            intro wq hSw
            obtain ⟨hE, c0, c1, c2⟩ := id hSw
            obtain ⟨e0, e1, e2, e3⟩ := hE.c4
            clear hSw
            go_simp
            (try with_reducible rfl)
          simp only [sA, sB, sC]
          refine tkX (i := 3) 58 ?_
          simp only [sA, sB, sC]
          refine tkX (i := 4) 59 ?_
          simp only [sA, sB, sC]
          refine tkY (i := 5) (v := ?vv17) 60 ?yy17 ?_
          case yy17 =>
            intro wq hSw
            obtain ⟨hE, c0, c1, c2⟩ := id hSw
            obtain ⟨e0, e1, e2, e3⟩ := hE.c4
            clear hSw
            go_simp
            (try with_reducible rfl)
          simp only [sA, sB, sC]
          refine wpAnyH_ready (rs := [6]) (by kernel_rfl) (by simp) ?_
          refine (AllReadyH.cons rfl (fun K hK => ?_) AllReadyH.nil)
          go_simp
          (refine (unary_any mb vm om sa ra wa sc rc wc M al rd wri op a hop1 hoa.1 hoa.2.1 hoa.2.2 wr.drew W0 HX.out HO.out hmb HW.out.drew HM.out HRS.out hl1 hl2 HLD.out).mono ?_; rw [HU1.out]; rintro er u1 ⟨rfl, hg2, rv, hx2, ho2⟩; simp only [endR, vV])
          have ho2 := own_mono ho2 (show w.heap.size ≤ wr.heap.size from by omega)
          have HG2 := Lib.hid (HG.out.trans (grown_drew0 hg2)); have HX2 := Lib.hid hx2; have HO2 := Lib.hid ho2; have HR2 := Lib.hid (HRB.out.kept (grown_drew0 hg2) (by simp; omega)); have HG0 := Lib.hid hg2; clear hx2 ho2 hg2
          refine hK.out _ _ ?_ (fun hHeld => ?_)
          · exact ⟨hHeld.1.kept HG0.out (by simp; omega), HG0.out.cell hHeld.2.1 (by simp; omega), HG0.out.cell hHeld.2.2.1 (by simp; omega), HG0.out.cell hHeld.2.2.2 (by simp; omega)⟩
          clear hK K
          (try simp only [Act.put, sA, sB, sC])
          have r0 : u1.cell? ⟨(w.heap.size + 1), 0, none⟩ = some (.int .i64 0) := HR2.out.cell 0
          have r1 : u1.cell? ⟨(w.heap.size + 1), 1, none⟩ = some (.int .i64 0) := HR2.out.cell 1
          have r2 : u1.cell? ⟨(w.heap.size + 1), 2, none⟩ = some (.string ⟨#[]⟩) := HR2.out.cell 2
          have f0 := HR2.out.free 0
          have f1 := HR2.out.free 1
          have f2 := HR2.out.free 2
          have HKK := Lib.hid (show ((fun w' => Bx w.heap.size #[.int .i64 op, .int .i64 0, .string ⟨#[]⟩, .slice aa 1 ac] 116 w' ∧ w'.cell? ⟨lb, lo, none⟩ = some (.int .i64 a.k) ∧ w'.cell? ⟨lb, lo + 1, none⟩ = some (.int .i64 a.n) ∧ w'.cell? ⟨lb, lo + 2, none⟩ = some (.string (bs a.s)))) (((u1.setCell ⟨w.heap.size + 1, 0, none⟩ (.int .i64 v.k)).setCell ⟨w.heap.size + 1, 1, none⟩ (.int .i64 v.n)).setCell ⟨w.heap.size + 1, 2, none⟩ (.string (bs v.s))) from ⟨hHeld.1.sets3_ne (c := w.heap.size + 1) (by omega) (.int .i64 v.k) (.int .i64 v.n) (.string (bs v.s)), cell1_set _ (by omega) (cell1_set _ (by omega) (cell1_set _ (by omega) hHeld.2.1)), cell1_set _ (by omega) (cell1_set _ (by omega) (cell1_set _ (by omega) hHeld.2.2.1)), cell1_set _ (by omega) (cell1_set _ (by omega) (cell1_set _ (by omega) hHeld.2.2.2))⟩)
          refine wpAnyH_ready (rs := [7]) (by kernel_rfl) (by simp) ?_
          refine (AllReadyH.cons rfl (fun K hK => ?_) AllReadyH.nil)
          go_simp
          refine hK.out _ _ ?_ (fun hHeld2 => ?_)
          · exact HKK.out
          clear hK K
          (try simp only [Act.put, sA, sB, sC])
          refine wpAnyH_done (by kernel_rfl) ?_ _
          have HK := Lib.hid (HR2.out.sets3 (.int .i64 v.k) (.int .i64 v.n) (.string (bs v.s)))
          have HFIN := Lib.hid (fin_sets3 HG2.out HX2.out HR2.out (by decide) (by omega) (by omega) HO2.out (.int .i64 v.k) (.int .i64 v.n) (.string (bs v.s)))
          clear r0 r1 r2 f0 f1 f2 hHeld hHeld2 HKK HS0
          generalize hWE : ((u1.setCell ⟨w.heap.size + 1, 0, none⟩ (.int .i64 v.k)).setCell ⟨w.heap.size + 1, 1, none⟩ (.int .i64 v.n)).setCell ⟨w.heap.size + 1, 2, none⟩ (.string (bs v.s)) = WE at HK HFIN ⊢
          clear hWE
          go_wp2
          have k0 := HK.out.cell 0
          have k1 := HK.out.cell 1
          have k2 := HK.out.cell 2
          simp only [List.getElem?_toArray, List.getElem?_cons_zero, List.getElem?_cons_succ] at k0 k1 k2
          refine bodyPost_ret (v := .agg #[.int .i64 v.k, .int .i64 v.n, .string (bs v.s)]) (by simp [results, Tryz.results119, go_sem, k0, k1, k2] <;> rfl) rfl ⟨rfl, HFIN.out.1, _, HFIN.out.2.1, HFIN.out.2.2⟩
        · skip
          have hs0 : ((fun w' => Bx w.heap.size #[.int .i64 op, .int .i64 0, .string ⟨#[]⟩, .slice aa 1 ac] 116 w' ∧ w'.cell? ⟨lb, lo, none⟩ = some (.int .i64 a.k) ∧ w'.cell? ⟨lb, lo + 1, none⟩ = some (.int .i64 a.n) ∧ w'.cell? ⟨lb, lo + 2, none⟩ = some (.string (bs a.s)))) wr.drew := ⟨HEE.out, c0, c1, c2⟩
          have HS0 := Lib.hid hs0; clear hs0
          go_wp2_with fail
          refine wp_region_held_drew (S := (fun w' => Bx w.heap.size #[.int .i64 op, .int .i64 0, .string ⟨#[]⟩, .slice aa 1 ac] 116 w' ∧ w'.cell? ⟨lb, lo, none⟩ = some (.int .i64 a.k) ∧ w'.cell? ⟨lb, lo + 1, none⟩ = some (.int .i64 a.n) ∧ w'.cell? ⟨lb, lo + 2, none⟩ = some (.string (bs a.s)))) (by kernel_rfl) ?_ (fun hHeld => ?_)
          · exact HS0.out
          refine tkX (i := 0) 55 ?_
          simp only [sA, sB, sC]
          refine tkX (i := 1) 56 ?_
          simp only [sA, sB, sC]
          refine tkY (i := 2) (v := ?vv20) 57 ?yy20 ?_
          case yy20 =>
            intro wq hSw
            obtain ⟨hE, c0, c1, c2⟩ := id hSw
            obtain ⟨e0, e1, e2, e3⟩ := hE.c4
            clear hSw
            go_simp
            (try with_reducible rfl)
          simp only [sA, sB, sC]
          refine tkX (i := 3) 58 ?_
          simp only [sA, sB, sC]
          refine tkX (i := 4) 59 ?_
          simp only [sA, sB, sC]
          refine tkY (i := 5) (v := ?vv23) 60 ?yy23 ?_
          case yy23 =>
            intro wq hSw
            obtain ⟨hE, c0, c1, c2⟩ := id hSw
            obtain ⟨e0, e1, e2, e3⟩ := hE.c4
            clear hSw
            go_simp
            (try with_reducible rfl)
          simp only [sA, sB, sC]
          refine wpAnyH_ready (rs := [6]) (by kernel_rfl) (by simp) ?_
          refine (AllReadyH.cons rfl (fun K hK => ?_) AllReadyH.nil)
          go_simp
          (refine (unary_any mb vm om sa ra wa sc rc wc M al rd wri op a hop1 hoa.1 hoa.2.1 hoa.2.2 wr.drew W0 HX.out HO.out hmb HW.out.drew HM.out HRS.out hl1 hl2 HLD.out).mono ?_; rw [HU1.out]; rintro er u1 ⟨rfl, hg2, rv, hx2, ho2⟩; simp only [endR])
          have ho2 := own_mono ho2 (show w.heap.size ≤ wr.heap.size from by omega)
          have HG2 := Lib.hid (HG.out.trans (grown_drew0 hg2)); have HX2 := Lib.hid hx2; have HO2 := Lib.hid ho2; have HR2 := Lib.hid (HRB.out.kept (grown_drew0 hg2) (by simp; omega)); have HG0 := Lib.hid hg2; clear hx2 ho2 hg2
          go_wp2
          exact ⟨(by first | exact True.intro | rfl), rfl, HG2.out, _, HX2.out, HO2.out⟩
        · skip
          have hs0 : ((fun w' => Bx w.heap.size #[.int .i64 op, .int .i64 0, .string ⟨#[]⟩, .slice aa 1 ac] 116 w' ∧ w'.cell? ⟨lb, lo, none⟩ = some (.int .i64 a.k) ∧ w'.cell? ⟨lb, lo + 1, none⟩ = some (.int .i64 a.n) ∧ w'.cell? ⟨lb, lo + 2, none⟩ = some (.string (bs a.s)))) wr.drew := ⟨HEE.out, c0, c1, c2⟩
          have HS0 := Lib.hid hs0; clear hs0
          go_wp2_with fail
          refine wp_region_held_drew (S := (fun w' => Bx w.heap.size #[.int .i64 op, .int .i64 0, .string ⟨#[]⟩, .slice aa 1 ac] 116 w' ∧ w'.cell? ⟨lb, lo, none⟩ = some (.int .i64 a.k) ∧ w'.cell? ⟨lb, lo + 1, none⟩ = some (.int .i64 a.n) ∧ w'.cell? ⟨lb, lo + 2, none⟩ = some (.string (bs a.s)))) (by kernel_rfl) ?_ (fun hHeld => ?_)
          · exact HS0.out
          refine tkX (i := 0) 55 ?_
          simp only [sA, sB, sC]
          refine tkX (i := 1) 56 ?_
          simp only [sA, sB, sC]
          refine tkY (i := 2) (v := ?vv26) 57 ?yy26 ?_
          case yy26 =>
            intro wq hSw
            obtain ⟨hE, c0, c1, c2⟩ := id hSw
            obtain ⟨e0, e1, e2, e3⟩ := hE.c4
            clear hSw
            go_simp
            (try with_reducible rfl)
          simp only [sA, sB, sC]
          refine tkX (i := 3) 58 ?_
          simp only [sA, sB, sC]
          refine tkX (i := 4) 59 ?_
          simp only [sA, sB, sC]
          refine tkY (i := 5) (v := ?vv29) 60 ?yy29 ?_
          case yy29 =>
            intro wq hSw
            obtain ⟨hE, c0, c1, c2⟩ := id hSw
            obtain ⟨e0, e1, e2, e3⟩ := hE.c4
            clear hSw
            go_simp
            (try with_reducible rfl)
          simp only [sA, sB, sC]
          refine wpAnyH_ready (rs := [6]) (by kernel_rfl) (by simp) ?_
          refine (AllReadyH.cons rfl (fun K hK => ?_) AllReadyH.nil)
          go_simp
          (refine (unary_any mb vm om sa ra wa sc rc wc M al rd wri op a hop1 hoa.1 hoa.2.1 hoa.2.2 wr.drew W0 HX.out HO.out hmb HW.out.drew HM.out HRS.out hl1 hl2 HLD.out).mono ?_; rw [HU1.out]; rintro er u1 ⟨rfl, hg2, rv, hx2, ho2⟩; simp only [endR])
          have ho2 := own_mono ho2 (show w.heap.size ≤ wr.heap.size from by omega)
          have HG2 := Lib.hid (HG.out.trans (grown_drew0 hg2)); have HX2 := Lib.hid hx2; have HO2 := Lib.hid ho2; have HR2 := Lib.hid (HRB.out.kept (grown_drew0 hg2) (by simp; omega)); have HG0 := Lib.hid hg2; clear hx2 ho2 hg2
          go_wp2
          exact ⟨(by first | exact True.intro | rfl), rfl, HG2.out, _, HX2.out, HO2.out⟩
      · simp only [List.length_cons, List.length_nil] at HOW HCL HE e0 e1 e2 e3 hvl ⊢
        obtain ⟨lb, lo, rfl, c0, c1, c2⟩ := vl_cells HCL.out (k := 0) (by simp)
        simp only [List.getElem_cons_zero, Nat.zero_mul, Nat.add_zero] at c0 c1 c2
        obtain ⟨lb2, lo2, hlbe, c3, c4, c5⟩ := vl_cells HCL.out (k := 1) (by simp)
        cases hlbe
        simp only [List.getElem_cons_succ, List.getElem_cons_zero, Nat.one_mul] at c3 c4 c5
        have hlbw : w.heap.size + 2 ≤ lb := (HOW.out.lt lb rfl).1
        have HEE := Lib.hid (show Bx w.heap.size #[.int .i64 op, .int .i64 0, .string ⟨#[]⟩, .slice aa 2 ac] 116 wr from HE.out)
        have hsw := HRB.out.lt
        have hnl2 : names.length = 2 := hnl
        have hop2 : 4 ≤ op ∧ op ≤ 19 ∧ op ≠ 9 ∧ op ≠ 18 := (HOP.out.resolve_left (by simp)).2
        have hoa := HOK.out a (by simp)
        have hoc := HOK.out c (by simp)
        have hUU := pair_eq (show (binS op a c, ([] : List (List UInt8))) = (R, ks) from HU.out)
        obtain ⟨hU1, rfl⟩ := hUU
        have HU1 := Lib.hid hU1; clear HU hU1
        rcases R with v | e | e
        · skip
          have hs0 : ((fun w' => Bx w.heap.size #[.int .i64 op, .int .i64 0, .string ⟨#[]⟩, .slice aa 2 ac] 116 w' ∧ w'.cell? ⟨lb, lo, none⟩ = some (.int .i64 a.k) ∧ w'.cell? ⟨lb, lo + 1, none⟩ = some (.int .i64 a.n) ∧ w'.cell? ⟨lb, lo + 2, none⟩ = some (.string (bs a.s)) ∧ w'.cell? ⟨lb, lo + 3, none⟩ = some (.int .i64 c.k) ∧ w'.cell? ⟨lb, lo + 3 + 1, none⟩ = some (.int .i64 c.n) ∧ w'.cell? ⟨lb, lo + 3 + 2, none⟩ = some (.string (bs c.s)))) wr.drew := ⟨HEE.out, c0, c1, c2, c3, c4, c5⟩
          have HS0 := Lib.hid hs0; clear hs0
          go_wp2_with fail
          refine wp_region_held_drew (S := (fun w' => Bx w.heap.size #[.int .i64 op, .int .i64 0, .string ⟨#[]⟩, .slice aa 2 ac] 116 w' ∧ w'.cell? ⟨lb, lo, none⟩ = some (.int .i64 a.k) ∧ w'.cell? ⟨lb, lo + 1, none⟩ = some (.int .i64 a.n) ∧ w'.cell? ⟨lb, lo + 2, none⟩ = some (.string (bs a.s)) ∧ w'.cell? ⟨lb, lo + 3, none⟩ = some (.int .i64 c.k) ∧ w'.cell? ⟨lb, lo + 3 + 1, none⟩ = some (.int .i64 c.n) ∧ w'.cell? ⟨lb, lo + 3 + 2, none⟩ = some (.string (bs c.s)))) (by kernel_rfl) ?_ (fun hHeld => ?_)
          · exact HS0.out
          refine tkX (i := 0) 64 ?_
          simp only [sA, sB, sC]
          refine tkY (i := 1) (v := ?vv31) 65 ?yy31 ?_
          case yy31 =>
            intro wq hSw
            obtain ⟨hE, c0, c1, c2, c3, c4, c5⟩ := id hSw
            obtain ⟨e0, e1, e2, e3⟩ := hE.c4
            clear hSw
            go_simp
            (try with_reducible rfl)
          simp only [sA, sB, sC]
          refine tkX (i := 2) 66 ?_
          simp only [sA, sB, sC]
          refine tkX (i := 3) 67 ?_
          simp only [sA, sB, sC]
          refine tkY (i := 4) (v := ?vv34) 68 ?yy34 ?_
          case yy34 =>
            intro wq hSw
            obtain ⟨hE, c0, c1, c2, c3, c4, c5⟩ := id hSw
            obtain ⟨e0, e1, e2, e3⟩ := hE.c4
            clear hSw
            go_simp
            (try with_reducible rfl)
          simp only [sA, sB, sC]
          refine tkX (i := 5) 69 ?_
          simp only [sA, sB, sC]
          refine tkX (i := 6) 70 ?_
          simp only [sA, sB, sC]
          refine tkY (i := 7) (v := ?vv37) 71 ?yy37 ?_
          case yy37 =>
            intro wq hSw
            obtain ⟨hE, c0, c1, c2, c3, c4, c5⟩ := id hSw
            obtain ⟨e0, e1, e2, e3⟩ := hE.c4
            clear hSw
            go_simp
            (try with_reducible rfl)
          simp only [sA, sB, sC]
          refine wpAnyH_ready (rs := [8]) (by kernel_rfl) (by simp) ?_
          refine (AllReadyH.cons rfl (fun K hK => ?_) AllReadyH.nil)
          go_simp
          (refine (ibinary_any op a c wr.drew hop2.1 hop2.2.1 hop2.2.2.1 hop2.2.2.2 hoa.1 hoa.2.1 hoc.1 hoc.2.1 hoa.2.2 hoc.2.2).mono ?_; rw [HU1.out]; rintro er u1 ⟨rfl, hbb⟩; simp only [endR, vV])
          have hg2 : wr.drew.grownBy u1 (some mb) := grown_below hbb _
          have hx2 := HX.out.call (show Below wr.heap.size wr u1 from ⟨hbb.os, hbb.tape, hbb.output, hbb.size, hbb.block⟩)
          have ho2 := own_nil u1 w.heap.size 9 1
          clear hbb
          have HG2 := Lib.hid (HG.out.trans (grown_drew0 hg2)); have HX2 := Lib.hid hx2; have HO2 := Lib.hid ho2; have HR2 := Lib.hid (HRB.out.kept (grown_drew0 hg2) (by simp; omega)); have HG0 := Lib.hid hg2; clear hx2 ho2 hg2
          refine hK.out _ _ ?_ (fun hHeld => ?_)
          · exact ⟨hHeld.1.kept HG0.out (by simp; omega), HG0.out.cell hHeld.2.1 (by simp; omega), HG0.out.cell hHeld.2.2.1 (by simp; omega), HG0.out.cell hHeld.2.2.2.1 (by simp; omega), HG0.out.cell hHeld.2.2.2.2.1 (by simp; omega), HG0.out.cell hHeld.2.2.2.2.2.1 (by simp; omega), HG0.out.cell hHeld.2.2.2.2.2.2 (by simp; omega)⟩
          clear hK K
          (try simp only [Act.put, sA, sB, sC])
          have r0 : u1.cell? ⟨(w.heap.size + 1), 0, none⟩ = some (.int .i64 0) := HR2.out.cell 0
          have r1 : u1.cell? ⟨(w.heap.size + 1), 1, none⟩ = some (.int .i64 0) := HR2.out.cell 1
          have r2 : u1.cell? ⟨(w.heap.size + 1), 2, none⟩ = some (.string ⟨#[]⟩) := HR2.out.cell 2
          have f0 := HR2.out.free 0
          have f1 := HR2.out.free 1
          have f2 := HR2.out.free 2
          have HKK := Lib.hid (show ((fun w' => Bx w.heap.size #[.int .i64 op, .int .i64 0, .string ⟨#[]⟩, .slice aa 2 ac] 116 w' ∧ w'.cell? ⟨lb, lo, none⟩ = some (.int .i64 a.k) ∧ w'.cell? ⟨lb, lo + 1, none⟩ = some (.int .i64 a.n) ∧ w'.cell? ⟨lb, lo + 2, none⟩ = some (.string (bs a.s)) ∧ w'.cell? ⟨lb, lo + 3, none⟩ = some (.int .i64 c.k) ∧ w'.cell? ⟨lb, lo + 3 + 1, none⟩ = some (.int .i64 c.n) ∧ w'.cell? ⟨lb, lo + 3 + 2, none⟩ = some (.string (bs c.s)))) (((u1.setCell ⟨w.heap.size + 1, 0, none⟩ (.int .i64 v.k)).setCell ⟨w.heap.size + 1, 1, none⟩ (.int .i64 v.n)).setCell ⟨w.heap.size + 1, 2, none⟩ (.string (bs v.s))) from ⟨hHeld.1.sets3_ne (c := w.heap.size + 1) (by omega) (.int .i64 v.k) (.int .i64 v.n) (.string (bs v.s)), cell1_set _ (by omega) (cell1_set _ (by omega) (cell1_set _ (by omega) hHeld.2.1)), cell1_set _ (by omega) (cell1_set _ (by omega) (cell1_set _ (by omega) hHeld.2.2.1)), cell1_set _ (by omega) (cell1_set _ (by omega) (cell1_set _ (by omega) hHeld.2.2.2.1)), cell1_set _ (by omega) (cell1_set _ (by omega) (cell1_set _ (by omega) hHeld.2.2.2.2.1)), cell1_set _ (by omega) (cell1_set _ (by omega) (cell1_set _ (by omega) hHeld.2.2.2.2.2.1)), cell1_set _ (by omega) (cell1_set _ (by omega) (cell1_set _ (by omega) hHeld.2.2.2.2.2.2))⟩)
          refine wpAnyH_ready (rs := [9]) (by kernel_rfl) (by simp) ?_
          refine (AllReadyH.cons rfl (fun K hK => ?_) AllReadyH.nil)
          go_simp
          refine hK.out _ _ ?_ (fun hHeld2 => ?_)
          · exact HKK.out
          clear hK K
          (try simp only [Act.put, sA, sB, sC])
          refine wpAnyH_done (by kernel_rfl) ?_ _
          have HK := Lib.hid (HR2.out.sets3 (.int .i64 v.k) (.int .i64 v.n) (.string (bs v.s)))
          have HFIN := Lib.hid (fin_sets3 HG2.out HX2.out HR2.out (by decide) (by omega) (by omega) HO2.out (.int .i64 v.k) (.int .i64 v.n) (.string (bs v.s)))
          clear r0 r1 r2 f0 f1 f2 hHeld hHeld2 HKK HS0
          generalize hWE : ((u1.setCell ⟨w.heap.size + 1, 0, none⟩ (.int .i64 v.k)).setCell ⟨w.heap.size + 1, 1, none⟩ (.int .i64 v.n)).setCell ⟨w.heap.size + 1, 2, none⟩ (.string (bs v.s)) = WE at HK HFIN ⊢
          clear hWE
          go_wp2
          have k0 := HK.out.cell 0
          have k1 := HK.out.cell 1
          have k2 := HK.out.cell 2
          simp only [List.getElem?_toArray, List.getElem?_cons_zero, List.getElem?_cons_succ] at k0 k1 k2
          refine bodyPost_ret (v := .agg #[.int .i64 v.k, .int .i64 v.n, .string (bs v.s)]) (by simp [results, Tryz.results119, go_sem, k0, k1, k2] <;> rfl) rfl ⟨rfl, HFIN.out.1, _, HFIN.out.2.1, HFIN.out.2.2⟩
        · skip
          have hs0 : ((fun w' => Bx w.heap.size #[.int .i64 op, .int .i64 0, .string ⟨#[]⟩, .slice aa 2 ac] 116 w' ∧ w'.cell? ⟨lb, lo, none⟩ = some (.int .i64 a.k) ∧ w'.cell? ⟨lb, lo + 1, none⟩ = some (.int .i64 a.n) ∧ w'.cell? ⟨lb, lo + 2, none⟩ = some (.string (bs a.s)) ∧ w'.cell? ⟨lb, lo + 3, none⟩ = some (.int .i64 c.k) ∧ w'.cell? ⟨lb, lo + 3 + 1, none⟩ = some (.int .i64 c.n) ∧ w'.cell? ⟨lb, lo + 3 + 2, none⟩ = some (.string (bs c.s)))) wr.drew := ⟨HEE.out, c0, c1, c2, c3, c4, c5⟩
          have HS0 := Lib.hid hs0; clear hs0
          go_wp2_with fail
          refine wp_region_held_drew (S := (fun w' => Bx w.heap.size #[.int .i64 op, .int .i64 0, .string ⟨#[]⟩, .slice aa 2 ac] 116 w' ∧ w'.cell? ⟨lb, lo, none⟩ = some (.int .i64 a.k) ∧ w'.cell? ⟨lb, lo + 1, none⟩ = some (.int .i64 a.n) ∧ w'.cell? ⟨lb, lo + 2, none⟩ = some (.string (bs a.s)) ∧ w'.cell? ⟨lb, lo + 3, none⟩ = some (.int .i64 c.k) ∧ w'.cell? ⟨lb, lo + 3 + 1, none⟩ = some (.int .i64 c.n) ∧ w'.cell? ⟨lb, lo + 3 + 2, none⟩ = some (.string (bs c.s)))) (by kernel_rfl) ?_ (fun hHeld => ?_)
          · exact HS0.out
          refine tkX (i := 0) 64 ?_
          simp only [sA, sB, sC]
          refine tkY (i := 1) (v := ?vv39) 65 ?yy39 ?_
          case yy39 =>
            intro wq hSw
            obtain ⟨hE, c0, c1, c2, c3, c4, c5⟩ := id hSw
            obtain ⟨e0, e1, e2, e3⟩ := hE.c4
            clear hSw
            go_simp
            (try with_reducible rfl)
          simp only [sA, sB, sC]
          refine tkX (i := 2) 66 ?_
          simp only [sA, sB, sC]
          refine tkX (i := 3) 67 ?_
          simp only [sA, sB, sC]
          refine tkY (i := 4) (v := ?vv42) 68 ?yy42 ?_
          case yy42 =>
            intro wq hSw
            obtain ⟨hE, c0, c1, c2, c3, c4, c5⟩ := id hSw
            obtain ⟨e0, e1, e2, e3⟩ := hE.c4
            clear hSw
            go_simp
            (try with_reducible rfl)
          simp only [sA, sB, sC]
          refine tkX (i := 5) 69 ?_
          simp only [sA, sB, sC]
          refine tkX (i := 6) 70 ?_
          simp only [sA, sB, sC]
          refine tkY (i := 7) (v := ?vv45) 71 ?yy45 ?_
          case yy45 =>
            intro wq hSw
            obtain ⟨hE, c0, c1, c2, c3, c4, c5⟩ := id hSw
            obtain ⟨e0, e1, e2, e3⟩ := hE.c4
            clear hSw
            go_simp
            (try with_reducible rfl)
          simp only [sA, sB, sC]
          refine wpAnyH_ready (rs := [8]) (by kernel_rfl) (by simp) ?_
          refine (AllReadyH.cons rfl (fun K hK => ?_) AllReadyH.nil)
          go_simp
          (refine (ibinary_any op a c wr.drew hop2.1 hop2.2.1 hop2.2.2.1 hop2.2.2.2 hoa.1 hoa.2.1 hoc.1 hoc.2.1 hoa.2.2 hoc.2.2).mono ?_; rw [HU1.out]; rintro er u1 ⟨rfl, hbb⟩; simp only [endR])
          have hg2 : wr.drew.grownBy u1 (some mb) := grown_below hbb _
          have hx2 := HX.out.call (show Below wr.heap.size wr u1 from ⟨hbb.os, hbb.tape, hbb.output, hbb.size, hbb.block⟩)
          have ho2 := own_nil u1 w.heap.size 9 1
          clear hbb
          have HG2 := Lib.hid (HG.out.trans (grown_drew0 hg2)); have HX2 := Lib.hid hx2; have HO2 := Lib.hid ho2; have HR2 := Lib.hid (HRB.out.kept (grown_drew0 hg2) (by simp; omega)); have HG0 := Lib.hid hg2; clear hx2 ho2 hg2
          go_wp2
          exact ⟨(by first | exact True.intro | rfl), rfl, HG2.out, _, HX2.out, HO2.out⟩
        · skip
          have hs0 : ((fun w' => Bx w.heap.size #[.int .i64 op, .int .i64 0, .string ⟨#[]⟩, .slice aa 2 ac] 116 w' ∧ w'.cell? ⟨lb, lo, none⟩ = some (.int .i64 a.k) ∧ w'.cell? ⟨lb, lo + 1, none⟩ = some (.int .i64 a.n) ∧ w'.cell? ⟨lb, lo + 2, none⟩ = some (.string (bs a.s)) ∧ w'.cell? ⟨lb, lo + 3, none⟩ = some (.int .i64 c.k) ∧ w'.cell? ⟨lb, lo + 3 + 1, none⟩ = some (.int .i64 c.n) ∧ w'.cell? ⟨lb, lo + 3 + 2, none⟩ = some (.string (bs c.s)))) wr.drew := ⟨HEE.out, c0, c1, c2, c3, c4, c5⟩
          have HS0 := Lib.hid hs0; clear hs0
          go_wp2_with fail
          refine wp_region_held_drew (S := (fun w' => Bx w.heap.size #[.int .i64 op, .int .i64 0, .string ⟨#[]⟩, .slice aa 2 ac] 116 w' ∧ w'.cell? ⟨lb, lo, none⟩ = some (.int .i64 a.k) ∧ w'.cell? ⟨lb, lo + 1, none⟩ = some (.int .i64 a.n) ∧ w'.cell? ⟨lb, lo + 2, none⟩ = some (.string (bs a.s)) ∧ w'.cell? ⟨lb, lo + 3, none⟩ = some (.int .i64 c.k) ∧ w'.cell? ⟨lb, lo + 3 + 1, none⟩ = some (.int .i64 c.n) ∧ w'.cell? ⟨lb, lo + 3 + 2, none⟩ = some (.string (bs c.s)))) (by kernel_rfl) ?_ (fun hHeld => ?_)
          · exact HS0.out
          refine tkX (i := 0) 64 ?_
          simp only [sA, sB, sC]
          refine tkY (i := 1) (v := ?vv47) 65 ?yy47 ?_
          case yy47 =>
            intro wq hSw
            obtain ⟨hE, c0, c1, c2, c3, c4, c5⟩ := id hSw
            obtain ⟨e0, e1, e2, e3⟩ := hE.c4
            clear hSw
            go_simp
            (try with_reducible rfl)
          simp only [sA, sB, sC]
          refine tkX (i := 2) 66 ?_
          simp only [sA, sB, sC]
          refine tkX (i := 3) 67 ?_
          simp only [sA, sB, sC]
          refine tkY (i := 4) (v := ?vv50) 68 ?yy50 ?_
          case yy50 =>
            intro wq hSw
            obtain ⟨hE, c0, c1, c2, c3, c4, c5⟩ := id hSw
            obtain ⟨e0, e1, e2, e3⟩ := hE.c4
            clear hSw
            go_simp
            (try with_reducible rfl)
          simp only [sA, sB, sC]
          refine tkX (i := 5) 69 ?_
          simp only [sA, sB, sC]
          refine tkX (i := 6) 70 ?_
          simp only [sA, sB, sC]
          refine tkY (i := 7) (v := ?vv53) 71 ?yy53 ?_
          case yy53 =>
            intro wq hSw
            obtain ⟨hE, c0, c1, c2, c3, c4, c5⟩ := id hSw
            obtain ⟨e0, e1, e2, e3⟩ := hE.c4
            clear hSw
            go_simp
            (try with_reducible rfl)
          simp only [sA, sB, sC]
          refine wpAnyH_ready (rs := [8]) (by kernel_rfl) (by simp) ?_
          refine (AllReadyH.cons rfl (fun K hK => ?_) AllReadyH.nil)
          go_simp
          (refine (ibinary_any op a c wr.drew hop2.1 hop2.2.1 hop2.2.2.1 hop2.2.2.2 hoa.1 hoa.2.1 hoc.1 hoc.2.1 hoa.2.2 hoc.2.2).mono ?_; rw [HU1.out]; rintro er u1 ⟨rfl, hbb⟩; simp only [endR])
          have hg2 : wr.drew.grownBy u1 (some mb) := grown_below hbb _
          have hx2 := HX.out.call (show Below wr.heap.size wr u1 from ⟨hbb.os, hbb.tape, hbb.output, hbb.size, hbb.block⟩)
          have ho2 := own_nil u1 w.heap.size 9 1
          clear hbb
          have HG2 := Lib.hid (HG.out.trans (grown_drew0 hg2)); have HX2 := Lib.hid hx2; have HO2 := Lib.hid ho2; have HR2 := Lib.hid (HRB.out.kept (grown_drew0 hg2) (by simp; omega)); have HG0 := Lib.hid hg2; clear hx2 ho2 hg2
          go_wp2
          exact ⟨(by first | exact True.intro | rfl), rfl, HG2.out, _, HX2.out, HO2.out⟩
end Go.Proofs.YtnglaegofhpleaaGreatDoor
namespace Go.Proofs.YtnglaegofhpleaaGreatDoor
open Go.RowKit

set_option maxRecDepth 100000 in
set_option maxHeartbeats 8000000 in
theorem nodeVar_any (x : List UInt8) (hx : isNm x = true) (hlx : x.length ≤ 1000000) (d : Int) (hd : d ≤ 12) (w : World) :
    Calls Tryz.prog 155 #[.agg #[.int .i64 3, .int .i64 0, .string (bs x), .slice none 0 0], .int .i64 d] w fun e w' => e = .returned (.int .i64 0) ∧ Below w.heap.size w w' := by
  have td : ¬ (12 < d) := by omega
  have hal := (Below.refl w.heap.size w).alloc (Nat.le_refl _) (.cells #[.int .i64 3, .int .i64 0, .string (bs x), .slice none 0 0] 116)
  have HX := Lib.hid (Bx.new w #[.int .i64 3, .int .i64 0, .string (bs x), .slice none 0 0] 116)
  have HB := Lib.hid hal; clear hal
  go_enter Tryz.func155, Tryz.ntmps155
  go_upto_region 1 with (fail)
  generalize hW : w.alloc (.cells #[.int .i64 3, .int .i64 0, .string (bs x), .slice none 0 0] 116) = v0 at HX HB ⊢
  clear hW
  obtain ⟨e0, e1, e2, e3⟩ := HX.out.c4
  go_wp2_with fail
  refine (Arity_any 3 _).mono ?_
  rw [show arS 3 = 0 from rfl]
  rintro er w1 ⟨rfl, rfl⟩
  go_wp2_with fail
  refine (IsName_any x hlx _).mono ?_
  rw [hx]
  rintro er w1 ⟨rfl, hb1⟩
  clear e0 e1 e2 e3
  have HX := Lib.hid (HX.out.call hb1); have HB := Lib.hid (btrans HB.out HB.out.size hb1); clear hb1
  obtain ⟨e0, e1, e2, e3⟩ := HX.out.c4
  go_wp2
  go_ret
  exact ⟨rfl, HB.out⟩
set_option maxRecDepth 100000 in
set_option maxHeartbeats 8000000 in
theorem nodeOp_any (op : Int) (n : Nat) (aa : Option Addr) (ac : Nat) (h4 : 4 ≤ op) (hn : arS op = (n : Int)) (w : World) :
    Calls Tryz.prog 155 #[.agg #[.int .i64 op, .int .i64 0, .string ⟨#[]⟩, .slice aa n ac], .int .i64 1] w fun e w' => e = .returned (.int .i64 0) ∧ Below w.heap.size w w' := by
  have q1 : (op == 1) = false := by rw [beq_eq_false_iff_ne]; omega
  have q2 : (op == 2) = false := by rw [beq_eq_false_iff_ne]; omega
  have q3 : (op == 3) = false := by rw [beq_eq_false_iff_ne]; omega
  have p1 : (op != 1) = true := by rw [bne_iff_ne]; omega
  have p2 : (op != 2) = true := by rw [bne_iff_ne]; omega
  have p3 : (op != 3) = true := by rw [bne_iff_ne]; omega
  have hal := (Below.refl w.heap.size w).alloc (Nat.le_refl _) (.cells #[.int .i64 op, .int .i64 0, .string ⟨#[]⟩, .slice aa n ac] 116)
  have HX := Lib.hid (Bx.new w #[.int .i64 op, .int .i64 0, .string ⟨#[]⟩, .slice aa n ac] 116)
  have HB := Lib.hid hal; clear hal
  go_enter Tryz.func155, Tryz.ntmps155
  go_upto_region 1 with (fail)
  generalize hW : w.alloc (.cells #[.int .i64 op, .int .i64 0, .string ⟨#[]⟩, .slice aa n ac] 116) = v0 at HX HB ⊢
  clear hW
  obtain ⟨e0, e1, e2, e3⟩ := HX.out.c4
  go_wp2_with fail
  refine (Arity_any op _).mono ?_
  rw [hn]
  rintro er w1 ⟨rfl, rfl⟩
  go_wp2
  go_ret
  exact ⟨rfl, HB.out⟩
set_option maxRecDepth 100000 in
set_option maxHeartbeats 8000000 in
theorem checkVar_any (x : List UInt8) (hx : isNm x = true) (hlx : x.length ≤ 1000000) (d : Int) (hd : d ≤ 12) (w : World) :
    Calls Tryz.prog 132 #[.agg #[.int .i64 3, .int .i64 0, .string (bs x), .slice none 0 0], .int .i64 d] w fun e w' => e = .returned (.int .i64 0) ∧ Below w.heap.size w w' := by
  have hal := (Below.refl w.heap.size w).alloc (Nat.le_refl _) (.cells #[.int .i64 3, .int .i64 0, .string (bs x), .slice none 0 0] 116)
  have HX := Lib.hid (Bx.new w #[.int .i64 3, .int .i64 0, .string (bs x), .slice none 0 0] 116)
  have HB := Lib.hid hal; clear hal
  go_enter Tryz.func132, Tryz.ntmps132
  go_upto_region 1 with (fail)
  generalize hW : w.alloc (.cells #[.int .i64 3, .int .i64 0, .string (bs x), .slice none 0 0] 116) = v0 at HX HB ⊢
  clear hW
  obtain ⟨e0, e1, e2, e3⟩ := HX.out.c4
  go_wp2_with fail
  refine (nodeVar_any x hx hlx d hd _).mono ?_
  rintro er w1 ⟨rfl, hb1⟩
  clear e0 e1 e2 e3
  have HX := Lib.hid (HX.out.call hb1); have HB := Lib.hid (btrans HB.out HB.out.size hb1); clear hb1
  obtain ⟨e0, e1, e2, e3⟩ := HX.out.c4
  go_wp2
  go_loopw [4, 18] (fun v i wr => i = .int .i64 0 ∧ Below w.heap.size w wr) (fun _ i _ => 0)
  case atStart => exact ⟨rfl, HB.out⟩
  case round =>
    obtain ⟨rfl, hb⟩ := hrel
    have HB := Lib.hid hb; clear hb HX e0 e1 e2 e3
    go_wp2
    go_ret
    exact ⟨rfl, HB.out⟩
set_option maxRecDepth 100000 in
set_option maxHeartbeats 16000000 in
theorem checkOp_any (op : Int) (n : Nat) (aa : Option Addr) (ac : Nat) (names : List (List UInt8)) (h4 : 4 ≤ op) (hn : arS op = (n : Int)) (hnl : names.length = n) (hnb : n ≤ 2) (hnm : ∀ x ∈ names, isNm x = true ∧ x.length ≤ 1000000) (w : World) (hA : CellsAt w (.slice aa n ac) n (exLs names)) :
    Calls Tryz.prog 132 #[.agg #[.int .i64 op, .int .i64 0, .string ⟨#[]⟩, .slice aa n ac], .int .i64 1] w fun e w' => e = .returned (.int .i64 0) ∧ Below w.heap.size w w' := by
  have HA := Lib.hid hA; have HNM := Lib.hid hnm; have HN := Lib.hid hn; clear hA hnm hn
  have hal := (Below.refl w.heap.size w).alloc (Nat.le_refl _) (.cells #[.int .i64 op, .int .i64 0, .string ⟨#[]⟩, .slice aa n ac] 116)
  have HX := Lib.hid (Bx.new w #[.int .i64 op, .int .i64 0, .string ⟨#[]⟩, .slice aa n ac] 116)
  have HB := Lib.hid hal; clear hal
  go_enter Tryz.func132, Tryz.ntmps132
  go_upto_region 1 with (fail)
  generalize hW : w.alloc (.cells #[.int .i64 op, .int .i64 0, .string ⟨#[]⟩, .slice aa n ac] 116) = v0 at HX HB ⊢
  clear hW
  obtain ⟨e0, e1, e2, e3⟩ := HX.out.c4
  go_wp2_with fail
  refine (nodeOp_any op n aa ac h4 HN.out _).mono ?_
  rintro er w1 ⟨rfl, hb1⟩
  clear e0 e1 e2 e3
  have HX := Lib.hid (HX.out.call hb1); have HB := Lib.hid (btrans HB.out HB.out.size hb1); clear hb1
  obtain ⟨e0, e1, e2, e3⟩ := HX.out.c4
  clear e0 e1 e2 e3
  obtain ⟨e0, e1, e2, e3⟩ := HX.out.c4
  go_wp2
  go_loopw [4, 18] (fun v i wr => ∃ k : Nat, k ≤ n ∧ i = .int .i64 k ∧ Below w.heap.size w wr) (fun _ i _ => n - (intOf i).toNat)
  case atStart => exact ⟨0, Nat.zero_le _, rfl, HB.out⟩
  case round =>
    clear e0 e1 e2 e3
    obtain ⟨k, hk, rfl, hb⟩ := hrel
    have HB := Lib.hid hb; clear hb HX
    by_cases hlt : k < n
    · have hlt' : (k : Int) < (n : Int) := by omega
      have hkb : (0 : Int) ≤ (k : Int) ∧ (k : Int) < (n : Int) := ⟨by omega, by omega⟩
      have hw1 : IntKind.i64.wrap ((k : Int) + 1) = (k : Int) + 1 := by rw [IntKind.wrap_i64]; omega
      have hln : k < names.length := by omega
      obtain ⟨b, off, rfl, p0, p1, p2, p3⟩ := ex_cells (HA.out.below HB.out) hln
      obtain ⟨x, hx⟩ : ∃ x, names[k] = x := ⟨_, rfl⟩
      have hxn := HNM.out x (hx ▸ List.getElem_mem _)
      have HXN := Lib.hid hxn; clear hxn
      rw [hx] at p2
      clear hx
      have hb1 := (Below.refl wr.heap.size wr).alloc (Nat.le_refl _) (.cells #[.int .i64 3, .int .i64 0, .string (bs x), .slice none 0 0] 116)
      have HXB := Lib.hid (Bx.new wr #[.int .i64 3, .int .i64 0, .string (bs x), .slice none 0 0] 116)
      have HB := Lib.hid (btrans HB.out HB.out.size hb1); clear hb1
      go_upto_region 7 with (fail)
      generalize hW : wr.alloc (.cells #[.int .i64 3, .int .i64 0, .string (bs x), .slice none 0 0] 116) = v1 at HXB HB ⊢
      clear hW p0 p1 p2 p3
      obtain ⟨x0, x1, x2, x3⟩ := HXB.out.c4
      go_wp2_with fail
      refine (checkVar_any x HXN.out.1 HXN.out.2 2 (by decide) _).mono ?_
      rintro er w2 ⟨rfl, hb2⟩
      have HB := Lib.hid (btrans HB.out HB.out.size hb2); clear hb2 x0 x1 x2 x3
      go_wp2
      go_roundw
      case rel => exact ⟨k + 1, by omega, by go_num, HB.out⟩
      case measure => simp [intOf]; omega
    · have hlt' : ¬ (k : Int) < (n : Int) := by omega
      go_wp2
      go_ret
      exact ⟨rfl, HB.out⟩
set_option maxRecDepth 100000 in
set_option maxHeartbeats 8000000 in
theorem ValidExpr_any (op : Int) (n : Nat) (aa : Option Addr) (ac : Nat) (names : List (List UInt8)) (h4 : 4 ≤ op) (hn : arS op = (n : Int)) (hnl : names.length = n) (hnb : n ≤ 2) (hnm : ∀ x ∈ names, isNm x = true ∧ x.length ≤ 1000000) (w : World) (hA : CellsAt w (.slice aa n ac) n (exLs names)) :
    Calls Tryz.prog 112 #[.agg #[.int .i64 op, .int .i64 0, .string ⟨#[]⟩, .slice aa n ac]] w fun e w' => e = .returned (.int .i64 0) ∧ Below w.heap.size w w' := by
  have hal := (Below.refl w.heap.size w).alloc (Nat.le_refl _) (.cells #[.int .i64 op, .int .i64 0, .string ⟨#[]⟩, .slice aa n ac] 116)
  have HA := Lib.hid (hA.below hal); have HNM := Lib.hid hnm; have HN := Lib.hid hn; clear hA hnm hn
  have HX := Lib.hid (Bx.new w #[.int .i64 op, .int .i64 0, .string ⟨#[]⟩, .slice aa n ac] 116)
  have HB := Lib.hid hal; clear hal
  go_enter Tryz.func112, Tryz.ntmps112
  go_upto_region 1 with (fail)
  generalize hW : w.alloc (.cells #[.int .i64 op, .int .i64 0, .string ⟨#[]⟩, .slice aa n ac] 116) = v0 at HX HB HA ⊢
  clear hW
  obtain ⟨e0, e1, e2, e3⟩ := HX.out.c4
  go_wp2_with fail
  refine (checkOp_any op n aa ac names h4 HN.out hnl hnb HNM.out _ HA.out).mono ?_
  rintro er w1 ⟨rfl, hb1⟩
  have HB := Lib.hid (btrans HB.out HB.out.size hb1); clear hb1 e0 e1 e2 e3 HX
  go_wp2
  go_ret
  exact ⟨rfl, HB.out⟩
end Go.Proofs.YtnglaegofhpleaaGreatDoor
namespace Go.Proofs.YtnglaegofhpleaaGreatDoor
open Go.RowKit


set_option maxRecDepth 100000 in
set_option maxHeartbeats 8000000 in
theorem evalC_any (tb eb vb : Nat) (mb vm om : Nat) (sa ra wa : Option Addr) (sc rc wc : Nat) (M : List Pr) (al : Bool) (rd wri : List (List UInt8)) (op : Int) (aa : Option Addr) (ac : Nat) (V : List Pr) (names : List (List UInt8)) (vals : List Vl) (hop : (vals.length = 1 ∧ (op = 9 ∨ op = 18 ∨ op = 20 ∨ op = 21 ∨ op = 22 ∨ op = 23 ∨ op = 24)) ∨ (vals.length = 2 ∧ 4 ≤ op ∧ op ≤ 19 ∧ op ≠ 9 ∧ op ≠ 18)) (hva : VarsAre V names vals) (hok : ∀ v ∈ vals, OkV v) (w W0 : World) (hX : Bx mb #[.slice sa M.length sc, .bool al, .slice ra rd.length rc, .slice wa wri.length wc, .map (some vm), .map (some om), .int .i64 0, .int .i64 0, .slice none 0 0, .slice none 0 0, .slice none 0 0, .slice none 0 0, .string ⟨#[]⟩, .int .i64 0] 143 w) (hO : Mp om [] w) (hmb : W0.heap.size ≤ mb) (hW0 : Below W0.heap.size W0 w) (hM : CellsAt W0 (.slice sa M.length sc) M.length (prLs M)) (hR : StrS W0 (.slice ra rd.length rc) rd) (hl1 : M.length ≤ 9000000000000) (hl2 : rd.length ≤ 9000000000000) (hV : Mp vm V w) (hA : CellsAt W0 (.slice aa vals.length ac) vals.length (exLs names)) (hLd : Laid W0) (hT : Bx tb #[.pointer (some ⟨mb, 0, none⟩)] 138 w) (hE : Bx eb #[.int .i64 op, .int .i64 0, .string ⟨#[]⟩, .slice aa vals.length ac] 116 w) (hB : Bx vb #[.int .i64 0, .int .i64 0, .string ⟨#[]⟩] 52 w) (hne : mb ≠ vb) :
    Calls Tryz.prog 118 #[.pointer (some ⟨tb, 0, none⟩), .pointer (some ⟨eb, 0, none⟩), .pointer (some ⟨vb, 0, none⟩)] w (EvP mb vb (fun rv => #[.slice sa M.length sc, .bool al, .slice ra rd.length rc, .slice wa wri.length wc, .map (some vm), .map (some om), .int .i64 0, .int .i64 0, .slice none 0 0, rv, .slice none 0 0, .slice none 0 0, .string ⟨#[]⟩, .int .i64 0]) (evS al rd M op vals).1 (evS al rd M op vals).2 w) := by
  have HC := Lib.hid (evalOp_any mb vm om sa ra wa sc rc wc M al rd wri op aa ac V names vals hop hva hok w W0 hX hO hmb hW0 hM hR hl1 hl2 hV hA hLd)
  obtain ⟨⟨R, ks⟩, hU⟩ : ∃ x, evS al rd M op vals = x := ⟨_, rfl⟩
  rw [hU] at HC ⊢
  simp only at HC ⊢
  have t0 : w.cell? ⟨tb, 0, none⟩ = some (.pointer (some ⟨mb, 0, none⟩)) := hT.cell 0
  obtain ⟨e0, e1, e2, e3⟩ := hE.c4
  have HB := Lib.hid hB
  have hlb := hB.lt
  have hlm := hX.lt
  clear hU hop hva hok hX hO hmb hW0 hM hR hl1 hl2 hV hA hLd hT hE hB
  go_enter Tryz.func118, Tryz.ntmps118
  go_wp2_with fail
  refine HC.out.mono ?_
  rintro er w1 ⟨rfl, hg, rv, hx, ho⟩
  have HG := Lib.hid hg; have HX := Lib.hid hx; have HO := Lib.hid ho; have HB := Lib.hid (HB.out.kept hg (by simp; omega)); clear hg hx ho HC e0 e1 e2 e3 t0
  rcases R with v | c | k
  · simp only [endR, vV]
    have r0 : w1.cell? ⟨vb, 0, none⟩ = some (.int .i64 0) := HB.out.cell 0
    have r1 : w1.cell? ⟨vb, 1, none⟩ = some (.int .i64 0) := HB.out.cell 1
    have r2 : w1.cell? ⟨vb, 2, none⟩ = some (.string ⟨#[]⟩) := HB.out.cell 2
    have f0 := HB.out.free 0
    have f1 := HB.out.free 1
    have f2 := HB.out.free 2
    have HB2 := Lib.hid (HB.out.sets3 (.int .i64 v.k) (.int .i64 v.n) (.string (bs v.s)))
    have HF := Lib.hid ((((K2.of_grown (b := vb) HG.out).set (i := 0) (.int .i64 v.k) (.inr (.inl rfl))).set (i := 1) (.int .i64 v.n) (.inr (.inl rfl))).set (i := 2) (.string (bs v.s)) (.inr (.inl rfl)))
    have HX2 := Lib.hid (((HX.out.other (i := 0) hne (.int .i64 v.k)).other (i := 1) hne (.int .i64 v.n)).other (i := 2) hne (.string (bs v.s)))
    have HO2 := Lib.hid (own_set (own_set (own_set HO.out vb 0 hlb (.int .i64 v.k)) vb 1 hlb (.int .i64 v.n)) vb 2 hlb (.string (bs v.s)))
    go_wp2
    exact ⟨rfl, .tuple #[], results_none rfl _ _ _, rfl, HF.out, HB2.out, rv, HX2.out, HO2.out⟩
  · simp only [endR]
    go_wp2
    exact ⟨(by first | exact True.intro | rfl), rfl, K2.of_grown HG.out, HB.out, rv, HX.out, HO.out⟩
  · simp only [endR]
    go_wp2
    exact ⟨(by first | exact True.intro | rfl), rfl, K2.of_grown HG.out, HB.out, rv, HX.out, HO.out⟩
theorem newM_mem (w v0 : World) (cs : Array Value) (h : Below w.heap.size w v0) (hs : w.heap.size ≤ v0.heap.size) : ∃ W, ((v0.alloc (.map #[] 0)).alloc (.map #[] 0)).alloc (.cells cs 143) = W ∧ Bx (v0.heap.size + 2) cs 143 W ∧ Mp v0.heap.size [] W ∧ Mp (v0.heap.size + 1) [] W ∧ Below w.heap.size w W := by
  have h1 := Mp.new v0
  have h2 := Mp.new (v0.alloc (.map #[] 0))
  rw [show (v0.alloc (.map #[] 0)).heap.size = v0.heap.size + 1 by simp] at h2
  have b2 := (Below.refl (v0.alloc (.map #[] 0)).heap.size (v0.alloc (.map #[] 0))).alloc (Nat.le_refl _) (.map #[] 0)
  have b3 := (Below.refl ((v0.alloc (.map #[] 0)).alloc (.map #[] 0)).heap.size ((v0.alloc (.map #[] 0)).alloc (.map #[] 0))).alloc (Nat.le_refl _) (.cells cs 143)
  have hx := Bx.new ((v0.alloc (.map #[] 0)).alloc (.map #[] 0)) cs 143
  rw [show ((v0.alloc (.map #[] 0)).alloc (.map #[] 0)).heap.size = v0.heap.size + 2 by simp] at hx
  exact ⟨_, rfl, hx, (h1.call b2).call b3, h2.call b3, ((h.alloc hs _).alloc (by simp; omega) _).alloc (by simp; omega) _⟩

set_option maxRecDepth 100000 in
set_option maxHeartbeats 8000000 in
theorem newM_any (sa ra wa : Option Addr) (sc rc wc : Nat) (M : List Pr) (al : Bool) (rd wri : List (List UInt8)) (w : World) :
    Calls Tryz.prog 115 #[.slice sa M.length sc, .agg #[.bool al, .slice ra rd.length rc, .slice wa wri.length wc]] w fun e w' => ∃ mb vm om, e = .returned (.pointer (some ⟨mb, 0, none⟩)) ∧ Below w.heap.size w w' ∧ Bx mb #[.slice sa M.length sc, .bool al, .slice ra rd.length rc, .slice wa wri.length wc, .map (some vm), .map (some om), .int .i64 0, .int .i64 0, .slice none 0 0, .slice none 0 0, .slice none 0 0, .slice none 0 0, .string ⟨#[]⟩, .int .i64 0] 143 w' ∧ Mp vm [] w' ∧ Mp om [] w' ∧ w.heap.size ≤ mb ∧ w.heap.size ≤ vm ∧ w.heap.size ≤ om ∧ vm ≠ om := by
  have hmm := @run_makeMap Tryz.prog
  have HF := Lib.hid (Bx.new w #[.bool al, .slice ra rd.length rc, .slice wa wri.length wc] 29)
  have hb0 := (Below.refl w.heap.size w).alloc (Nat.le_refl _) (.cells #[.bool al, .slice ra rd.length rc, .slice wa wri.length wc] 29)
  have HB := Lib.hid hb0; have hs0 : w.heap.size + 1 = (w.alloc (.cells #[.bool al, .slice ra rd.length rc, .slice wa wri.length wc] 29)).heap.size := by simp
  clear hb0
  go_enter Tryz.func115, Tryz.ntmps115
  go_upto_region 1 with (fail)
  generalize hW : w.alloc (.cells #[.bool al, .slice ra rd.length rc, .slice wa wri.length wc] 29) = v0 at HF HB hs0 ⊢
  clear hW
  have f0 : v0.cell? ⟨w.heap.size, 0, none⟩ = some (.bool al) := HF.out.cell 0
  have f1 : v0.cell? ⟨w.heap.size, 1, none⟩ = some (.slice ra rd.length rc) := HF.out.cell 1
  have f2 : v0.cell? ⟨w.heap.size, 2, none⟩ = some (.slice wa wri.length wc) := HF.out.cell 2
  go_wp2
  obtain ⟨WN, hWN, hx, h1, h2, hb⟩ := newM_mem w v0 #[.slice sa M.length sc, .bool al, .slice ra rd.length rc, .slice wa wri.length wc, .map (some v0.heap.size), .map (some (v0.heap.size + 1)), .int .i64 0, .int .i64 0, .slice none 0 0, .slice none 0 0, .slice none 0 0, .slice none 0 0, .string ⟨#[]⟩, .int .i64 0] HB.out (by omega)
  rw [hWN]
  clear hWN
  go_ret
  exact ⟨v0.heap.size + 2, v0.heap.size, v0.heap.size + 1, rfl, hb, hx, h1, h2, by omega, by omega, by omega, by omega⟩
def efA (R : Rs) (rv : Value) : Array Value := match R with
  | .ok _ => #[.int .i64 1, .int .i64 0, .slice none 0 0, rv, .slice none 0 0, .slice none 0 0, .string ⟨#[]⟩, .int .i64 0]
  | .ab c => #[.int .i64 2, .int .i64 c, .slice none 0 0, rv, .slice none 0 0, .slice none 0 0, .string (bs []), .int .i64 0]
  | .re k => #[.int .i64 3, .int .i64 0, .slice none 0 0, rv, .slice none 0 0, .slice none 0 0, .string (bs k), .int .i64 0]

set_option maxRecDepth 100000 in
set_option maxHeartbeats 16000000 in
theorem finish_any (mb vm om : Nat) (sa ra wa : Option Addr) (sc rc wc : Nat) (M : List Pr) (al : Bool) (rd wri : List (List UInt8)) (oa : Option Addr) (on oc : Nat) (R : Rs) (w : World) (hX : Bx mb #[.slice sa M.length sc, .bool al, .slice ra rd.length rc, .slice wa wri.length wc, .map (some vm), .map (some om), .int .i64 0, .int .i64 0, .slice none 0 0, .slice oa on oc, .slice none 0 0, .slice none 0 0, .string ⟨#[]⟩, .int .i64 0] 143 w) :
    Calls Tryz.prog 120 #[.pointer (some ⟨mb, 0, none⟩), .agg (stA R), .bool (stB2 R)] w fun e w' => e = .returned (.agg (efA R (.slice oa on oc))) ∧ Below w.heap.size w w' := by
  have hmw := hX.lt
  have HX := Lib.hid hX; clear hX
  rcases R with v | c | k
  · simp only [stA, stB2, efA]
    have hal := ((Below.refl w.heap.size w).alloc (Nat.le_refl _) (.cells #[.int .i64 0, .int .i64 0, .slice none 0 0, .string ⟨#[]⟩] 145)).alloc (by simp) (.cells #[.int .i64 0, .int .i64 0, .slice none 0 0, .slice none 0 0, .slice none 0 0, .slice none 0 0, .string ⟨#[]⟩, .int .i64 0] 37)
    have hr0 := Bx.new1 w (.cells #[.int .i64 0, .int .i64 0, .slice none 0 0, .string ⟨#[]⟩] 145) #[.int .i64 0, .int .i64 0, .slice none 0 0, .slice none 0 0, .slice none 0 0, .slice none 0 0, .string ⟨#[]⟩, .int .i64 0] 37
    have HS := Lib.hid ((Bx.new w #[.int .i64 0, .int .i64 0, .slice none 0 0, .string ⟨#[]⟩] 145).alloc (.cells #[.int .i64 0, .int .i64 0, .slice none 0 0, .slice none 0 0, .slice none 0 0, .slice none 0 0, .string ⟨#[]⟩, .int .i64 0] 37))
    have HRB := Lib.hid hr0; have HX := Lib.hid (HX.out.call hal); have HB := Lib.hid hal; clear hr0 hal
    go_enter Tryz.func120, Tryz.ntmps120
    go_upto_region 1 with (fail)
    generalize hW : (w.alloc (.cells #[.int .i64 0, .int .i64 0, .slice none 0 0, .string ⟨#[]⟩] 145)).alloc (.cells #[.int .i64 0, .int .i64 0, .slice none 0 0, .slice none 0 0, .slice none 0 0, .slice none 0 0, .string ⟨#[]⟩, .int .i64 0] 37) = v0 at HS HRB HX HB ⊢
    clear hW
    have hal := (Below.refl v0.heap.size v0).alloc (Nat.le_refl _) (.cells #[.int .i64 0, .int .i64 0, .slice none 0 0, .slice oa on oc, .slice none 0 0, .slice none 0 0, .string ⟨#[]⟩, .int .i64 0] 37)
    have HE := Lib.hid (Bx.new v0 #[.int .i64 0, .int .i64 0, .slice none 0 0, .slice oa on oc, .slice none 0 0, .slice none 0 0, .string ⟨#[]⟩, .int .i64 0] 37)
    have hvs := HRB.out.lt
    have HS := Lib.hid (HS.out.call hal); have HRB := Lib.hid (HRB.out.call hal); have HB := Lib.hid (btrans HB.out HB.out.size hal); clear hal
    have hxc := HX.out.c14
    obtain ⟨x0, x1, x2, x3, x4, x5, x6, x7, x8, x9, x10, x11, x12, x13⟩ := hxc
    clear HX
    go_upto_region 2 with (fail)
    generalize hW : v0.alloc (.cells #[.int .i64 0, .int .i64 0, .slice none 0 0, .slice oa on oc, .slice none 0 0, .slice none 0 0, .string ⟨#[]⟩, .int .i64 0] 37) = v1 at HS HRB HB HE ⊢
    clear hW x0 x1 x2 x3 x4 x5 x6 x7 x8 x9 x10 x11 x12 x13
    obtain ⟨s0, s1, s2, s3⟩ := HS.out.c4
    obtain ⟨e0, e1, e2, e3, e4, e5, e6, e7⟩ := HE.out.c8
    have f0 := HE.out.free 0
    have f1 := HE.out.free 1
    have f2 := HE.out.free 2
    have f6 := HE.out.free 6
    have HE2 := Lib.hid (show Bx v0.heap.size #[.int .i64 1, .int .i64 0, .slice none 0 0, .slice oa on oc, .slice none 0 0, .slice none 0 0, .string ⟨#[]⟩, .int .i64 0] 37 (v1.setCell ⟨v0.heap.size, 0, none⟩ (.int .i64 1)) from HE.out.set 0 (.int .i64 1))
    have HRB2 := Lib.hid (HRB.out.other (c := v0.heap.size) (i := 0) (by omega) (.int .i64 1))
    have HB2 := Lib.hid (below_set HB.out v0.heap.size 0 (by omega) (.int .i64 1))
    go_upto_region 6 with (fail)
    generalize hW : v1.setCell ⟨v0.heap.size, 0, none⟩ (.int .i64 1) = v2 at HE2 HRB2 HB2 ⊢
    clear hW
    clear HE HRB HB HS s0 s1 s2 s3 e0 e1 e2 e3 e4 e5 e6 e7 f0 f1 f2 f6
    have HE := HE2; have HRB := HRB2; have HB := HB2; clear HE2 HRB2 HB2
    obtain ⟨e0, e1, e2, e3, e4, e5, e6, e7⟩ := HE.out.c8
    go_wp2
    go_loop [27] (fun i => i = .int .i64 0) (fun _ => 0)
    case atStart => exact rfl
    case round =>
      obtain rfl := hrel
      have r0 : v2.cell? ⟨(w.heap.size + 1), 0, none⟩ = some (.int .i64 0) := HRB.out.cell 0
      have r1 : v2.cell? ⟨(w.heap.size + 1), 1, none⟩ = some (.int .i64 0) := HRB.out.cell 1
      have r2 : v2.cell? ⟨(w.heap.size + 1), 2, none⟩ = some (.slice none 0 0) := HRB.out.cell 2
      have r3 : v2.cell? ⟨(w.heap.size + 1), 3, none⟩ = some (.slice none 0 0) := HRB.out.cell 3
      have r4 : v2.cell? ⟨(w.heap.size + 1), 4, none⟩ = some (.slice none 0 0) := HRB.out.cell 4
      have r5 : v2.cell? ⟨(w.heap.size + 1), 5, none⟩ = some (.slice none 0 0) := HRB.out.cell 5
      have r6 : v2.cell? ⟨(w.heap.size + 1), 6, none⟩ = some (.string ⟨#[]⟩) := HRB.out.cell 6
      have r7 : v2.cell? ⟨(w.heap.size + 1), 7, none⟩ = some (.int .i64 0) := HRB.out.cell 7
      have f0 := HRB.out.free 0
      have f1 := HRB.out.free 1
      have f2 := HRB.out.free 2
      have f3 := HRB.out.free 3
      have f4 := HRB.out.free 4
      have f5 := HRB.out.free 5
      have f6 := HRB.out.free 6
      have f7 := HRB.out.free 7
      have HK := Lib.hid (HRB.out.sets8 (.int .i64 1) (.int .i64 0) (.slice none 0 0) (.slice oa on oc) (.slice none 0 0) (.slice none 0 0) (.string ⟨#[]⟩) (.int .i64 0))
      go_wp2
      have k0 := HK.out.cell 0
      have k1 := HK.out.cell 1
      have k2 := HK.out.cell 2
      have k3 := HK.out.cell 3
      have k4 := HK.out.cell 4
      have k5 := HK.out.cell 5
      have k6 := HK.out.cell 6
      have k7 := HK.out.cell 7
      simp only [List.getElem?_toArray, List.getElem?_cons_zero, List.getElem?_cons_succ] at k0 k1 k2 k3 k4 k5 k6 k7
      refine bodyPost_ret (v := .agg #[.int .i64 1, .int .i64 0, .slice none 0 0, .slice oa on oc, .slice none 0 0, .slice none 0 0, .string ⟨#[]⟩, .int .i64 0]) (by simp [results, Tryz.results120, go_sem, k0, k1, k2, k3, k4, k5, k6, k7] <;> rfl) rfl ⟨rfl, below_sets8 HB.out _ (by omega) _ _ _ _ _ _ _ _⟩
  · simp only [stA, stB2, efA]
    have hal := ((Below.refl w.heap.size w).alloc (Nat.le_refl _) (.cells #[.int .i64 2, .int .i64 c, .slice none 0 0, .string (bs [])] 145)).alloc (by simp) (.cells #[.int .i64 0, .int .i64 0, .slice none 0 0, .slice none 0 0, .slice none 0 0, .slice none 0 0, .string ⟨#[]⟩, .int .i64 0] 37)
    have hr0 := Bx.new1 w (.cells #[.int .i64 2, .int .i64 c, .slice none 0 0, .string (bs [])] 145) #[.int .i64 0, .int .i64 0, .slice none 0 0, .slice none 0 0, .slice none 0 0, .slice none 0 0, .string ⟨#[]⟩, .int .i64 0] 37
    have HS := Lib.hid ((Bx.new w #[.int .i64 2, .int .i64 c, .slice none 0 0, .string (bs [])] 145).alloc (.cells #[.int .i64 0, .int .i64 0, .slice none 0 0, .slice none 0 0, .slice none 0 0, .slice none 0 0, .string ⟨#[]⟩, .int .i64 0] 37))
    have HRB := Lib.hid hr0; have HX := Lib.hid (HX.out.call hal); have HB := Lib.hid hal; clear hr0 hal
    go_enter Tryz.func120, Tryz.ntmps120
    go_upto_region 1 with (fail)
    generalize hW : (w.alloc (.cells #[.int .i64 2, .int .i64 c, .slice none 0 0, .string (bs [])] 145)).alloc (.cells #[.int .i64 0, .int .i64 0, .slice none 0 0, .slice none 0 0, .slice none 0 0, .slice none 0 0, .string ⟨#[]⟩, .int .i64 0] 37) = v0 at HS HRB HX HB ⊢
    clear hW
    have hal := (Below.refl v0.heap.size v0).alloc (Nat.le_refl _) (.cells #[.int .i64 0, .int .i64 0, .slice none 0 0, .slice oa on oc, .slice none 0 0, .slice none 0 0, .string ⟨#[]⟩, .int .i64 0] 37)
    have HE := Lib.hid (Bx.new v0 #[.int .i64 0, .int .i64 0, .slice none 0 0, .slice oa on oc, .slice none 0 0, .slice none 0 0, .string ⟨#[]⟩, .int .i64 0] 37)
    have hvs := HRB.out.lt
    have HS := Lib.hid (HS.out.call hal); have HRB := Lib.hid (HRB.out.call hal); have HB := Lib.hid (btrans HB.out HB.out.size hal); clear hal
    have hxc := HX.out.c14
    obtain ⟨x0, x1, x2, x3, x4, x5, x6, x7, x8, x9, x10, x11, x12, x13⟩ := hxc
    clear HX
    go_upto_region 2 with (fail)
    generalize hW : v0.alloc (.cells #[.int .i64 0, .int .i64 0, .slice none 0 0, .slice oa on oc, .slice none 0 0, .slice none 0 0, .string ⟨#[]⟩, .int .i64 0] 37) = v1 at HS HRB HB HE ⊢
    clear hW x0 x1 x2 x3 x4 x5 x6 x7 x8 x9 x10 x11 x12 x13
    obtain ⟨s0, s1, s2, s3⟩ := HS.out.c4
    obtain ⟨e0, e1, e2, e3, e4, e5, e6, e7⟩ := HE.out.c8
    have f0 := HE.out.free 0
    have f1 := HE.out.free 1
    have f2 := HE.out.free 2
    have f6 := HE.out.free 6
    have HE2 := Lib.hid (show Bx v0.heap.size #[.int .i64 2, .int .i64 c, .slice none 0 0, .slice oa on oc, .slice none 0 0, .slice none 0 0, .string (bs []), .int .i64 0] 37 ((((v1.setCell ⟨v0.heap.size, 0, none⟩ (.int .i64 2)).setCell ⟨v0.heap.size, 1, none⟩ (.int .i64 c)).setCell ⟨v0.heap.size, 2, none⟩ (.slice none 0 0)).setCell ⟨v0.heap.size, 6, none⟩ (.string (bs []))).drew from ((((HE.out.set 0 (.int .i64 2)).set 1 (.int .i64 c)).set 2 (.slice none 0 0)).set 6 (.string (bs []))))
    have HRB2 := Lib.hid (Bx.drew ((((HRB.out.other (c := v0.heap.size) (i := 0) (by omega) (.int .i64 2)).other (c := v0.heap.size) (i := 1) (by omega) (.int .i64 c)).other (c := v0.heap.size) (i := 2) (by omega) (.slice none 0 0)).other (c := v0.heap.size) (i := 6) (by omega) (.string (bs []))))
    have HB2 := Lib.hid (Below.drew (below_set (below_set (below_set (below_set HB.out v0.heap.size 0 (by omega) (.int .i64 2)) v0.heap.size 1 (by omega) (.int .i64 c)) v0.heap.size 2 (by omega) (.slice none 0 0)) v0.heap.size 6 (by omega) (.string (bs []))))
    have HS0 := Lib.hid (show (fun w' => w'.cell? ⟨w.heap.size, 0, none⟩ = some (.int .i64 2) ∧ w'.cell? ⟨w.heap.size, 1, none⟩ = some (.int .i64 c) ∧ w'.cell? ⟨w.heap.size, 2, none⟩ = some (.slice none 0 0) ∧ w'.cell? ⟨w.heap.size, 3, none⟩ = some (.string (bs []))) v1.drew from ⟨s0, s1, s2, s3⟩)
    have HKA := Lib.hid (show (fun w' => w'.cell? ⟨w.heap.size, 0, none⟩ = some (.int .i64 2) ∧ w'.cell? ⟨w.heap.size, 1, none⟩ = some (.int .i64 c) ∧ w'.cell? ⟨w.heap.size, 2, none⟩ = some (.slice none 0 0) ∧ w'.cell? ⟨w.heap.size, 3, none⟩ = some (.string (bs []))) (((v1.setCell ⟨v0.heap.size, 0, none⟩ (.int .i64 2)).setCell ⟨v0.heap.size, 1, none⟩ (.int .i64 c)).setCell ⟨v0.heap.size, 2, none⟩ (.slice none 0 0)) from ⟨cell1_set _ (by omega) (cell1_set _ (by omega) (cell1_set _ (by omega) (s0))), cell1_set _ (by omega) (cell1_set _ (by omega) (cell1_set _ (by omega) (s1))), cell1_set _ (by omega) (cell1_set _ (by omega) (cell1_set _ (by omega) (s2))), cell1_set _ (by omega) (cell1_set _ (by omega) (cell1_set _ (by omega) (s3)))⟩)
    have HKB := Lib.hid (show (fun w' => w'.cell? ⟨w.heap.size, 0, none⟩ = some (.int .i64 2) ∧ w'.cell? ⟨w.heap.size, 1, none⟩ = some (.int .i64 c) ∧ w'.cell? ⟨w.heap.size, 2, none⟩ = some (.slice none 0 0) ∧ w'.cell? ⟨w.heap.size, 3, none⟩ = some (.string (bs []))) ((((v1.setCell ⟨v0.heap.size, 0, none⟩ (.int .i64 2)).setCell ⟨v0.heap.size, 1, none⟩ (.int .i64 c)).setCell ⟨v0.heap.size, 2, none⟩ (.slice none 0 0)).setCell ⟨v0.heap.size, 6, none⟩ (.string (bs []))) from ⟨cell1_set _ (by omega) (cell1_set _ (by omega) (cell1_set _ (by omega) (cell1_set _ (by omega) (s0)))), cell1_set _ (by omega) (cell1_set _ (by omega) (cell1_set _ (by omega) (cell1_set _ (by omega) (s1)))), cell1_set _ (by omega) (cell1_set _ (by omega) (cell1_set _ (by omega) (cell1_set _ (by omega) (s2)))), cell1_set _ (by omega) (cell1_set _ (by omega) (cell1_set _ (by omega) (cell1_set _ (by omega) (s3))))⟩)
    have g6 : (((v1.setCell ⟨v0.heap.size, 0, none⟩ (.int .i64 2)).setCell ⟨v0.heap.size, 1, none⟩ (.int .i64 c)).setCell ⟨v0.heap.size, 2, none⟩ (.slice none 0 0)).cell? ⟨v0.heap.size, 6, none⟩ = some (.string ⟨#[]⟩) := (((HE.out.set 0 (.int .i64 2)).set 1 (.int .i64 c)).set 2 (.slice none 0 0)).cell 6
    have h6 := (((HE.out.set 0 (.int .i64 2)).set 1 (.int .i64 c)).set 2 (.slice none 0 0)).free 6
    go_upto_region 3 with (fail)
    refine wp_region_held_drew (S := (fun w' => w'.cell? ⟨w.heap.size, 0, none⟩ = some (.int .i64 2) ∧ w'.cell? ⟨w.heap.size, 1, none⟩ = some (.int .i64 c) ∧ w'.cell? ⟨w.heap.size, 2, none⟩ = some (.slice none 0 0) ∧ w'.cell? ⟨w.heap.size, 3, none⟩ = some (.string (bs [])))) (by kernel_rfl) ?_ (fun hHeld => ?_)
    · exact HS0.out
    refine tkX (i := 0) 15 ?_
    simp only [sA, sB, sC]
    refine tkX (i := 1) 16 ?_
    simp only [sA, sB, sC]
    refine tkX (i := 2) 17 ?_
    simp only [sA, sB, sC]
    refine tkX (i := 3) 18 ?_
    simp only [sA, sB, sC]
    refine tkX (i := 4) 19 ?_
    simp only [sA, sB, sC]
    refine wpAnyH_ready (rs := [5]) (by kernel_rfl) (by simp) ?_
    refine (AllReadyH.cons rfl (fun K hK => ?_) AllReadyH.nil)
    go_simp
    refine hK.out _ _ ?_ (fun hHeld2 => ?_)
    · exact HKA.out
    clear hK K
    (try simp only [Act.put, sA, sB, sC])
    refine tkX (i := 6) 20 ?_
    simp only [sA, sB, sC]
    refine wpAnyH_ready (rs := [7]) (by kernel_rfl) (by simp) ?_
    refine (AllReadyH.cons rfl (fun K hK => ?_) AllReadyH.nil)
    go_simp
    refine hK.out _ _ ?_ (fun hHeld3 => ?_)
    · exact HKB.out
    clear hK K
    (try simp only [Act.put, sA, sB, sC])
    refine wpAnyH_done (by kernel_rfl) ?_ _
    generalize hW : ((((v1.setCell ⟨v0.heap.size, 0, none⟩ (.int .i64 2)).setCell ⟨v0.heap.size, 1, none⟩ (.int .i64 c)).setCell ⟨v0.heap.size, 2, none⟩ (.slice none 0 0)).setCell ⟨v0.heap.size, 6, none⟩ (.string (bs []))).drew = v2 at HE2 HRB2 HB2 ⊢
    clear hW hHeld hHeld2 hHeld3 HKA HKB HS0 g6 h6
    clear HE HRB HB HS s0 s1 s2 s3 e0 e1 e2 e3 e4 e5 e6 e7 f0 f1 f2 f6
    have HE := HE2; have HRB := HRB2; have HB := HB2; clear HE2 HRB2 HB2
    obtain ⟨e0, e1, e2, e3, e4, e5, e6, e7⟩ := HE.out.c8
    have r0 : v2.cell? ⟨(w.heap.size + 1), 0, none⟩ = some (.int .i64 0) := HRB.out.cell 0
    have r1 : v2.cell? ⟨(w.heap.size + 1), 1, none⟩ = some (.int .i64 0) := HRB.out.cell 1
    have r2 : v2.cell? ⟨(w.heap.size + 1), 2, none⟩ = some (.slice none 0 0) := HRB.out.cell 2
    have r3 : v2.cell? ⟨(w.heap.size + 1), 3, none⟩ = some (.slice none 0 0) := HRB.out.cell 3
    have r4 : v2.cell? ⟨(w.heap.size + 1), 4, none⟩ = some (.slice none 0 0) := HRB.out.cell 4
    have r5 : v2.cell? ⟨(w.heap.size + 1), 5, none⟩ = some (.slice none 0 0) := HRB.out.cell 5
    have r6 : v2.cell? ⟨(w.heap.size + 1), 6, none⟩ = some (.string ⟨#[]⟩) := HRB.out.cell 6
    have r7 : v2.cell? ⟨(w.heap.size + 1), 7, none⟩ = some (.int .i64 0) := HRB.out.cell 7
    have f0 := HRB.out.free 0
    have f1 := HRB.out.free 1
    have f2 := HRB.out.free 2
    have f3 := HRB.out.free 3
    have f4 := HRB.out.free 4
    have f5 := HRB.out.free 5
    have f6 := HRB.out.free 6
    have f7 := HRB.out.free 7
    have HK := Lib.hid (HRB.out.sets8 (.int .i64 2) (.int .i64 c) (.slice none 0 0) (.slice oa on oc) (.slice none 0 0) (.slice none 0 0) (.string (bs [])) (.int .i64 0))
    go_wp2
    have k0 := HK.out.cell 0
    have k1 := HK.out.cell 1
    have k2 := HK.out.cell 2
    have k3 := HK.out.cell 3
    have k4 := HK.out.cell 4
    have k5 := HK.out.cell 5
    have k6 := HK.out.cell 6
    have k7 := HK.out.cell 7
    simp only [List.getElem?_toArray, List.getElem?_cons_zero, List.getElem?_cons_succ] at k0 k1 k2 k3 k4 k5 k6 k7
    refine bodyPost_ret (v := .agg #[.int .i64 2, .int .i64 c, .slice none 0 0, .slice oa on oc, .slice none 0 0, .slice none 0 0, .string (bs []), .int .i64 0]) (by simp [results, Tryz.results120, go_sem, k0, k1, k2, k3, k4, k5, k6, k7] <;> rfl) rfl ⟨rfl, below_sets8 HB.out _ (by omega) _ _ _ _ _ _ _ _⟩
  · simp only [stA, stB2, efA]
    have hal := ((Below.refl w.heap.size w).alloc (Nat.le_refl _) (.cells #[.int .i64 3, .int .i64 0, .slice none 0 0, .string (bs k)] 145)).alloc (by simp) (.cells #[.int .i64 0, .int .i64 0, .slice none 0 0, .slice none 0 0, .slice none 0 0, .slice none 0 0, .string ⟨#[]⟩, .int .i64 0] 37)
    have hr0 := Bx.new1 w (.cells #[.int .i64 3, .int .i64 0, .slice none 0 0, .string (bs k)] 145) #[.int .i64 0, .int .i64 0, .slice none 0 0, .slice none 0 0, .slice none 0 0, .slice none 0 0, .string ⟨#[]⟩, .int .i64 0] 37
    have HS := Lib.hid ((Bx.new w #[.int .i64 3, .int .i64 0, .slice none 0 0, .string (bs k)] 145).alloc (.cells #[.int .i64 0, .int .i64 0, .slice none 0 0, .slice none 0 0, .slice none 0 0, .slice none 0 0, .string ⟨#[]⟩, .int .i64 0] 37))
    have HRB := Lib.hid hr0; have HX := Lib.hid (HX.out.call hal); have HB := Lib.hid hal; clear hr0 hal
    go_enter Tryz.func120, Tryz.ntmps120
    go_upto_region 1 with (fail)
    generalize hW : (w.alloc (.cells #[.int .i64 3, .int .i64 0, .slice none 0 0, .string (bs k)] 145)).alloc (.cells #[.int .i64 0, .int .i64 0, .slice none 0 0, .slice none 0 0, .slice none 0 0, .slice none 0 0, .string ⟨#[]⟩, .int .i64 0] 37) = v0 at HS HRB HX HB ⊢
    clear hW
    have hal := (Below.refl v0.heap.size v0).alloc (Nat.le_refl _) (.cells #[.int .i64 0, .int .i64 0, .slice none 0 0, .slice oa on oc, .slice none 0 0, .slice none 0 0, .string ⟨#[]⟩, .int .i64 0] 37)
    have HE := Lib.hid (Bx.new v0 #[.int .i64 0, .int .i64 0, .slice none 0 0, .slice oa on oc, .slice none 0 0, .slice none 0 0, .string ⟨#[]⟩, .int .i64 0] 37)
    have hvs := HRB.out.lt
    have HS := Lib.hid (HS.out.call hal); have HRB := Lib.hid (HRB.out.call hal); have HB := Lib.hid (btrans HB.out HB.out.size hal); clear hal
    have hxc := HX.out.c14
    obtain ⟨x0, x1, x2, x3, x4, x5, x6, x7, x8, x9, x10, x11, x12, x13⟩ := hxc
    clear HX
    go_upto_region 2 with (fail)
    generalize hW : v0.alloc (.cells #[.int .i64 0, .int .i64 0, .slice none 0 0, .slice oa on oc, .slice none 0 0, .slice none 0 0, .string ⟨#[]⟩, .int .i64 0] 37) = v1 at HS HRB HB HE ⊢
    clear hW x0 x1 x2 x3 x4 x5 x6 x7 x8 x9 x10 x11 x12 x13
    obtain ⟨s0, s1, s2, s3⟩ := HS.out.c4
    obtain ⟨e0, e1, e2, e3, e4, e5, e6, e7⟩ := HE.out.c8
    have f0 := HE.out.free 0
    have f1 := HE.out.free 1
    have f2 := HE.out.free 2
    have f6 := HE.out.free 6
    have HE2 := Lib.hid (show Bx v0.heap.size #[.int .i64 3, .int .i64 0, .slice none 0 0, .slice oa on oc, .slice none 0 0, .slice none 0 0, .string (bs k), .int .i64 0] 37 ((((v1.setCell ⟨v0.heap.size, 0, none⟩ (.int .i64 3)).setCell ⟨v0.heap.size, 1, none⟩ (.int .i64 0)).setCell ⟨v0.heap.size, 2, none⟩ (.slice none 0 0)).setCell ⟨v0.heap.size, 6, none⟩ (.string (bs k))).drew from ((((HE.out.set 0 (.int .i64 3)).set 1 (.int .i64 0)).set 2 (.slice none 0 0)).set 6 (.string (bs k))))
    have HRB2 := Lib.hid (Bx.drew ((((HRB.out.other (c := v0.heap.size) (i := 0) (by omega) (.int .i64 3)).other (c := v0.heap.size) (i := 1) (by omega) (.int .i64 0)).other (c := v0.heap.size) (i := 2) (by omega) (.slice none 0 0)).other (c := v0.heap.size) (i := 6) (by omega) (.string (bs k))))
    have HB2 := Lib.hid (Below.drew (below_set (below_set (below_set (below_set HB.out v0.heap.size 0 (by omega) (.int .i64 3)) v0.heap.size 1 (by omega) (.int .i64 0)) v0.heap.size 2 (by omega) (.slice none 0 0)) v0.heap.size 6 (by omega) (.string (bs k))))
    have HS0 := Lib.hid (show (fun w' => w'.cell? ⟨w.heap.size, 0, none⟩ = some (.int .i64 3) ∧ w'.cell? ⟨w.heap.size, 1, none⟩ = some (.int .i64 0) ∧ w'.cell? ⟨w.heap.size, 2, none⟩ = some (.slice none 0 0) ∧ w'.cell? ⟨w.heap.size, 3, none⟩ = some (.string (bs k))) v1.drew from ⟨s0, s1, s2, s3⟩)
    have HKA := Lib.hid (show (fun w' => w'.cell? ⟨w.heap.size, 0, none⟩ = some (.int .i64 3) ∧ w'.cell? ⟨w.heap.size, 1, none⟩ = some (.int .i64 0) ∧ w'.cell? ⟨w.heap.size, 2, none⟩ = some (.slice none 0 0) ∧ w'.cell? ⟨w.heap.size, 3, none⟩ = some (.string (bs k))) (((v1.setCell ⟨v0.heap.size, 0, none⟩ (.int .i64 3)).setCell ⟨v0.heap.size, 1, none⟩ (.int .i64 0)).setCell ⟨v0.heap.size, 2, none⟩ (.slice none 0 0)) from ⟨cell1_set _ (by omega) (cell1_set _ (by omega) (cell1_set _ (by omega) (s0))), cell1_set _ (by omega) (cell1_set _ (by omega) (cell1_set _ (by omega) (s1))), cell1_set _ (by omega) (cell1_set _ (by omega) (cell1_set _ (by omega) (s2))), cell1_set _ (by omega) (cell1_set _ (by omega) (cell1_set _ (by omega) (s3)))⟩)
    have HKB := Lib.hid (show (fun w' => w'.cell? ⟨w.heap.size, 0, none⟩ = some (.int .i64 3) ∧ w'.cell? ⟨w.heap.size, 1, none⟩ = some (.int .i64 0) ∧ w'.cell? ⟨w.heap.size, 2, none⟩ = some (.slice none 0 0) ∧ w'.cell? ⟨w.heap.size, 3, none⟩ = some (.string (bs k))) ((((v1.setCell ⟨v0.heap.size, 0, none⟩ (.int .i64 3)).setCell ⟨v0.heap.size, 1, none⟩ (.int .i64 0)).setCell ⟨v0.heap.size, 2, none⟩ (.slice none 0 0)).setCell ⟨v0.heap.size, 6, none⟩ (.string (bs k))) from ⟨cell1_set _ (by omega) (cell1_set _ (by omega) (cell1_set _ (by omega) (cell1_set _ (by omega) (s0)))), cell1_set _ (by omega) (cell1_set _ (by omega) (cell1_set _ (by omega) (cell1_set _ (by omega) (s1)))), cell1_set _ (by omega) (cell1_set _ (by omega) (cell1_set _ (by omega) (cell1_set _ (by omega) (s2)))), cell1_set _ (by omega) (cell1_set _ (by omega) (cell1_set _ (by omega) (cell1_set _ (by omega) (s3))))⟩)
    have g6 : (((v1.setCell ⟨v0.heap.size, 0, none⟩ (.int .i64 3)).setCell ⟨v0.heap.size, 1, none⟩ (.int .i64 0)).setCell ⟨v0.heap.size, 2, none⟩ (.slice none 0 0)).cell? ⟨v0.heap.size, 6, none⟩ = some (.string ⟨#[]⟩) := (((HE.out.set 0 (.int .i64 3)).set 1 (.int .i64 0)).set 2 (.slice none 0 0)).cell 6
    have h6 := (((HE.out.set 0 (.int .i64 3)).set 1 (.int .i64 0)).set 2 (.slice none 0 0)).free 6
    go_upto_region 3 with (fail)
    refine wp_region_held_drew (S := (fun w' => w'.cell? ⟨w.heap.size, 0, none⟩ = some (.int .i64 3) ∧ w'.cell? ⟨w.heap.size, 1, none⟩ = some (.int .i64 0) ∧ w'.cell? ⟨w.heap.size, 2, none⟩ = some (.slice none 0 0) ∧ w'.cell? ⟨w.heap.size, 3, none⟩ = some (.string (bs k)))) (by kernel_rfl) ?_ (fun hHeld => ?_)
    · exact HS0.out
    refine tkX (i := 0) 15 ?_
    simp only [sA, sB, sC]
    refine tkX (i := 1) 16 ?_
    simp only [sA, sB, sC]
    refine tkX (i := 2) 17 ?_
    simp only [sA, sB, sC]
    refine tkX (i := 3) 18 ?_
    simp only [sA, sB, sC]
    refine tkX (i := 4) 19 ?_
    simp only [sA, sB, sC]
    refine wpAnyH_ready (rs := [5]) (by kernel_rfl) (by simp) ?_
    refine (AllReadyH.cons rfl (fun K hK => ?_) AllReadyH.nil)
    go_simp
    refine hK.out _ _ ?_ (fun hHeld2 => ?_)
    · exact HKA.out
    clear hK K
    (try simp only [Act.put, sA, sB, sC])
    refine tkX (i := 6) 20 ?_
    simp only [sA, sB, sC]
    refine wpAnyH_ready (rs := [7]) (by kernel_rfl) (by simp) ?_
    refine (AllReadyH.cons rfl (fun K hK => ?_) AllReadyH.nil)
    go_simp
    refine hK.out _ _ ?_ (fun hHeld3 => ?_)
    · exact HKB.out
    clear hK K
    (try simp only [Act.put, sA, sB, sC])
    refine wpAnyH_done (by kernel_rfl) ?_ _
    generalize hW : ((((v1.setCell ⟨v0.heap.size, 0, none⟩ (.int .i64 3)).setCell ⟨v0.heap.size, 1, none⟩ (.int .i64 0)).setCell ⟨v0.heap.size, 2, none⟩ (.slice none 0 0)).setCell ⟨v0.heap.size, 6, none⟩ (.string (bs k))).drew = v2 at HE2 HRB2 HB2 ⊢
    clear hW hHeld hHeld2 hHeld3 HKA HKB HS0 g6 h6
    clear HE HRB HB HS s0 s1 s2 s3 e0 e1 e2 e3 e4 e5 e6 e7 f0 f1 f2 f6
    have HE := HE2; have HRB := HRB2; have HB := HB2; clear HE2 HRB2 HB2
    obtain ⟨e0, e1, e2, e3, e4, e5, e6, e7⟩ := HE.out.c8
    have r0 : v2.cell? ⟨(w.heap.size + 1), 0, none⟩ = some (.int .i64 0) := HRB.out.cell 0
    have r1 : v2.cell? ⟨(w.heap.size + 1), 1, none⟩ = some (.int .i64 0) := HRB.out.cell 1
    have r2 : v2.cell? ⟨(w.heap.size + 1), 2, none⟩ = some (.slice none 0 0) := HRB.out.cell 2
    have r3 : v2.cell? ⟨(w.heap.size + 1), 3, none⟩ = some (.slice none 0 0) := HRB.out.cell 3
    have r4 : v2.cell? ⟨(w.heap.size + 1), 4, none⟩ = some (.slice none 0 0) := HRB.out.cell 4
    have r5 : v2.cell? ⟨(w.heap.size + 1), 5, none⟩ = some (.slice none 0 0) := HRB.out.cell 5
    have r6 : v2.cell? ⟨(w.heap.size + 1), 6, none⟩ = some (.string ⟨#[]⟩) := HRB.out.cell 6
    have r7 : v2.cell? ⟨(w.heap.size + 1), 7, none⟩ = some (.int .i64 0) := HRB.out.cell 7
    have f0 := HRB.out.free 0
    have f1 := HRB.out.free 1
    have f2 := HRB.out.free 2
    have f3 := HRB.out.free 3
    have f4 := HRB.out.free 4
    have f5 := HRB.out.free 5
    have f6 := HRB.out.free 6
    have f7 := HRB.out.free 7
    have HK := Lib.hid (HRB.out.sets8 (.int .i64 3) (.int .i64 0) (.slice none 0 0) (.slice oa on oc) (.slice none 0 0) (.slice none 0 0) (.string (bs k)) (.int .i64 0))
    go_wp2
    have k0 := HK.out.cell 0
    have k1 := HK.out.cell 1
    have k2 := HK.out.cell 2
    have k3 := HK.out.cell 3
    have k4 := HK.out.cell 4
    have k5 := HK.out.cell 5
    have k6 := HK.out.cell 6
    have k7 := HK.out.cell 7
    simp only [List.getElem?_toArray, List.getElem?_cons_zero, List.getElem?_cons_succ] at k0 k1 k2 k3 k4 k5 k6 k7
    refine bodyPost_ret (v := .agg #[.int .i64 3, .int .i64 0, .slice none 0 0, .slice oa on oc, .slice none 0 0, .slice none 0 0, .string (bs k), .int .i64 0]) (by simp [results, Tryz.results120, go_sem, k0, k1, k2, k3, k4, k5, k6, k7] <;> rfl) rfl ⟨rfl, below_sets8 HB.out _ (by omega) _ _ _ _ _ _ _ _⟩
end Go.Proofs.YtnglaegofhpleaaGreatDoor
namespace Go.Proofs.YtnglaegofhpleaaGreatDoor
open Go.RowKit

def evE (al : Bool) (rd wri : List (List UInt8)) (M : List Pr) (op : Int) (l : List Vl) : Rs × List (List UInt8) :=
  if (stB M && (ftB ⟨al, rd, wri⟩ && l.all varB)) = true then evS al rd M op l else (.ab 1009, [])
theorem vars_are : ∀ (V : List Pr), (V.map Pr.key).Nodup → ∀ i (h : i < V.length), getP V V[i].key = V[i].v
  | [], _, i, h => absurd h (Nat.not_lt_zero _)
  | p :: L, hn, 0, _ => by rw [getP_cons]; simp
  | p :: L, hn, i + 1, h => by
    rw [List.map_cons, List.nodup_cons] at hn
    have hi : i < L.length := by simpa using h
    rw [getP_cons, List.getElem_cons_succ, if_neg, vars_are L hn.2 i hi]
    intro e
    have e2 : p.key = L[i].key := by simpa using e
    exact hn.1 (e2 ▸ List.mem_map.2 ⟨L[i], List.getElem_mem hi, rfl⟩)
theorem take_notin {V : List Pr} (hn : (V.map Pr.key).Nodup) {k : Nat} (hk : k < V.length) : V[k].key ∉ (V.take k).map Pr.key := by
  intro hm
  rw [List.mem_map] at hm
  obtain ⟨p, hp, he⟩ := hm
  obtain ⟨j, hj, hpj⟩ := List.mem_iff_getElem.1 hp
  rw [List.length_take] at hj
  rw [List.getElem_take] at hpj
  have hj2 : j < V.length := by omega
  have h3 : (V.map Pr.key)[j]'(by simpa using hj2) = (V.map Pr.key)[k]'(by simpa using hk) := by rw [List.getElem_map, List.getElem_map, hpj, he]
  exact (List.pairwise_iff_getElem.1 hn) j k (by simpa using hj2) (by simpa using hk) (by omega) h3
theorem allv_bad {V : List Pr} {k : Nat} (hk : k < V.length) {p : Pr} (hp : V[k] = p) (hb : varB p.v = false) : V.all (fun p => varB p.v) = false := by
  rw [List.all_eq_false]; exact ⟨V[k], List.getElem_mem hk, by rw [hp, hb]; simp⟩
theorem allv_next {V : List Pr} {k : Nat} (hk : k < V.length) {p : Pr} (hp : V[k] = p) (hb : varB p.v = true) (h : (V.take k).all (fun p => varB p.v) = true) : (V.take (k + 1)).all (fun p => varB p.v) = true := by
  rw [List.take_succ_eq_append_getElem hk, List.all_append, h, hp]; simp [hb]
theorem Mp.ne {m b : Nat} {L : List Pr} {cs : Array Value} {T : TypeId} {W : World} (h : Mp m L W) (hb : Bx b cs T W) : m ≠ b := by
  intro e; subst e
  obtain ⟨_, _, h1, _⟩ := h
  exact absurd (h1.symm.trans hb) (by intro h; cases h)
theorem boxes4 (w : World) (A B C D : Array Value) (S T U X : TypeId) : ∃ v0, (((w.alloc (.cells A S)).alloc (.cells B T)).alloc (.cells C U)).alloc (.cells D X) = v0 ∧ Below w.heap.size w v0 ∧ Bx w.heap.size A S v0 ∧ Bx (w.heap.size + 1) B T v0 ∧ Bx (w.heap.size + 2) C U v0 ∧ Bx (w.heap.size + 3) D X v0 := by
  have h2 := Bx.new1 w (.cells A S) B T
  have h3 := Bx.new2 w (.cells A S) (.cells B T) C U
  have h4 := Bx.new (((w.alloc (.cells A S)).alloc (.cells B T)).alloc (.cells C U)) D X
  rw [show (((w.alloc (.cells A S)).alloc (.cells B T)).alloc (.cells C U)).heap.size = w.heap.size + 3 by simp] at h4
  exact ⟨_, rfl, ((((Below.refl w.heap.size w).alloc (Nat.le_refl _) _).alloc (by simp) _).alloc (by simp; omega) _).alloc (by simp; omega) _, (((Bx.new w A S).alloc _).alloc _).alloc _, (h2.alloc _).alloc _, h3.alloc _, h4⟩

set_option maxRecDepth 100000 in
set_option maxHeartbeats 32000000 in
theorem Eval_any (sa ra wa va aa : Option Addr) (sc rc wc vc ac : Nat) (M : List Pr) (al : Bool) (rd wri : List (List UInt8)) (op : Int) (V : List Pr) (names : List (List UInt8)) (vals : List Vl) (hnk : V.map Pr.key = names) (hvv : V.map Pr.v = vals) (hnd : names.Nodup) (hnm : ∀ x ∈ names, isNm x = true ∧ x.length ≤ 1000000) (hop : (vals.length = 1 ∧ (op = 9 ∨ op = 18 ∨ op = 20 ∨ op = 21 ∨ op = 22 ∨ op = 23 ∨ op = 24)) ∨ (vals.length = 2 ∧ 4 ≤ op ∧ op ≤ 19 ∧ op ≠ 9 ∧ op ≠ 18)) (hok : ∀ v ∈ vals, OkV v) (hML : ∀ p ∈ M, p.key.length ≤ 9223372036854775807 ∧ p.v.s.length ≤ 9223372036854775807) (hRL : ∀ q ∈ rd ++ wri, q.length ≤ 9223372036854775807) (hl1 : M.length ≤ 9000000000000) (hl2 : rd.length ≤ 9000000000000) (hl3 : wri.length ≤ 9000000000000) (w : World) (hM : CellsAt w (.slice sa M.length sc) M.length (prLs M)) (hR : StrS w (.slice ra rd.length rc) rd) (hWr : StrS w (.slice wa wri.length wc) wri) (hVs : CellsAt w (.slice va V.length vc) V.length (prLs V)) (hA : CellsAt w (.slice aa vals.length ac) vals.length (exLs names)) (hLd : Laid w) :
    Calls Tryz.prog 93 #[.agg #[.int .i64 op, .int .i64 0, .string ⟨#[]⟩, .slice aa vals.length ac], .slice va V.length vc, .slice sa M.length sc, .agg #[.bool al, .slice ra rd.length rc, .slice wa wri.length wc]] w fun e w' => ∃ rv, e = .returned (.tuple #[.agg (vEnd (evE al rd wri M op vals).1), .agg (efA (evE al rd wri M op vals).1 rv)]) ∧ w'.ownsRow w.heap.size 9 1 rv (evE al rd wri M op vals).2.length ((evE al rd wri M op vals).2.map strV) ∧ Below w.heap.size w w' := by
  obtain ⟨⟨R, ks⟩, hU⟩ : ∃ x, evE al rd wri M op vals = x := ⟨_, rfl⟩
  rw [hU]
  simp only
  have hall : vals.all varB = V.all (fun p => varB p.v) := by rw [← hvv, List.all_map]; rfl
  have hvl : vals.length = V.length := by rw [← hvv, List.length_map]
  have hnl : names.length = V.length := by rw [← hnk, List.length_map]
  have hva : VarsAre V names vals := by
    refine ⟨by omega, fun k h h2 => ?_⟩
    have hk : k < V.length := by omega
    have e1 : names[k] = V[k].key := by subst hnk; exact List.getElem_map _
    have e2 : vals[k] = V[k].v := by subst hvv; exact List.getElem_map _
    rw [e1, e2]
    exact ⟨hasK_at hk rfl, vars_are V (hnk ▸ hnd) k hk⟩
  have hndV : (V.map Pr.key).Nodup := hnk ▸ hnd
  have har : arS op = (vals.length : Int) := by rcases hop with ⟨h, h1⟩ | ⟨h, h1⟩ <;> rw [h] <;> unfold arS <;> simp <;> omega
  have h4 : 4 ≤ op := by omega
  have hvb : vals.length ≤ 2 := by omega
  have hlv : V.length ≤ 2 := by omega
  have hokv : ∀ p ∈ V, OkV p.v := fun p hp => hok p.v (hvv ▸ List.mem_map.2 ⟨p, hp, rfl⟩)
  have HOV := Lib.hid hokv; clear hokv
  have HU := Lib.hid hU; have HALL := Lib.hid hall; have HVA := Lib.hid hva; have HND := Lib.hid hndV; have HAR := Lib.hid har; have HOP := Lib.hid hop; have HOK := Lib.hid hok; have HML := Lib.hid hML; have HRL := Lib.hid hRL; have HM := Lib.hid hM; have HRS := Lib.hid hR; have HWR := Lib.hid hWr; have HVS := Lib.hid hVs; have HA := Lib.hid hA; have HLD := Lib.hid hLd; have HNM := Lib.hid hnm; have HVL := Lib.hid hvl; have HNL := Lib.hid hnl; clear hU hall hva hndV har hop hok hML hRL hM hR hWr hVs hA hLd hnm hnd hnk hvv hvl hnl
  obtain ⟨v0, hW0, hb, hE, hF, h1, h2⟩ := boxes4 w #[.int .i64 op, .int .i64 0, .string ⟨#[]⟩, .slice aa vals.length ac] #[.bool al, .slice ra rd.length rc, .slice wa wri.length wc] #[.int .i64 0, .int .i64 0, .string ⟨#[]⟩] #[.int .i64 0, .int .i64 0, .slice none 0 0, .slice none 0 0, .slice none 0 0, .slice none 0 0, .string ⟨#[]⟩, .int .i64 0] 116 29 52 37
  have HW0 := Lib.hid hW0; have HW := Lib.hid hb; have HE := Lib.hid hE; have HF := Lib.hid hF; have HR1 := Lib.hid h1; have HR2 := Lib.hid h2; clear hW0 hb hE hF h1 h2
  go_enter Tryz.func93, Tryz.ntmps93
  go_upto_region 1 with (fail)
  rw [HW0.out]
  clear HW0
  obtain ⟨e0, e1, e2, e3⟩ := HE.out.c4
  obtain ⟨g0, g1, g2⟩ := HF.out.c3
  go_wp2_with fail
  refine (ValidExpr_any op vals.length aa ac names h4 HAR.out (by have := HVL.out; have := HNL.out; omega) hvb HNM.out _ (HA.out.below HW.out)).mono ?_
  rintro er w1 ⟨rfl, hb1⟩
  clear e0 e1 e2 e3 g0 g1 g2
  have HE := Lib.hid (HE.out.call hb1); have HF := Lib.hid (HF.out.call hb1); have HR1 := Lib.hid (HR1.out.call hb1); have HR2 := Lib.hid (HR2.out.call hb1); have HW := Lib.hid (btrans HW.out HW.out.size hb1); clear hb1
  obtain ⟨g0, g1, g2⟩ := HF.out.c3
  go_wp2_with fail
  refine (SValid_any sa sc M _ hl1 HML.out (HM.out.below HW.out)).mono ?_
  obtain ⟨sb, hsb⟩ : ∃ b, stB M = b := ⟨_, rfl⟩
  rw [hsb]
  rintro er w2 ⟨rfl, hb2⟩
  have HSB := Lib.hid hsb
  clear hsb g0 g1 g2
  have HE := Lib.hid (HE.out.call hb2); have HF := Lib.hid (HF.out.call hb2); have HR1 := Lib.hid (HR1.out.call hb2); have HR2 := Lib.hid (HR2.out.call hb2); have HW := Lib.hid (btrans HW.out HW.out.size hb2); clear hb2
  cases sb with
  | false =>
    have hUU : (R, ks) = (Rs.ab 1009, []) := HU.out.symm.trans (if_neg (by rw [HSB.out]; simp))
    obtain ⟨rfl, rfl⟩ := pair_eq hUU
    clear hUU
    go_wp2_with fail
    refine (iwrong_any _).mono ?_
    rintro er w9 ⟨rfl, hb9⟩
    have HR1 := Lib.hid (HR1.out.call hb9); have HR2 := Lib.hid (HR2.out.call hb9); have HW := Lib.hid (btrans HW.out HW.out.size hb9); clear hb9
    obtain ⟨r0, r1, r2⟩ := HR1.out.c3
    have f0 := HR1.out.free 0
    have f1 := HR1.out.free 1
    have f2 := HR1.out.free 2
    have HA1 := Lib.hid (HR1.out.sets3 (.int .i64 0) (.int .i64 0) (.string ⟨#[]⟩))
    have HA2 := Lib.hid (HR2.out.sets3_ne (c := w.heap.size + 2) (by omega) (.int .i64 0) (.int .i64 0) (.string ⟨#[]⟩))
    have HAW := Lib.hid (below_sets3 HW.out (w.heap.size + 2) (by omega) (.int .i64 0) (.int .i64 0) (.string ⟨#[]⟩))
    obtain ⟨s0, s1, s2, s3, s4, s5, s6, s7⟩ := HA2.out.c8
    have z0 := HA2.out.free 0
    have z1 := HA2.out.free 1
    have z2 := HA2.out.free 2
    have z3 := HA2.out.free 3
    have z4 := HA2.out.free 4
    have z5 := HA2.out.free 5
    have z6 := HA2.out.free 6
    have z7 := HA2.out.free 7
    have HB1 := Lib.hid ((((((((HA1.out.other (c := w.heap.size + 3) (i := 0) (by omega) (.int .i64 2)).other (c := w.heap.size + 3) (i := 1) (by omega) (.int .i64 1009)).other (c := w.heap.size + 3) (i := 2) (by omega) (.slice none 0 0)).other (c := w.heap.size + 3) (i := 3) (by omega) (.slice none 0 0)).other (c := w.heap.size + 3) (i := 4) (by omega) (.slice none 0 0)).other (c := w.heap.size + 3) (i := 5) (by omega) (.slice none 0 0)).other (c := w.heap.size + 3) (i := 6) (by omega) (.string ⟨#[]⟩)).other (c := w.heap.size + 3) (i := 7) (by omega) (.int .i64 0))
    have HB2 := Lib.hid (HA2.out.sets8 (.int .i64 2) (.int .i64 1009) (.slice none 0 0) (.slice none 0 0) (.slice none 0 0) (.slice none 0 0) (.string ⟨#[]⟩) (.int .i64 0))
    have HBW := Lib.hid (below_sets8 HAW.out (w.heap.size + 3) (by omega) (.int .i64 2) (.int .i64 1009) (.slice none 0 0) (.slice none 0 0) (.slice none 0 0) (.slice none 0 0) (.string ⟨#[]⟩) (.int .i64 0))
    go_wp2
    obtain ⟨k0, k1, k2⟩ := HB1.out.c3
    obtain ⟨l0, l1, l2, l3, l4, l5, l6, l7⟩ := HB2.out.c8
    refine bodyPost_ret (v := .tuple #[.agg #[.int .i64 0, .int .i64 0, .string ⟨#[]⟩], .agg #[.int .i64 2, .int .i64 1009, .slice none 0 0, .slice none 0 0, .slice none 0 0, .slice none 0 0, .string ⟨#[]⟩, .int .i64 0]]) (by simp [results, Tryz.results93, go_sem, k0, k1, k2, l0, l1, l2, l3, l4, l5, l6, l7] <;> rfl) rfl ⟨(.slice none 0 0), rfl, own_nil _ _ _ _, HBW.out⟩
  | true =>
    obtain ⟨g0, g1, g2⟩ := HF.out.c3
    go_wp2_with fail
    refine (ivalid_any al ra wa rc wc rd wri _ (HRS.out.below HW.out) (HWR.out.below HW.out) ⟨hl2, hl3⟩ HRL.out).mono ?_
    obtain ⟨fb, hfb⟩ : ∃ b, ftB ⟨al, rd, wri⟩ = b := ⟨_, rfl⟩
    rw [hfb]
    rintro er w3 ⟨rfl, hb3⟩
    have HFB := Lib.hid hfb
    clear hfb g0 g1 g2
    have HE := Lib.hid (HE.out.call hb3); have HF := Lib.hid (HF.out.call hb3); have HR1 := Lib.hid (HR1.out.call hb3); have HR2 := Lib.hid (HR2.out.call hb3); have HW := Lib.hid (btrans HW.out HW.out.size hb3); clear hb3
    cases fb with
    | false =>
      have hUU : (R, ks) = (Rs.ab 1009, []) := HU.out.symm.trans (if_neg (by rw [HFB.out]; simp))
      obtain ⟨rfl, rfl⟩ := pair_eq hUU
      clear hUU
      go_wp2_with fail
      refine (iwrong_any _).mono ?_
      rintro er w9 ⟨rfl, hb9⟩
      have HR1 := Lib.hid (HR1.out.call hb9); have HR2 := Lib.hid (HR2.out.call hb9); have HW := Lib.hid (btrans HW.out HW.out.size hb9); clear hb9
      obtain ⟨r0, r1, r2⟩ := HR1.out.c3
      have f0 := HR1.out.free 0
      have f1 := HR1.out.free 1
      have f2 := HR1.out.free 2
      have HA1 := Lib.hid (HR1.out.sets3 (.int .i64 0) (.int .i64 0) (.string ⟨#[]⟩))
      have HA2 := Lib.hid (HR2.out.sets3_ne (c := w.heap.size + 2) (by omega) (.int .i64 0) (.int .i64 0) (.string ⟨#[]⟩))
      have HAW := Lib.hid (below_sets3 HW.out (w.heap.size + 2) (by omega) (.int .i64 0) (.int .i64 0) (.string ⟨#[]⟩))
      obtain ⟨s0, s1, s2, s3, s4, s5, s6, s7⟩ := HA2.out.c8
      have z0 := HA2.out.free 0
      have z1 := HA2.out.free 1
      have z2 := HA2.out.free 2
      have z3 := HA2.out.free 3
      have z4 := HA2.out.free 4
      have z5 := HA2.out.free 5
      have z6 := HA2.out.free 6
      have z7 := HA2.out.free 7
      have HB1 := Lib.hid ((((((((HA1.out.other (c := w.heap.size + 3) (i := 0) (by omega) (.int .i64 2)).other (c := w.heap.size + 3) (i := 1) (by omega) (.int .i64 1009)).other (c := w.heap.size + 3) (i := 2) (by omega) (.slice none 0 0)).other (c := w.heap.size + 3) (i := 3) (by omega) (.slice none 0 0)).other (c := w.heap.size + 3) (i := 4) (by omega) (.slice none 0 0)).other (c := w.heap.size + 3) (i := 5) (by omega) (.slice none 0 0)).other (c := w.heap.size + 3) (i := 6) (by omega) (.string ⟨#[]⟩)).other (c := w.heap.size + 3) (i := 7) (by omega) (.int .i64 0))
      have HB2 := Lib.hid (HA2.out.sets8 (.int .i64 2) (.int .i64 1009) (.slice none 0 0) (.slice none 0 0) (.slice none 0 0) (.slice none 0 0) (.string ⟨#[]⟩) (.int .i64 0))
      have HBW := Lib.hid (below_sets8 HAW.out (w.heap.size + 3) (by omega) (.int .i64 2) (.int .i64 1009) (.slice none 0 0) (.slice none 0 0) (.slice none 0 0) (.slice none 0 0) (.string ⟨#[]⟩) (.int .i64 0))
      go_wp2
      obtain ⟨k0, k1, k2⟩ := HB1.out.c3
      obtain ⟨l0, l1, l2, l3, l4, l5, l6, l7⟩ := HB2.out.c8
      refine bodyPost_ret (v := .tuple #[.agg #[.int .i64 0, .int .i64 0, .string ⟨#[]⟩], .agg #[.int .i64 2, .int .i64 1009, .slice none 0 0, .slice none 0 0, .slice none 0 0, .slice none 0 0, .string ⟨#[]⟩, .int .i64 0]]) (by simp [results, Tryz.results93, go_sem, k0, k1, k2, l0, l1, l2, l3, l4, l5, l6, l7] <;> rfl) rfl ⟨(.slice none 0 0), rfl, own_nil _ _ _ _, HBW.out⟩
    | true =>
      obtain ⟨g0, g1, g2⟩ := HF.out.c3
      go_wp2_with fail
      refine (newM_any sa ra wa sc rc wc M al rd wri _).mono ?_
      rintro er w4 ⟨mb, vm, om, rfl, hb4, hx, hv, ho, hmb, hvm, hom, hvo⟩
      have hw3 := HR2.out.lt
      clear g0 g1 g2
      have HX := Lib.hid hx; have HV := Lib.hid hv; have HO := Lib.hid ho; clear hx hv ho
      have HE := Lib.hid (HE.out.call hb4); have HF := Lib.hid (HF.out.call hb4); have HR1 := Lib.hid (HR1.out.call hb4); have HR2 := Lib.hid (HR2.out.call hb4); have HW := Lib.hid (btrans HW.out HW.out.size hb4); clear hb4
      obtain ⟨tb, htb⟩ : ∃ n, w4.heap.size = n := ⟨_, rfl⟩
      have hxl := HX.out.lt; have hvl := HV.out.lt; have hol := HO.out.lt
      have hb5 := (Below.refl w4.heap.size w4).alloc (Nat.le_refl _) (.cells #[.pointer (some ⟨mb, 0, none⟩)] 138)
      have hT := Bx.new w4 #[.pointer (some ⟨mb, 0, none⟩)] 138
      rw [htb] at hT
      have HT := Lib.hid hT; clear hT
      have HX := Lib.hid (HX.out.call hb5); have HV := Lib.hid (HV.out.call hb5); have HO := Lib.hid (HO.out.call hb5)
      clear HF
      have HE := Lib.hid (HE.out.call hb5); have HR1 := Lib.hid (HR1.out.call hb5); have HR2 := Lib.hid (HR2.out.call hb5); have HW := Lib.hid (btrans HW.out HW.out.size hb5); clear hb5
      rw [htb] at hxl hvl hol
      go_upto_region 4 with (fail)
      generalize hW : w4.alloc (.cells #[.pointer (some ⟨mb, 0, none⟩)] 138) = v1 at HE HR1 HR2 HT HX HV HO HW ⊢
      clear hW
      (try rw [htb])
      clear htb
      go_wp2
      go_loopw [38] (fun i wr => ∃ k : Nat, k ≤ V.length ∧ i = .int .i64 k ∧ Hid ((V.take k).all (fun p => varB p.v) = true) ∧ Hid (Bx w.heap.size #[.int .i64 op, .int .i64 0, .string ⟨#[]⟩, .slice aa vals.length ac] 116 wr) ∧ Hid (Bx (w.heap.size + 2) #[.int .i64 0, .int .i64 0, .string ⟨#[]⟩] 52 wr) ∧ Hid (Bx (w.heap.size + 3) #[.int .i64 0, .int .i64 0, .slice none 0 0, .slice none 0 0, .slice none 0 0, .slice none 0 0, .string ⟨#[]⟩, .int .i64 0] 37 wr) ∧ Hid (Bx tb #[.pointer (some ⟨mb, 0, none⟩)] 138 wr) ∧ Hid (Bx mb #[.slice sa M.length sc, .bool al, .slice ra rd.length rc, .slice wa wri.length wc, .map (some vm), .map (some om), .int .i64 0, .int .i64 0, .slice none 0 0, .slice none 0 0, .slice none 0 0, .slice none 0 0, .string ⟨#[]⟩, .int .i64 0] 143 wr) ∧ Hid (Mp vm (V.take k) wr) ∧ Hid (Mp om [] wr) ∧ Below w.heap.size w wr) (fun i _ => V.length - (intOf i).toNat)
      case atStart => exact ⟨0, Nat.zero_le _, by first | exact True.intro | rfl, Lib.hid rfl, HE, HR1, HR2, HT, HX, HV, HO, HW.out⟩
      case round =>
        clear HE HR1 HR2 HT HX HV HO HW
        obtain ⟨k, hk, rfl, HQ, HE, HR1, HR2, HT, HX, HV, HO, hW⟩ := hrel
        have HW := Lib.hid hW; clear hW
        by_cases hlt : k < V.length
        · have hlt' : (k : Int) < (V.length : Int) := by omega
          have hkb : (0 : Int) ≤ (k : Int) ∧ (k : Int) < (V.length : Int) := ⟨by omega, by omega⟩
          have hw1 : IntKind.i64.wrap ((k : Int) + 1) = (k : Int) + 1 := by rw [IntKind.wrap_i64]; omega
          obtain ⟨b, off, rfl, p0, p1, p2, p3⟩ := pr_cells (HVS.out.below HW.out) hlt
          obtain ⟨p, hp⟩ : ∃ p, V[k] = p := ⟨_, rfl⟩
          rw [hp] at p0 p1 p2 p3
          have HP := Lib.hid hp; clear hp
          have hb1 := (Below.refl wr.heap.size wr).alloc (Nat.le_refl _) (.cells #[.string (bs p.key), .int .i64 p.v.k, .int .i64 p.v.n, .string (bs p.v.s)] 55)
          have HPB := Lib.hid (Bx.new wr #[.string (bs p.key), .int .i64 p.v.k, .int .i64 p.v.n, .string (bs p.v.s)] 55)
          have hpl := HT.out.lt; have hpx := HX.out.lt; have hpv := HV.out.lt; have hpo := HO.out.lt
          have HE := Lib.hid (HE.out.call hb1); have HR1 := Lib.hid (HR1.out.call hb1); have HR2 := Lib.hid (HR2.out.call hb1); have HT := Lib.hid (HT.out.call hb1); have HX := Lib.hid (HX.out.call hb1); have HV := Lib.hid (HV.out.call hb1); have HO := Lib.hid (HO.out.call hb1); have HW := Lib.hid (btrans HW.out HW.out.size hb1); clear hb1
          go_upto_region 7 with (fail)
          obtain ⟨pb, hpb⟩ : ∃ n, wr.heap.size = n := ⟨_, rfl⟩
          rw [hpb] at HPB hpl hpx hpv hpo
          generalize hW : wr.alloc (.cells #[.string (bs p.key), .int .i64 p.v.k, .int .i64 p.v.n, .string (bs p.v.s)] 55) = v2 at HE HR1 HR2 HT HX HV HO HW HPB ⊢
          clear hW p0 p1 p2 p3
          (try rw [hpb])
          clear hpb
          obtain ⟨p0, p1, p2, p3⟩ := HPB.out.c4
          obtain ⟨vb2, hvb2⟩ : ∃ b, varB p.v = b := ⟨_, rfl⟩
          have HVB := Lib.hid hvb2; clear hvb2
          have hps : p.v.s.length ≤ 9223372036854775807 := by have := (HOV.out p (HP.out ▸ List.getElem_mem _)).2.2; omega
          go_wp2_with fail
          refine (ivariable_any p.v _ hps).mono ?_
          rw [HVB.out]
          rintro er w5 ⟨rfl, hb5⟩
          clear p0 p1 p2 p3
          have HE := Lib.hid (HE.out.call hb5); have HR1 := Lib.hid (HR1.out.call hb5); have HR2 := Lib.hid (HR2.out.call hb5); have HT := Lib.hid (HT.out.call hb5); have HX := Lib.hid (HX.out.call hb5); have HV := Lib.hid (HV.out.call hb5); have HO := Lib.hid (HO.out.call hb5); have HPB := Lib.hid (HPB.out.call hb5); have HW := Lib.hid (btrans HW.out HW.out.size hb5); clear hb5
          cases vb2 with
          | false =>
            have hUU : (R, ks) = (Rs.ab 1009, []) := HU.out.symm.trans (if_neg (by rw [HALL.out, allv_bad hlt HP.out HVB.out]; simp))
            obtain ⟨rfl, rfl⟩ := pair_eq hUU
            clear hUU
            go_wp2_with fail
            refine (iwrong_any _).mono ?_
            rintro er w9 ⟨rfl, hb9⟩
            have HR1 := Lib.hid (HR1.out.call hb9); have HR2 := Lib.hid (HR2.out.call hb9); have HW := Lib.hid (btrans HW.out HW.out.size hb9); clear hb9
            obtain ⟨r0, r1, r2⟩ := HR1.out.c3
            have f0 := HR1.out.free 0
            have f1 := HR1.out.free 1
            have f2 := HR1.out.free 2
            have HA1 := Lib.hid (HR1.out.sets3 (.int .i64 0) (.int .i64 0) (.string ⟨#[]⟩))
            have HA2 := Lib.hid (HR2.out.sets3_ne (c := w.heap.size + 2) (by omega) (.int .i64 0) (.int .i64 0) (.string ⟨#[]⟩))
            have HAW := Lib.hid (below_sets3 HW.out (w.heap.size + 2) (by omega) (.int .i64 0) (.int .i64 0) (.string ⟨#[]⟩))
            obtain ⟨s0, s1, s2, s3, s4, s5, s6, s7⟩ := HA2.out.c8
            have z0 := HA2.out.free 0
            have z1 := HA2.out.free 1
            have z2 := HA2.out.free 2
            have z3 := HA2.out.free 3
            have z4 := HA2.out.free 4
            have z5 := HA2.out.free 5
            have z6 := HA2.out.free 6
            have z7 := HA2.out.free 7
            have HB1 := Lib.hid ((((((((HA1.out.other (c := w.heap.size + 3) (i := 0) (by omega) (.int .i64 2)).other (c := w.heap.size + 3) (i := 1) (by omega) (.int .i64 1009)).other (c := w.heap.size + 3) (i := 2) (by omega) (.slice none 0 0)).other (c := w.heap.size + 3) (i := 3) (by omega) (.slice none 0 0)).other (c := w.heap.size + 3) (i := 4) (by omega) (.slice none 0 0)).other (c := w.heap.size + 3) (i := 5) (by omega) (.slice none 0 0)).other (c := w.heap.size + 3) (i := 6) (by omega) (.string ⟨#[]⟩)).other (c := w.heap.size + 3) (i := 7) (by omega) (.int .i64 0))
            have HB2 := Lib.hid (HA2.out.sets8 (.int .i64 2) (.int .i64 1009) (.slice none 0 0) (.slice none 0 0) (.slice none 0 0) (.slice none 0 0) (.string ⟨#[]⟩) (.int .i64 0))
            have HBW := Lib.hid (below_sets8 HAW.out (w.heap.size + 3) (by omega) (.int .i64 2) (.int .i64 1009) (.slice none 0 0) (.slice none 0 0) (.slice none 0 0) (.slice none 0 0) (.string ⟨#[]⟩) (.int .i64 0))
            go_wp2
            obtain ⟨k0, k1, k2⟩ := HB1.out.c3
            obtain ⟨l0, l1, l2, l3, l4, l5, l6, l7⟩ := HB2.out.c8
            refine bodyPost_ret (v := .tuple #[.agg #[.int .i64 0, .int .i64 0, .string ⟨#[]⟩], .agg #[.int .i64 2, .int .i64 1009, .slice none 0 0, .slice none 0 0, .slice none 0 0, .slice none 0 0, .string ⟨#[]⟩, .int .i64 0]]) (by simp [results, Tryz.results93, go_sem, k0, k1, k2, l0, l1, l2, l3, l4, l5, l6, l7] <;> rfl) rfl ⟨(.slice none 0 0), rfl, own_nil _ _ _ _, HBW.out⟩
          | true =>
            have hni : hasK (V.take k) p.key = false := hasK_none (HP.out ▸ take_notin HND.out hlt)
            have hgn : getP (V.take k) p.key = v00 := getP_none _ (HP.out ▸ take_notin HND.out hlt)
            have HNI := Lib.hid hni; have HGN := Lib.hid hgn; clear hni hgn
            go_wp2_with fail
            have hs0 : ((fun w' => Bx tb #[.pointer (some ⟨mb, 0, none⟩)] 138 w' ∧ Bx mb #[.slice sa M.length sc, .bool al, .slice ra rd.length rc, .slice wa wri.length wc, .map (some vm), .map (some om), .int .i64 0, .int .i64 0, .slice none 0 0, .slice none 0 0, .slice none 0 0, .slice none 0 0, .string ⟨#[]⟩, .int .i64 0] 143 w' ∧ Bx pb #[.string (bs p.key), .int .i64 p.v.k, .int .i64 p.v.n, .string (bs p.v.s)] 55 w' ∧ Mp vm (V.take k) w')) w5.drew := ⟨HT.out, HX.out, HPB.out, HV.out⟩
            have HS0 := Lib.hid hs0; clear hs0
            refine wp_region_held_drew (S := (fun w' => Bx tb #[.pointer (some ⟨mb, 0, none⟩)] 138 w' ∧ Bx mb #[.slice sa M.length sc, .bool al, .slice ra rd.length rc, .slice wa wri.length wc, .map (some vm), .map (some om), .int .i64 0, .int .i64 0, .slice none 0 0, .slice none 0 0, .slice none 0 0, .slice none 0 0, .string ⟨#[]⟩, .int .i64 0] 143 w' ∧ Bx pb #[.string (bs p.key), .int .i64 p.v.k, .int .i64 p.v.n, .string (bs p.v.s)] 55 w' ∧ Mp vm (V.take k) w')) (by kernel_rfl) ?_ (fun hHeld => ?_)
            · exact HS0.out
            refine tkY (i := 0) (v := ?vv1) 49 ?yy1 ?_
            case yy1 =>
              intro wq hSw
              have t0 : wq.cell? ⟨tb, 0, none⟩ = some (.pointer (some ⟨mb, 0, none⟩)) := hSw.1.cell 0
              clear hSw
              go_simp
              (try with_reducible rfl)
            simp only [sA, sB, sC]
            refine tkX (i := 1) 50 ?_
            simp only [sA, sB, sC]
            refine tkX (i := 2) 51 ?_
            simp only [sA, sB, sC]
            refine tkY (i := 3) (v := ?vv4) 52 ?yy4 ?_
            case yy4 =>
              intro wq hSw
              obtain ⟨m0, m1, m2, m3, m4, -⟩ := hSw.2.1.c14
              clear hSw
              go_simp
              (try with_reducible rfl)
            simp only [sA, sB, sC]
            refine tkX (i := 4) 53 ?_
            simp only [sA, sB, sC]
            refine tkY (i := 5) (v := ?vv6) 54 ?yy6 ?_
            case yy6 =>
              intro wq hSw
              obtain ⟨p0, p1, p2, p3⟩ := hSw.2.2.1.c4
              clear hSw
              go_simp
              (try with_reducible rfl)
            simp only [sA, sB, sC]
            refine tkY (i := 6) (v := ?vv7) 55 ?yy7 ?_
            case yy7 =>
              intro wq hSw
              have hlk := run_look hSw.2.2.2 p.key
              rw [HGN.out, HNI.out] at hlk
              simp only [vV, v00] at hlk
              clear hSw
              go_simp
              (try with_reducible rfl)
            simp only [sA, sB, sC]
            refine tkX (i := 7) 48 ?_
            simp only [sA, sB, sC]
            refine tkX (i := 8) 56 ?_
            simp only [sA, sB, sC]
            refine tkX (i := 9) 57 ?_
            simp only [sA, sB, sC]
            refine wpAnyH_ready (rs := [10]) (by kernel_rfl) (by simp) ?_
            refine (AllReadyH.cons rfl (fun K hK => ?_) AllReadyH.nil)
            go_simp
            skip
            focus (try go_wp2_with fail)
            refine hK.out _ _ ?_ (fun hHeld => ?_)
            · exact ⟨hHeld.1.alloc _, hHeld.2.1.alloc _, hHeld.2.2.1.alloc _, hHeld.2.2.2.call ((Below.refl _ _).alloc (Nat.le_refl _) _)⟩
            clear hK K
            (try simp only [Act.put, sA, sB, sC])
            have hszw := HPB.out.lt
            have hb6 := (Below.refl w5.heap.size w5).drew.alloc (Nat.le_refl _) (.cells #[.int .i64 0, .int .i64 0, .string ⟨#[]⟩] 52)
            have HN := Lib.hid (show Bx w5.heap.size #[.int .i64 0, .int .i64 0, .string ⟨#[]⟩] 52 (w5.drew.alloc (.cells #[.int .i64 0, .int .i64 0, .string ⟨#[]⟩] 52)) from Bx.new w5.drew #[.int .i64 0, .int .i64 0, .string ⟨#[]⟩] 52)
            have HE := Lib.hid (HE.out.call hb6); have HR1 := Lib.hid (HR1.out.call hb6); have HR2 := Lib.hid (HR2.out.call hb6); have HT := Lib.hid (HT.out.call hb6); have HX := Lib.hid (HX.out.call hb6); have HV := Lib.hid (HV.out.call hb6); have HO := Lib.hid (HO.out.call hb6); have HPB := Lib.hid (HPB.out.call hb6); have HW := Lib.hid (btrans HW.out HW.out.size hb6); clear hb6
            clear hHeld HS0
            (try rw [show (w5.alloc (.cells #[.int .i64 0, .int .i64 0, .string ⟨#[]⟩] 52)).drew = w5.drew.alloc (.cells #[.int .i64 0, .int .i64 0, .string ⟨#[]⟩] 52) from rfl])
            generalize hW : w5.drew.alloc (.cells #[.int .i64 0, .int .i64 0, .string ⟨#[]⟩] 52) = v3 at HE HR1 HR2 HT HX HV HO HW HPB HN ⊢
            clear hW
            obtain ⟨nb, hnb⟩ : ∃ n, w5.heap.size = n := ⟨_, rfl⟩
            rw [hnb] at HN hszw
            (try rw [hnb])
            skip
            have hvx := HV.out.ne HX.out; have hox := HO.out.ne HX.out
            obtain ⟨n0, n1, n2⟩ := HN.out.c3
            have y0 := HN.out.free 0
            have y1 := HN.out.free 1
            have y2 := HN.out.free 2
            have hbig : w.heap.size + 3 < nb := by omega
            have HKK := Lib.hid (show ((fun w' => Bx tb #[.pointer (some ⟨mb, 0, none⟩)] 138 w' ∧ Bx mb #[.slice sa M.length sc, .bool al, .slice ra rd.length rc, .slice wa wri.length wc, .map (some vm), .map (some om), .int .i64 0, .int .i64 0, .slice none 0 0, .slice none 0 0, .slice none 0 0, .slice none 0 0, .string ⟨#[]⟩, .int .i64 0] 143 w' ∧ Bx pb #[.string (bs p.key), .int .i64 p.v.k, .int .i64 p.v.n, .string (bs p.v.s)] 55 w' ∧ Mp vm (V.take k) w')) (((v3.setCell ⟨nb, 0, none⟩ (.int .i64 0)).setCell ⟨nb, 1, none⟩ (.int .i64 0)).setCell ⟨nb, 2, none⟩ (.string (bs []))) from ⟨HT.out.sets3_ne (c := nb) (by omega) (.int .i64 0) (.int .i64 0) (.string (bs [])), HX.out.sets3_ne (c := nb) (by omega) (.int .i64 0) (.int .i64 0) (.string (bs [])), HPB.out.sets3_ne (c := nb) (by omega) (.int .i64 0) (.int .i64 0) (.string (bs [])), HV.out.sets3 (b := nb) (by omega) (.int .i64 0) (.int .i64 0) (.string (bs []))⟩)
            refine wpAnyH_ready (rs := [11]) (by kernel_rfl) (by simp) ?_
            refine (AllReadyH.cons rfl (fun K hK => ?_) AllReadyH.nil)
            go_simp
            focus (try go_wp2_with fail)
            refine hK.out _ _ ?_ (fun hHeld => ?_)
            · exact HKK.out
            clear hK K
            (try simp only [Act.put, sA, sB, sC])
            refine tkX (i := 12) 14 ?_
            simp only [sA, sB, sC]
            refine wpAnyH_done (by kernel_rfl) ?_ _
            have HE2 := Lib.hid (HE.out.sets3_ne (c := nb) (by omega) (.int .i64 0) (.int .i64 0) (.string (bs []))); have HR12 := Lib.hid (HR1.out.sets3_ne (c := nb) (by omega) (.int .i64 0) (.int .i64 0) (.string (bs []))); have HR22 := Lib.hid (HR2.out.sets3_ne (c := nb) (by omega) (.int .i64 0) (.int .i64 0) (.string (bs [])))
            have HT2 := Lib.hid HKK.out.1; have HX2 := Lib.hid HKK.out.2.1; have HPB2 := Lib.hid HKK.out.2.2.1; have HV2 := Lib.hid HKK.out.2.2.2; have HO2 := Lib.hid (HO.out.sets3 (b := nb) (by omega) (.int .i64 0) (.int .i64 0) (.string (bs []))); have HW2 := Lib.hid (below_sets3 HW.out nb (by omega) (.int .i64 0) (.int .i64 0) (.string (bs [])))
            clear HE HR1 HR2 HT HX HPB HV HO HW HN n0 n1 n2 y0 y1 y2 hHeld HKK
            generalize hW : ((v3.setCell ⟨nb, 0, none⟩ (.int .i64 0)).setCell ⟨nb, 1, none⟩ (.int .i64 0)).setCell ⟨nb, 2, none⟩ (.string (bs [])) = v4 at HE2 HR12 HR22 HT2 HX2 HPB2 HV2 HO2 HW2 ⊢
            clear hW
            go_wp2_with fail
            have hs1 : ((fun w' => Bx tb #[.pointer (some ⟨mb, 0, none⟩)] 138 w' ∧ Bx mb #[.slice sa M.length sc, .bool al, .slice ra rd.length rc, .slice wa wri.length wc, .map (some vm), .map (some om), .int .i64 0, .int .i64 0, .slice none 0 0, .slice none 0 0, .slice none 0 0, .slice none 0 0, .string ⟨#[]⟩, .int .i64 0] 143 w' ∧ Bx pb #[.string (bs p.key), .int .i64 p.v.k, .int .i64 p.v.n, .string (bs p.v.s)] 55 w')) v4.drew := ⟨HT2.out, HX2.out, HPB2.out⟩
            have HS1 := Lib.hid hs1; clear hs1
            obtain ⟨W6, hup, hmp, hgw⟩ := run_put (show Mp vm (V.take k) v4.drew from HV2.out) p HNI.out
            have HGW := Lib.hid hgw; have HMP := Lib.hid hmp; clear hgw hmp
            simp only [vV] at hup
            refine wp_region_held_drew (S := (fun w' => Bx tb #[.pointer (some ⟨mb, 0, none⟩)] 138 w' ∧ Bx mb #[.slice sa M.length sc, .bool al, .slice ra rd.length rc, .slice wa wri.length wc, .map (some vm), .map (some om), .int .i64 0, .int .i64 0, .slice none 0 0, .slice none 0 0, .slice none 0 0, .slice none 0 0, .string ⟨#[]⟩, .int .i64 0] 143 w' ∧ Bx pb #[.string (bs p.key), .int .i64 p.v.k, .int .i64 p.v.n, .string (bs p.v.s)] 55 w')) (by kernel_rfl) ?_ (fun hHeld => ?_)
            · exact HS1.out
            refine tkY (i := 0) (v := ?vv12) 60 ?yy12 ?_
            case yy12 =>
              intro wq hSw
              have t0 : wq.cell? ⟨tb, 0, none⟩ = some (.pointer (some ⟨mb, 0, none⟩)) := hSw.1.cell 0
              clear hSw
              go_simp
              (try with_reducible rfl)
            simp only [sA, sB, sC]
            refine tkX (i := 1) 61 ?_
            simp only [sA, sB, sC]
            refine tkX (i := 2) 62 ?_
            simp only [sA, sB, sC]
            refine tkY (i := 3) (v := ?vv15) 63 ?yy15 ?_
            case yy15 =>
              intro wq hSw
              obtain ⟨m0, m1, m2, m3, m4, -⟩ := hSw.2.1.c14
              clear hSw
              go_simp
              (try with_reducible rfl)
            simp only [sA, sB, sC]
            refine tkX (i := 4) 64 ?_
            simp only [sA, sB, sC]
            refine tkY (i := 5) (v := ?vv17) 65 ?yy17 ?_
            case yy17 =>
              intro wq hSw
              obtain ⟨p0, p1, p2, p3⟩ := hSw.2.2.c4
              clear hSw
              go_simp
              (try with_reducible rfl)
            simp only [sA, sB, sC]
            refine tkX (i := 6) 66 ?_
            simp only [sA, sB, sC]
            refine tkY (i := 7) (v := ?vv19) 67 ?yy19 ?_
            case yy19 =>
              intro wq hSw
              obtain ⟨p0, p1, p2, p3⟩ := hSw.2.2.c4
              clear hSw
              go_simp
              (try with_reducible rfl)
            simp only [sA, sB, sC]
            refine wpAnyH_ready (rs := [8]) (by kernel_rfl) (by simp) ?_
            refine (AllReadyH.cons rfl (fun K hK => ?_) AllReadyH.nil)
            go_simp
            refine hK.out _ _ ?_ (fun hHeld => ?_)
            · exact ⟨HT2.out.drew.kept HGW.out (by simp; omega), HX2.out.drew.kept HGW.out (by simp; omega), HPB2.out.drew.kept HGW.out (by simp; omega)⟩
            clear hK K
            (try simp only [Act.put, sA, sB, sC])
            refine wpAnyH_done (by kernel_rfl) ?_ _
            have HE := Lib.hid (HE2.out.drew.kept HGW.out (by simp; omega)); have HR1 := Lib.hid (HR12.out.drew.kept HGW.out (by simp; omega)); have HR2 := Lib.hid (HR22.out.drew.kept HGW.out (by simp; omega)); have HT := Lib.hid (HT2.out.drew.kept HGW.out (by simp; omega)); have HX := Lib.hid (HX2.out.drew.kept HGW.out (by simp; omega)); have HO := Lib.hid ((show Mp om [] v4.drew from HO2.out).kept HGW.out (by simp; omega)); have HW := Lib.hid (below_grown HW2.out.drew HGW.out (by omega) (by have := HW2.out.size; exact this)); have HV := Lib.hid (show Mp vm (V.take (k + 1)) W6 from by rw [List.take_succ_eq_append_getElem hlt, HP.out]; exact HMP.out)
            clear hup HGW HMP HE2 HR12 HR22 HT2 HX2 HPB2 HV2 HO2 HW2 HS1 hHeld
            have HN := Lib.hid (allv_next hlt HP.out HVB.out HQ.out)
            go_wp2
            go_roundw
            case rel => exact ⟨k + 1, by omega, by go_num, HN, HE, HR1, HR2, HT, HX, HV, HO, HW.out⟩
            case measure => simp [intOf]; omega
        · have hlt' : ¬ (k : Int) < (V.length : Int) := by omega
          have hkV : k = V.length := by omega
          subst hkV
          rw [List.take_length] at HQ HV
          have hUU : evS al rd M op vals = (R, ks) := (if_pos (by rw [HSB.out, HFB.out, HALL.out, HQ.out]; rfl)).symm.trans HU.out
          have HUU := Lib.hid hUU; clear hUU HQ
          have hmf : ∀ (fn : Fn) (first cap : Array Value) (w : World), (Instr.makeFunc fn first cap).run Tryz.prog w = .ok (.func fn first cap) w := fun _ _ _ _ => rfl
          have hpl := HT.out.lt; have hpx := HX.out.lt; have hpv := HV.out.lt; have hpo := HO.out.lt
          have hb7 := (Below.refl wr.heap.size wr).alloc (Nat.le_refl _) (.cells #[.int .i64 0, .int .i64 0, .string ⟨#[]⟩] 52)
          have HB := Lib.hid (Bx.new wr #[.int .i64 0, .int .i64 0, .string ⟨#[]⟩] 52)
          have HE := Lib.hid (HE.out.call hb7); have HR1 := Lib.hid (HR1.out.call hb7); have HR2 := Lib.hid (HR2.out.call hb7); have HT := Lib.hid (HT.out.call hb7); have HX := Lib.hid (HX.out.call hb7); have HV := Lib.hid (HV.out.call hb7); have HO := Lib.hid (HO.out.call hb7); have HW := Lib.hid (btrans HW.out HW.out.size hb7); clear hb7
          obtain ⟨vb, hvb3⟩ : ∃ n, wr.heap.size = n := ⟨_, rfl⟩
          rw [hvb3] at HB hpl hpx hpv hpo
          go_upto_region 14 with (fail)
          generalize hW : wr.alloc (.cells #[.int .i64 0, .int .i64 0, .string ⟨#[]⟩] 52) = v7 at HE HR1 HR2 HT HX HV HO HW HB ⊢
          clear hW
          (try rw [hvb3])
          clear hvb3
          obtain ⟨y1, hy1⟩ : ∃ x, x = (v7.alloc (.cells #[.int .i64 0, .int .i64 0, .slice none 0 0, .string ⟨#[]⟩] 145)).alloc (.cells #[.bool false] 4) := ⟨_, rfl⟩
          have hb8 := ((Below.refl v7.heap.size v7).alloc (Nat.le_refl _) (.cells #[.int .i64 0, .int .i64 0, .slice none 0 0, .string ⟨#[]⟩] 145)).alloc (by simp) (.cells #[.bool false] 4)
          rw [← hy1] at hb8
          have hC := evalC_any tb w.heap.size vb mb vm om sa ra wa sc rc wc M al rd wri op aa ac V names vals HOP.out HVA.out HOK.out y1 w (HX.out.call hb8) (HO.out.call hb8) (by omega) (btrans HW.out HW.out.size hb8) HM.out HRS.out hl1 hl2 (HV.out.call hb8) HA.out HLD.out (HT.out.call hb8) (HE.out.call hb8) (HB.out.call hb8) (by omega)
          rw [HUU.out] at hC
          have HC := Lib.hid hC; have HY1 := Lib.hid hy1; clear hC hy1 hb8
          have hm7 := HX.out.lt; have hv7 := HB.out.lt
          have t0 : v7.cell? ⟨tb, 0, none⟩ = some (.pointer (some ⟨mb, 0, none⟩)) := HT.out.cell 0
          go_wp2_with fail
          clear t0
          refine (irun_any _ _ mb mb vb (fun rv => #[.slice sa M.length sc, .bool al, .slice ra rd.length rc, .slice wa wri.length wc, .map (some vm), .map (some om), .int .i64 0, .int .i64 0, .slice none 0 0, rv, .slice none 0 0, .slice none 0 0, .string ⟨#[]⟩, .int .i64 0]) R ks _ y1 HY1.out (fun w => by simp [go_sem]) hm7 hv7 HC.out).mono ?_
          rintro E w8 ⟨rfl, hk2, hvb4, rv, hx8, ho8⟩
          obtain ⟨oa, oc, rfl⟩ := own_sl ho8
          have hsz8 := HW.out.size
          have HO8 := Lib.hid (own_mono ho8 hsz8); have HX := Lib.hid hx8; have HB := Lib.hid hvb4; have HR1 := Lib.hid (HR1.out.k2 hk2 (by omega) (by omega)); have HR2 := Lib.hid (HR2.out.k2 hk2 (by omega) (by omega)); have HT := Lib.hid (HT.out.k2 hk2 (by omega) (by omega)); have HW := Lib.hid (show Below w.heap.size w w8 from HW.out.trans (hk2.below hsz8 (by omega) (by omega)))
          clear hk2 hvb4 hx8 ho8 HE HV HO HC HY1
          rcases R with v | c | x
          · simp only [stA, stB2, vEnd, vV] at HB HX ⊢
            have hwl8 := HW.out.size
            have hx9 := HB.out.lt; have hxt := HT.out.lt; have hxr := HR2.out.lt; have hxm := HX.out.lt
            have hb9 := (Below.refl w8.heap.size w8).alloc (Nat.le_refl _) (.cells #[.int .i64 0, .int .i64 0, .slice none 0 0, .string ⟨#[]⟩] 145)
            have HS := Lib.hid (Bx.new w8 #[.int .i64 0, .int .i64 0, .slice none 0 0, .string ⟨#[]⟩] 145)
            have HX := Lib.hid (HX.out.call hb9); have HB := Lib.hid (HB.out.call hb9); have HR1 := Lib.hid (HR1.out.call hb9); have HR2 := Lib.hid (HR2.out.call hb9); have HT := Lib.hid (HT.out.call hb9); have HO8 := Lib.hid (own_below HO8.out hb9); have HW := Lib.hid (btrans HW.out HW.out.size hb9); clear hb9
            go_upto_region 15 with (fail)
            obtain ⟨sb, hsb⟩ : ∃ n, w8.heap.size = n := ⟨_, rfl⟩
            rw [hsb] at HS hx9 hxt hxr hxm
            generalize hW : w8.alloc (.cells #[.int .i64 0, .int .i64 0, .slice none 0 0, .string ⟨#[]⟩] 145) = v8 at HS HX HB HR1 HR2 HT HO8 HW ⊢
            clear hW
            (try rw [hsb])
            clear hsb
            go_wp2_with fail
            have hs2 : ((fun w' => Bx vb #[.int .i64 v.k, .int .i64 v.n, .string (bs v.s)] 52 w' ∧ Bx tb #[.pointer (some ⟨mb, 0, none⟩)] 138 w' ∧ Bx sb #[.int .i64 0, .int .i64 0, .slice none 0 0, .string ⟨#[]⟩] 145 w')) v8.drew := ⟨HB.out, HT.out, HS.out⟩
            have HS2 := Lib.hid hs2; clear hs2
            refine wp_region_held_drew (S := (fun w' => Bx vb #[.int .i64 v.k, .int .i64 v.n, .string (bs v.s)] 52 w' ∧ Bx tb #[.pointer (some ⟨mb, 0, none⟩)] 138 w' ∧ Bx sb #[.int .i64 0, .int .i64 0, .slice none 0 0, .string ⟨#[]⟩] 145 w')) (by kernel_rfl) ?_ (fun hHeld => ?_)
            · exact HS2.out
            refine tkY (i := 0) (v := ?vv20) 81 ?yy20 ?_
            case yy20 =>
              intro wq hSw
              obtain ⟨b0, b1, b2⟩ := hSw.1.c3
              clear hSw
              go_simp
              (try with_reducible rfl)
            simp only [sA, sB, sC]
            refine tkY (i := 1) (v := ?vv21) 82 ?yy21 ?_
            case yy21 =>
              intro wq hSw
              have t0 : wq.cell? ⟨tb, 0, none⟩ = some (.pointer (some ⟨mb, 0, none⟩)) := hSw.2.1.cell 0
              clear hSw
              go_simp
              (try with_reducible rfl)
            simp only [sA, sB, sC]
            refine tkY (i := 2) (v := ?vv22) 83 ?yy22 ?_
            case yy22 =>
              intro wq hSw
              obtain ⟨s0, s1, s2, s3⟩ := hSw.2.2.c4
              clear hSw
              go_simp
              (try with_reducible rfl)
            simp only [sA, sB, sC]
            refine tkX (i := 3) 84 ?_
            simp only [sA, sB, sC]
            refine wpAnyH_ready (rs := [4]) (by kernel_rfl) (by simp) ?_
            refine (AllReadyH.cons rfl (fun K hK => ?_) AllReadyH.nil)
            go_simp
            (refine (finish_any mb vm om sa ra wa sc rc wc M al rd wri oa ks.length oc (.ok v) v8.drew HX.out).mono ?_)
            rintro er w9 ⟨rfl, hb9⟩
            simp only [efA]
            have HB9 := Lib.hid hb9; clear hb9
            refine hK.out _ _ ?_ (fun hHeld => ?_)
            · exact ⟨hHeld.1.call HB9.out, hHeld.2.1.call HB9.out, hHeld.2.2.call HB9.out⟩
            clear hK K
            (try simp only [Act.put, sA, sB, sC])
            have hb9 : Below v8.heap.size v8 w9 := ⟨HB9.out.os, HB9.out.tape, HB9.out.output, HB9.out.size, HB9.out.block⟩
            have HR1 := Lib.hid (HR1.out.call hb9); have HR2 := Lib.hid (HR2.out.call hb9); have HO8 := Lib.hid (own_below HO8.out hb9); have HW := Lib.hid (btrans HW.out HW.out.size hb9); clear hb9
            obtain ⟨r0, r1, r2⟩ := HR1.out.c3
            have f0 := HR1.out.free 0
            have f1 := HR1.out.free 1
            have f2 := HR1.out.free 2
            have HA1 := Lib.hid (HR1.out.sets3 (.int .i64 v.k) (.int .i64 v.n) (.string (bs v.s)))
            have HA2 := Lib.hid (HR2.out.sets3_ne (c := w.heap.size + 2) (by omega) (.int .i64 v.k) (.int .i64 v.n) (.string (bs v.s)))
            have HAW := Lib.hid (below_sets3 HW.out (w.heap.size + 2) (by omega) (.int .i64 v.k) (.int .i64 v.n) (.string (bs v.s)))
            obtain ⟨s0, s1, s2, s3, s4, s5, s6, s7⟩ := HA2.out.c8
            have z0 := HA2.out.free 0
            have z1 := HA2.out.free 1
            have z2 := HA2.out.free 2
            have z3 := HA2.out.free 3
            have z4 := HA2.out.free 4
            have z5 := HA2.out.free 5
            have z6 := HA2.out.free 6
            have z7 := HA2.out.free 7
            have HB1 := Lib.hid ((((((((HA1.out.other (c := w.heap.size + 3) (i := 0) (by omega) (.int .i64 1)).other (c := w.heap.size + 3) (i := 1) (by omega) (.int .i64 0)).other (c := w.heap.size + 3) (i := 2) (by omega) (.slice none 0 0)).other (c := w.heap.size + 3) (i := 3) (by omega) (.slice oa ks.length oc)).other (c := w.heap.size + 3) (i := 4) (by omega) (.slice none 0 0)).other (c := w.heap.size + 3) (i := 5) (by omega) (.slice none 0 0)).other (c := w.heap.size + 3) (i := 6) (by omega) (.string ⟨#[]⟩)).other (c := w.heap.size + 3) (i := 7) (by omega) (.int .i64 0))
            have HB2 := Lib.hid (HA2.out.sets8 (.int .i64 1) (.int .i64 0) (.slice none 0 0) (.slice oa ks.length oc) (.slice none 0 0) (.slice none 0 0) (.string ⟨#[]⟩) (.int .i64 0))
            have HBW := Lib.hid (below_sets8 HAW.out (w.heap.size + 3) (by omega) (.int .i64 1) (.int .i64 0) (.slice none 0 0) (.slice oa ks.length oc) (.slice none 0 0) (.slice none 0 0) (.string ⟨#[]⟩) (.int .i64 0))
            have HOF := Lib.hid (own_st (own_st (own_st (own_st (own_st (own_st (own_st (own_st (own_st (own_st (own_st HO8.out HR1.out (by decide) 0 (.int .i64 v.k)) (HR1.out.set 0 (.int .i64 v.k)) (by decide) 1 (.int .i64 v.n)) ((HR1.out.set 0 (.int .i64 v.k)).set 1 (.int .i64 v.n)) (by decide) 2 (.string (bs v.s))) HA2.out (by decide) 0 (.int .i64 1)) (HA2.out.set 0 (.int .i64 1)) (by decide) 1 (.int .i64 0)) ((HA2.out.set 0 (.int .i64 1)).set 1 (.int .i64 0)) (by decide) 2 (.slice none 0 0)) (((HA2.out.set 0 (.int .i64 1)).set 1 (.int .i64 0)).set 2 (.slice none 0 0)) (by decide) 3 (.slice oa ks.length oc)) ((((HA2.out.set 0 (.int .i64 1)).set 1 (.int .i64 0)).set 2 (.slice none 0 0)).set 3 (.slice oa ks.length oc)) (by decide) 4 (.slice none 0 0)) (((((HA2.out.set 0 (.int .i64 1)).set 1 (.int .i64 0)).set 2 (.slice none 0 0)).set 3 (.slice oa ks.length oc)).set 4 (.slice none 0 0)) (by decide) 5 (.slice none 0 0)) ((((((HA2.out.set 0 (.int .i64 1)).set 1 (.int .i64 0)).set 2 (.slice none 0 0)).set 3 (.slice oa ks.length oc)).set 4 (.slice none 0 0)).set 5 (.slice none 0 0)) (by decide) 6 (.string ⟨#[]⟩)) (((((((HA2.out.set 0 (.int .i64 1)).set 1 (.int .i64 0)).set 2 (.slice none 0 0)).set 3 (.slice oa ks.length oc)).set 4 (.slice none 0 0)).set 5 (.slice none 0 0)).set 6 (.string ⟨#[]⟩)) (by decide) 7 (.int .i64 0))
            have hbA : w.heap.size + 3 < vb ∧ w.heap.size + 3 < tb ∧ w.heap.size + 3 < sb := by omega
            have HKA := Lib.hid (show ((fun w' => Bx vb #[.int .i64 v.k, .int .i64 v.n, .string (bs v.s)] 52 w' ∧ Bx tb #[.pointer (some ⟨mb, 0, none⟩)] 138 w' ∧ Bx sb #[.int .i64 0, .int .i64 0, .slice none 0 0, .string ⟨#[]⟩] 145 w')) (((w9.setCell ⟨w.heap.size + 2, 0, none⟩ (.int .i64 v.k)).setCell ⟨w.heap.size + 2, 1, none⟩ (.int .i64 v.n)).setCell ⟨w.heap.size + 2, 2, none⟩ (.string (bs v.s))) from ⟨hHeld.1.sets3_ne (c := w.heap.size + 2) (by omega) (.int .i64 v.k) (.int .i64 v.n) (.string (bs v.s)), hHeld.2.1.sets3_ne (c := w.heap.size + 2) (by omega) (.int .i64 v.k) (.int .i64 v.n) (.string (bs v.s)), hHeld.2.2.sets3_ne (c := w.heap.size + 2) (by omega) (.int .i64 v.k) (.int .i64 v.n) (.string (bs v.s))⟩)
            have HKB := Lib.hid (show ((fun w' => Bx vb #[.int .i64 v.k, .int .i64 v.n, .string (bs v.s)] 52 w' ∧ Bx tb #[.pointer (some ⟨mb, 0, none⟩)] 138 w' ∧ Bx sb #[.int .i64 0, .int .i64 0, .slice none 0 0, .string ⟨#[]⟩] 145 w')) (((((((((((w9.setCell ⟨w.heap.size + 2, 0, none⟩ (.int .i64 v.k)).setCell ⟨w.heap.size + 2, 1, none⟩ (.int .i64 v.n)).setCell ⟨w.heap.size + 2, 2, none⟩ (.string (bs v.s))).setCell ⟨w.heap.size + 3, 0, none⟩ (.int .i64 1)).setCell ⟨w.heap.size + 3, 1, none⟩ (.int .i64 0)).setCell ⟨w.heap.size + 3, 2, none⟩ (.slice none 0 0)).setCell ⟨w.heap.size + 3, 3, none⟩ (.slice oa ks.length oc)).setCell ⟨w.heap.size + 3, 4, none⟩ (.slice none 0 0)).setCell ⟨w.heap.size + 3, 5, none⟩ (.slice none 0 0)).setCell ⟨w.heap.size + 3, 6, none⟩ (.string ⟨#[]⟩)).setCell ⟨w.heap.size + 3, 7, none⟩ (.int .i64 0)) from ⟨((((((((HKA.out.1.other (i := 0) (c := w.heap.size + 3) (by omega) (.int .i64 1)).other (i := 1) (c := w.heap.size + 3) (by omega) (.int .i64 0)).other (i := 2) (c := w.heap.size + 3) (by omega) (.slice none 0 0)).other (i := 3) (c := w.heap.size + 3) (by omega) (.slice oa ks.length oc)).other (i := 4) (c := w.heap.size + 3) (by omega) (.slice none 0 0)).other (i := 5) (c := w.heap.size + 3) (by omega) (.slice none 0 0)).other (i := 6) (c := w.heap.size + 3) (by omega) (.string ⟨#[]⟩)).other (i := 7) (c := w.heap.size + 3) (by omega) (.int .i64 0)), ((((((((HKA.out.2.1.other (i := 0) (c := w.heap.size + 3) (by omega) (.int .i64 1)).other (i := 1) (c := w.heap.size + 3) (by omega) (.int .i64 0)).other (i := 2) (c := w.heap.size + 3) (by omega) (.slice none 0 0)).other (i := 3) (c := w.heap.size + 3) (by omega) (.slice oa ks.length oc)).other (i := 4) (c := w.heap.size + 3) (by omega) (.slice none 0 0)).other (i := 5) (c := w.heap.size + 3) (by omega) (.slice none 0 0)).other (i := 6) (c := w.heap.size + 3) (by omega) (.string ⟨#[]⟩)).other (i := 7) (c := w.heap.size + 3) (by omega) (.int .i64 0)), ((((((((HKA.out.2.2.other (i := 0) (c := w.heap.size + 3) (by omega) (.int .i64 1)).other (i := 1) (c := w.heap.size + 3) (by omega) (.int .i64 0)).other (i := 2) (c := w.heap.size + 3) (by omega) (.slice none 0 0)).other (i := 3) (c := w.heap.size + 3) (by omega) (.slice oa ks.length oc)).other (i := 4) (c := w.heap.size + 3) (by omega) (.slice none 0 0)).other (i := 5) (c := w.heap.size + 3) (by omega) (.slice none 0 0)).other (i := 6) (c := w.heap.size + 3) (by omega) (.string ⟨#[]⟩)).other (i := 7) (c := w.heap.size + 3) (by omega) (.int .i64 0))⟩)
            refine wpAnyH_ready (rs := [5]) (by kernel_rfl) (by simp) ?_
            refine (AllReadyH.cons rfl (fun K hK => ?_) AllReadyH.nil)
            go_simp
            refine hK.out _ _ ?_ (fun hHeld2 => ?_)
            · exact HKA.out
            clear hK K
            (try simp only [Act.put, sA, sB, sC])
            refine wpAnyH_ready (rs := [6]) (by kernel_rfl) (by simp) ?_
            refine (AllReadyH.cons rfl (fun K hK => ?_) AllReadyH.nil)
            go_simp
            refine hK.out _ _ ?_ (fun hHeld3 => ?_)
            · exact HKB.out
            clear hK K
            (try simp only [Act.put, sA, sB, sC])
            refine wpAnyH_done (by kernel_rfl) ?_ _
            clear hHeld hHeld2 hHeld3 HKA HKB HS2
            generalize hW : (((((((((((w9.setCell ⟨w.heap.size + 2, 0, none⟩ (.int .i64 v.k)).setCell ⟨w.heap.size + 2, 1, none⟩ (.int .i64 v.n)).setCell ⟨w.heap.size + 2, 2, none⟩ (.string (bs v.s))).setCell ⟨w.heap.size + 3, 0, none⟩ (.int .i64 1)).setCell ⟨w.heap.size + 3, 1, none⟩ (.int .i64 0)).setCell ⟨w.heap.size + 3, 2, none⟩ (.slice none 0 0)).setCell ⟨w.heap.size + 3, 3, none⟩ (.slice oa ks.length oc)).setCell ⟨w.heap.size + 3, 4, none⟩ (.slice none 0 0)).setCell ⟨w.heap.size + 3, 5, none⟩ (.slice none 0 0)).setCell ⟨w.heap.size + 3, 6, none⟩ (.string ⟨#[]⟩)).setCell ⟨w.heap.size + 3, 7, none⟩ (.int .i64 0)) = WE at HB1 HB2 HBW HOF ⊢
            clear hW
            clear r0 r1 r2 f0 f1 f2 s0 s1 s2 s3 s4 s5 s6 s7 z0 z1 z2 z3 z4 z5 z6 z7
            go_wp2
            obtain ⟨k0, k1, k2⟩ := HB1.out.c3
            obtain ⟨l0, l1, l2, l3, l4, l5, l6, l7⟩ := HB2.out.c8
            refine bodyPost_ret (v := .tuple #[.agg #[.int .i64 v.k, .int .i64 v.n, .string (bs v.s)], .agg #[.int .i64 1, .int .i64 0, .slice none 0 0, .slice oa ks.length oc, .slice none 0 0, .slice none 0 0, .string ⟨#[]⟩, .int .i64 0]]) (by simp [results, Tryz.results93, go_sem, k0, k1, k2, l0, l1, l2, l3, l4, l5, l6, l7] <;> rfl) rfl ⟨_, rfl, HOF.out, HBW.out⟩
          · simp only [stA, stB2, vEnd] at HB HX ⊢
            have hwl8 := HW.out.size
            have hx9 := HB.out.lt; have hxt := HT.out.lt; have hxr := HR2.out.lt; have hxm := HX.out.lt
            have hb9 := (Below.refl w8.heap.size w8).alloc (Nat.le_refl _) (.cells #[.int .i64 2, .int .i64 c, .slice none 0 0, .string (bs [])] 145)
            have HS := Lib.hid (Bx.new w8 #[.int .i64 2, .int .i64 c, .slice none 0 0, .string (bs [])] 145)
            have HX := Lib.hid (HX.out.call hb9); have HB := Lib.hid (HB.out.call hb9); have HR1 := Lib.hid (HR1.out.call hb9); have HR2 := Lib.hid (HR2.out.call hb9); have HT := Lib.hid (HT.out.call hb9); have HO8 := Lib.hid (own_below HO8.out hb9); have HW := Lib.hid (btrans HW.out HW.out.size hb9); clear hb9
            go_upto_region 15 with (fail)
            obtain ⟨sb, hsb⟩ : ∃ n, w8.heap.size = n := ⟨_, rfl⟩
            rw [hsb] at HS hx9 hxt hxr hxm
            generalize hW : w8.alloc (.cells #[.int .i64 2, .int .i64 c, .slice none 0 0, .string (bs [])] 145) = v8 at HS HX HB HR1 HR2 HT HO8 HW ⊢
            clear hW
            (try rw [hsb])
            clear hsb
            have t0 : v8.cell? ⟨tb, 0, none⟩ = some (.pointer (some ⟨mb, 0, none⟩)) := HT.out.cell 0
            obtain ⟨s0, s1, s2, s3⟩ := HS.out.c4
            go_wp2_with fail
            refine (finish_any mb vm om sa ra wa sc rc wc M al rd wri oa ks.length oc (.ab c) _ HX.out).mono ?_
            rintro er w9 ⟨rfl, hb9⟩
            simp only [efA]
            have HB9 := Lib.hid hb9
            clear hb9 t0 s0 s1 s2 s3
            have hb9 : Below v8.heap.size v8 w9 := HB9.out
            have HR1 := Lib.hid (HR1.out.call hb9); have HR2 := Lib.hid (HR2.out.call hb9); have HO8 := Lib.hid (own_below HO8.out hb9); have HW := Lib.hid (btrans HW.out HW.out.size hb9); clear hb9
            obtain ⟨r0, r1, r2⟩ := HR1.out.c3
            have f0 := HR1.out.free 0
            have f1 := HR1.out.free 1
            have f2 := HR1.out.free 2
            have HA1 := Lib.hid (HR1.out.sets3 (.int .i64 0) (.int .i64 0) (.string ⟨#[]⟩))
            have HA2 := Lib.hid (HR2.out.sets3_ne (c := w.heap.size + 2) (by omega) (.int .i64 0) (.int .i64 0) (.string ⟨#[]⟩))
            have HAW := Lib.hid (below_sets3 HW.out (w.heap.size + 2) (by omega) (.int .i64 0) (.int .i64 0) (.string ⟨#[]⟩))
            obtain ⟨s0, s1, s2, s3, s4, s5, s6, s7⟩ := HA2.out.c8
            have z0 := HA2.out.free 0
            have z1 := HA2.out.free 1
            have z2 := HA2.out.free 2
            have z3 := HA2.out.free 3
            have z4 := HA2.out.free 4
            have z5 := HA2.out.free 5
            have z6 := HA2.out.free 6
            have z7 := HA2.out.free 7
            have HB1 := Lib.hid ((((((((HA1.out.other (c := w.heap.size + 3) (i := 0) (by omega) (.int .i64 2)).other (c := w.heap.size + 3) (i := 1) (by omega) (.int .i64 c)).other (c := w.heap.size + 3) (i := 2) (by omega) (.slice none 0 0)).other (c := w.heap.size + 3) (i := 3) (by omega) (.slice oa ks.length oc)).other (c := w.heap.size + 3) (i := 4) (by omega) (.slice none 0 0)).other (c := w.heap.size + 3) (i := 5) (by omega) (.slice none 0 0)).other (c := w.heap.size + 3) (i := 6) (by omega) (.string (bs []))).other (c := w.heap.size + 3) (i := 7) (by omega) (.int .i64 0))
            have HB2 := Lib.hid (HA2.out.sets8 (.int .i64 2) (.int .i64 c) (.slice none 0 0) (.slice oa ks.length oc) (.slice none 0 0) (.slice none 0 0) (.string (bs [])) (.int .i64 0))
            have HBW := Lib.hid (below_sets8 HAW.out (w.heap.size + 3) (by omega) (.int .i64 2) (.int .i64 c) (.slice none 0 0) (.slice oa ks.length oc) (.slice none 0 0) (.slice none 0 0) (.string (bs [])) (.int .i64 0))
            have HOF := Lib.hid (own_st (own_st (own_st (own_st (own_st (own_st (own_st (own_st (own_st (own_st (own_st HO8.out HR1.out (by decide) 0 (.int .i64 0)) (HR1.out.set 0 (.int .i64 0)) (by decide) 1 (.int .i64 0)) ((HR1.out.set 0 (.int .i64 0)).set 1 (.int .i64 0)) (by decide) 2 (.string ⟨#[]⟩)) HA2.out (by decide) 0 (.int .i64 2)) (HA2.out.set 0 (.int .i64 2)) (by decide) 1 (.int .i64 c)) ((HA2.out.set 0 (.int .i64 2)).set 1 (.int .i64 c)) (by decide) 2 (.slice none 0 0)) (((HA2.out.set 0 (.int .i64 2)).set 1 (.int .i64 c)).set 2 (.slice none 0 0)) (by decide) 3 (.slice oa ks.length oc)) ((((HA2.out.set 0 (.int .i64 2)).set 1 (.int .i64 c)).set 2 (.slice none 0 0)).set 3 (.slice oa ks.length oc)) (by decide) 4 (.slice none 0 0)) (((((HA2.out.set 0 (.int .i64 2)).set 1 (.int .i64 c)).set 2 (.slice none 0 0)).set 3 (.slice oa ks.length oc)).set 4 (.slice none 0 0)) (by decide) 5 (.slice none 0 0)) ((((((HA2.out.set 0 (.int .i64 2)).set 1 (.int .i64 c)).set 2 (.slice none 0 0)).set 3 (.slice oa ks.length oc)).set 4 (.slice none 0 0)).set 5 (.slice none 0 0)) (by decide) 6 (.string (bs []))) (((((((HA2.out.set 0 (.int .i64 2)).set 1 (.int .i64 c)).set 2 (.slice none 0 0)).set 3 (.slice oa ks.length oc)).set 4 (.slice none 0 0)).set 5 (.slice none 0 0)).set 6 (.string (bs []))) (by decide) 7 (.int .i64 0))
            go_wp2
            obtain ⟨k0, k1, k2⟩ := HB1.out.c3
            obtain ⟨l0, l1, l2, l3, l4, l5, l6, l7⟩ := HB2.out.c8
            refine bodyPost_ret (v := .tuple #[.agg #[.int .i64 0, .int .i64 0, .string ⟨#[]⟩], .agg #[.int .i64 2, .int .i64 c, .slice none 0 0, .slice oa ks.length oc, .slice none 0 0, .slice none 0 0, .string (bs []), .int .i64 0]]) (by simp [results, Tryz.results93, go_sem, k0, k1, k2, l0, l1, l2, l3, l4, l5, l6, l7] <;> rfl) rfl ⟨_, rfl, HOF.out, HBW.out⟩
          · simp only [stA, stB2, vEnd] at HB HX ⊢
            have hwl8 := HW.out.size
            have hx9 := HB.out.lt; have hxt := HT.out.lt; have hxr := HR2.out.lt; have hxm := HX.out.lt
            have hb9 := (Below.refl w8.heap.size w8).alloc (Nat.le_refl _) (.cells #[.int .i64 3, .int .i64 0, .slice none 0 0, .string (bs x)] 145)
            have HS := Lib.hid (Bx.new w8 #[.int .i64 3, .int .i64 0, .slice none 0 0, .string (bs x)] 145)
            have HX := Lib.hid (HX.out.call hb9); have HB := Lib.hid (HB.out.call hb9); have HR1 := Lib.hid (HR1.out.call hb9); have HR2 := Lib.hid (HR2.out.call hb9); have HT := Lib.hid (HT.out.call hb9); have HO8 := Lib.hid (own_below HO8.out hb9); have HW := Lib.hid (btrans HW.out HW.out.size hb9); clear hb9
            go_upto_region 15 with (fail)
            obtain ⟨sb, hsb⟩ : ∃ n, w8.heap.size = n := ⟨_, rfl⟩
            rw [hsb] at HS hx9 hxt hxr hxm
            generalize hW : w8.alloc (.cells #[.int .i64 3, .int .i64 0, .slice none 0 0, .string (bs x)] 145) = v8 at HS HX HB HR1 HR2 HT HO8 HW ⊢
            clear hW
            (try rw [hsb])
            clear hsb
            have t0 : v8.cell? ⟨tb, 0, none⟩ = some (.pointer (some ⟨mb, 0, none⟩)) := HT.out.cell 0
            obtain ⟨s0, s1, s2, s3⟩ := HS.out.c4
            go_wp2_with fail
            refine (finish_any mb vm om sa ra wa sc rc wc M al rd wri oa ks.length oc (.re x) _ HX.out).mono ?_
            rintro er w9 ⟨rfl, hb9⟩
            simp only [efA]
            have HB9 := Lib.hid hb9
            clear hb9 t0 s0 s1 s2 s3
            have hb9 : Below v8.heap.size v8 w9 := HB9.out
            have HR1 := Lib.hid (HR1.out.call hb9); have HR2 := Lib.hid (HR2.out.call hb9); have HO8 := Lib.hid (own_below HO8.out hb9); have HW := Lib.hid (btrans HW.out HW.out.size hb9); clear hb9
            obtain ⟨r0, r1, r2⟩ := HR1.out.c3
            have f0 := HR1.out.free 0
            have f1 := HR1.out.free 1
            have f2 := HR1.out.free 2
            have HA1 := Lib.hid (HR1.out.sets3 (.int .i64 0) (.int .i64 0) (.string ⟨#[]⟩))
            have HA2 := Lib.hid (HR2.out.sets3_ne (c := w.heap.size + 2) (by omega) (.int .i64 0) (.int .i64 0) (.string ⟨#[]⟩))
            have HAW := Lib.hid (below_sets3 HW.out (w.heap.size + 2) (by omega) (.int .i64 0) (.int .i64 0) (.string ⟨#[]⟩))
            obtain ⟨s0, s1, s2, s3, s4, s5, s6, s7⟩ := HA2.out.c8
            have z0 := HA2.out.free 0
            have z1 := HA2.out.free 1
            have z2 := HA2.out.free 2
            have z3 := HA2.out.free 3
            have z4 := HA2.out.free 4
            have z5 := HA2.out.free 5
            have z6 := HA2.out.free 6
            have z7 := HA2.out.free 7
            have HB1 := Lib.hid ((((((((HA1.out.other (c := w.heap.size + 3) (i := 0) (by omega) (.int .i64 3)).other (c := w.heap.size + 3) (i := 1) (by omega) (.int .i64 0)).other (c := w.heap.size + 3) (i := 2) (by omega) (.slice none 0 0)).other (c := w.heap.size + 3) (i := 3) (by omega) (.slice oa ks.length oc)).other (c := w.heap.size + 3) (i := 4) (by omega) (.slice none 0 0)).other (c := w.heap.size + 3) (i := 5) (by omega) (.slice none 0 0)).other (c := w.heap.size + 3) (i := 6) (by omega) (.string (bs x))).other (c := w.heap.size + 3) (i := 7) (by omega) (.int .i64 0))
            have HB2 := Lib.hid (HA2.out.sets8 (.int .i64 3) (.int .i64 0) (.slice none 0 0) (.slice oa ks.length oc) (.slice none 0 0) (.slice none 0 0) (.string (bs x)) (.int .i64 0))
            have HBW := Lib.hid (below_sets8 HAW.out (w.heap.size + 3) (by omega) (.int .i64 3) (.int .i64 0) (.slice none 0 0) (.slice oa ks.length oc) (.slice none 0 0) (.slice none 0 0) (.string (bs x)) (.int .i64 0))
            have HOF := Lib.hid (own_st (own_st (own_st (own_st (own_st (own_st (own_st (own_st (own_st (own_st (own_st HO8.out HR1.out (by decide) 0 (.int .i64 0)) (HR1.out.set 0 (.int .i64 0)) (by decide) 1 (.int .i64 0)) ((HR1.out.set 0 (.int .i64 0)).set 1 (.int .i64 0)) (by decide) 2 (.string ⟨#[]⟩)) HA2.out (by decide) 0 (.int .i64 3)) (HA2.out.set 0 (.int .i64 3)) (by decide) 1 (.int .i64 0)) ((HA2.out.set 0 (.int .i64 3)).set 1 (.int .i64 0)) (by decide) 2 (.slice none 0 0)) (((HA2.out.set 0 (.int .i64 3)).set 1 (.int .i64 0)).set 2 (.slice none 0 0)) (by decide) 3 (.slice oa ks.length oc)) ((((HA2.out.set 0 (.int .i64 3)).set 1 (.int .i64 0)).set 2 (.slice none 0 0)).set 3 (.slice oa ks.length oc)) (by decide) 4 (.slice none 0 0)) (((((HA2.out.set 0 (.int .i64 3)).set 1 (.int .i64 0)).set 2 (.slice none 0 0)).set 3 (.slice oa ks.length oc)).set 4 (.slice none 0 0)) (by decide) 5 (.slice none 0 0)) ((((((HA2.out.set 0 (.int .i64 3)).set 1 (.int .i64 0)).set 2 (.slice none 0 0)).set 3 (.slice oa ks.length oc)).set 4 (.slice none 0 0)).set 5 (.slice none 0 0)) (by decide) 6 (.string (bs x))) (((((((HA2.out.set 0 (.int .i64 3)).set 1 (.int .i64 0)).set 2 (.slice none 0 0)).set 3 (.slice oa ks.length oc)).set 4 (.slice none 0 0)).set 5 (.slice none 0 0)).set 6 (.string (bs x))) (by decide) 7 (.int .i64 0))
            go_wp2
            obtain ⟨k0, k1, k2⟩ := HB1.out.c3
            obtain ⟨l0, l1, l2, l3, l4, l5, l6, l7⟩ := HB2.out.c8
            refine bodyPost_ret (v := .tuple #[.agg #[.int .i64 0, .int .i64 0, .string ⟨#[]⟩], .agg #[.int .i64 3, .int .i64 0, .slice none 0 0, .slice oa ks.length oc, .slice none 0 0, .slice none 0 0, .string (bs x), .int .i64 0]]) (by simp [results, Tryz.results93, go_sem, k0, k1, k2, l0, l1, l2, l3, l4, l5, l6, l7] <;> rfl) rfl ⟨_, rfl, HOF.out, HBW.out⟩
end Go.Proofs.YtnglaegofhpleaaGreatDoor
namespace Go.Proofs.YtnglaegofhpleaaGreatDoor
open Go.RowKit

/-- a block of n cells, given by a function -/
def Bf (b : Nat) (f : Nat → Value) (n : Nat) (T : TypeId) (W : World) : Prop := ∃ cs : Array Value, Bx b cs T W ∧ cs.size = n ∧ ∀ j, j < n → cs[j]? = some (f j)
def upd (f : Nat → Value) (j : Nat) (u : Value) : Nat → Value := fun i => if i = j then u else f i
theorem Bf.lt {b : Nat} {f : Nat → Value} {n : Nat} {T : TypeId} {W : World} (h : Bf b f n T W) : b < W.heap.size := by obtain ⟨cs, h, _⟩ := h; exact h.lt
theorem Bf.cell {b : Nat} {f : Nat → Value} {n : Nat} {T : TypeId} {W : World} (h : Bf b f n T W) (j : Nat) (hj : j < n) : W.cell? ⟨b, j, none⟩ = some (f j) := by
  obtain ⟨cs, h1, h2, h3⟩ := h
  rw [h1.cell j, h3 j hj]
theorem Bf.free {b : Nat} {f : Nat → Value} {n : Nat} {T : TypeId} {W : World} (h : Bf b f n T W) (j : Nat) : W.frozen? ⟨b, j, none⟩ = false := by
  obtain ⟨cs, h1, _⟩ := h; exact h1.free j
theorem Bf.set {b : Nat} {f : Nat → Value} {n : Nat} {T : TypeId} {W : World} (h : Bf b f n T W) (j : Nat) (u : Value) : Bf b (upd f j u) n T (W.setCell ⟨b, j, none⟩ u) := by
  obtain ⟨cs, h1, h2, h3⟩ := h
  refine ⟨cs.setIfInBounds j u, h1.set j u, by simp [h2], fun i hi => ?_⟩
  unfold upd
  by_cases e : i = j
  · subst e; rw [if_pos rfl]; simp [h2, hi]
  · rw [if_neg e, ← h3 i hi]; simp [Ne.symm e]
theorem Bf.other {b c i : Nat} {f : Nat → Value} {n : Nat} {T : TypeId} {W : World} (h : Bf b f n T W) (hne : b ≠ c) (v : Value) : Bf b f n T (W.setCell ⟨c, i, none⟩ v) := by
  obtain ⟨cs, h1, h2⟩ := h; exact ⟨cs, h1.other hne v, h2⟩
theorem Bf.congr {b : Nat} {f g : Nat → Value} {n : Nat} {T : TypeId} {W : World} (h : Bf b f n T W) (he : ∀ j, j < n → f j = g j) : Bf b g n T W := by
  obtain ⟨cs, h1, h2, h3⟩ := h; exact ⟨cs, h1, h2, fun j hj => (h3 j hj).trans (by rw [he j hj])⟩
theorem Bf.block {b : Nat} {f : Nat → Value} {n : Nat} {T : TypeId} {W W' : World} (h : Bf b f n T W) (he : W'.heap[b]? = W.heap[b]?) : Bf b f n T W' := by
  obtain ⟨cs, h1, h2⟩ := h; exact ⟨cs, he.trans h1, h2⟩
theorem Bf.call {b : Nat} {f : Nat → Value} {n : Nat} {T : TypeId} {W W' : World} (h : Bf b f n T W) (hb : Below W.heap.size W W') : Bf b f n T W' := h.block (hb.block b h.lt)
theorem Bf.drew {b : Nat} {f : Nat → Value} {n : Nat} {T : TypeId} {W : World} (h : Bf b f n T W) : Bf b f n T W.drew := h

/-- a run in progress -/
structure Mc where
  stk : Nat → Vl
  dep : Nat
  slo : Nat → Vl
  own : List Pr
  st : Int
  code : Int
  out : List Vl
  rds : List (List UInt8)
  puts : List (List UInt8)
  wrs : List Pr
  miss : List UInt8
  steps : Int
  done : Bool
def vlc (v : Vl) (r : Nat) : Value := if r = 0 then .int .i64 v.k else if r = 1 then .int .i64 v.n else .string (bs v.s)
/-- the machine's cells; R: the values of its rows (own, out, reads, puts, writes) -/
structure Rw where
  ov : Value
  outv : Value
  rv : Value
  pv : Value
  wv : Value
def tailM (m : Mc) (R : Rw) : Nat → Value
  | 0 => R.ov
  | 1 => .int .i64 m.st
  | 2 => .int .i64 m.code
  | 3 => R.outv
  | 4 => R.rv
  | 5 => R.pv
  | 6 => R.wv
  | 7 => .string (bs m.miss)
  | 8 => .int .i64 m.steps
  | _ => .bool m.done
def mcf (H : Nat → Value) (m : Mc) (R : Rw) (j : Nat) : Value :=
  if j < 7 then H j else if j < 199 then vlc (m.stk ((j - 7) / 3)) ((j - 7) % 3) else if j = 199 then .int .i64 (m.dep : Int) else if j < 392 then vlc (m.slo ((j - 200) / 3)) ((j - 200) % 3) else tailM m R (j - 392)
theorem mcf_hd (H : Nat → Value) (m : Mc) (R : Rw) {j : Nat} (h : j < 7) : mcf H m R j = H j := if_pos h
theorem mcf_tl (H : Nat → Value) (m : Mc) (R : Rw) (j : Nat) : mcf H m R (392 + j) = tailM m R j := by
  unfold mcf; rw [if_neg (by omega), if_neg (by omega), if_neg (by omega), if_neg (by omega), Nat.add_sub_cancel_left]
theorem mcf_stk (H : Nat → Value) (m : Mc) (R : Rw) {d r : Nat} (hd : d < 64) (hr : r < 3) : mcf H m R (7 + d * 3 + r) = vlc (m.stk d) r := by
  unfold mcf; rw [if_neg (by omega), if_pos (by omega), show (7 + d * 3 + r - 7) / 3 = d by omega, show (7 + d * 3 + r - 7) % 3 = r by omega]
theorem mcf_slo (H : Nat → Value) (m : Mc) (R : Rw) {d r : Nat} (hd : d < 64) (hr : r < 3) : mcf H m R (200 + d * 3 + r) = vlc (m.slo d) r := by
  unfold mcf; rw [if_neg (by omega), if_neg (by omega), if_neg (by omega), if_pos (by omega), show (200 + d * 3 + r - 200) / 3 = d by omega, show (200 + d * 3 + r - 200) % 3 = r by omega]
theorem tail_stk (m : Mc) (R : Rw) (f : Nat → Vl) : tailM { m with stk := f } R = tailM m R := by funext k; unfold tailM; rfl
theorem tail_slo (m : Mc) (R : Rw) (f : Nat → Vl) : tailM { m with slo := f } R = tailM m R := by funext k; unfold tailM; rfl
theorem tail_dep (m : Mc) (R : Rw) (d : Nat) : tailM { m with dep := d } R = tailM m R := by funext k; unfold tailM; rfl
/-- the value laid at one place of the stack -/
def setV (f : Nat → Vl) (d : Nat) (v : Vl) : Nat → Vl := fun i => if i = d then v else f i
theorem upd_stk (H : Nat → Value) (m : Mc) (R : Rw) {d : Nat} (hd : d < 64) (v : Vl) : ∀ j, j < 402 → upd (upd (upd (mcf H m R) (7 + d * 3) (.int .i64 v.k)) (7 + d * 3 + 1) (.int .i64 v.n)) (7 + d * 3 + 2) (.string (bs v.s)) j = mcf H { m with stk := setV m.stk d v } R j := by
  intro j hj
  by_cases h : 7 + d * 3 ≤ j ∧ j < 7 + d * 3 + 3
  · obtain ⟨r, rfl⟩ : ∃ r, j = 7 + d * 3 + r := ⟨j - (7 + d * 3), by omega⟩
    have hr : r < 3 := by omega
    rw [mcf_stk H _ R hd hr]
    have hs : setV m.stk d v d = v := if_pos rfl
    simp only [hs]
    unfold upd vlc
    rcases r with _ | _ | _ | r
    · simp
    · simp
    · simp
    · omega
  · unfold upd
    rw [if_neg (by omega), if_neg (by omega), if_neg (by omega)]
    unfold mcf
    by_cases h1 : j < 7
    · rw [if_pos h1, if_pos h1]
    rw [if_neg h1, if_neg h1]
    by_cases h2 : j < 199
    · rw [if_pos h2, if_pos h2]
      simp only [setV]
      rw [if_neg (by omega)]
    · rw [if_neg h2, if_neg h2, tail_stk m R (setV m.stk d v)]
theorem upd_slo (H : Nat → Value) (m : Mc) (R : Rw) {d : Nat} (hd : d < 64) (v : Vl) : ∀ j, j < 402 → upd (upd (upd (mcf H m R) (200 + d * 3) (.int .i64 v.k)) (200 + d * 3 + 1) (.int .i64 v.n)) (200 + d * 3 + 2) (.string (bs v.s)) j = mcf H { m with slo := setV m.slo d v } R j := by
  intro j hj
  by_cases h : 200 + d * 3 ≤ j ∧ j < 200 + d * 3 + 3
  · obtain ⟨r, rfl⟩ : ∃ r, j = 200 + d * 3 + r := ⟨j - (200 + d * 3), by omega⟩
    have hr : r < 3 := by omega
    rw [mcf_slo H _ R hd hr]
    have hs : setV m.slo d v d = v := if_pos rfl
    simp only [hs]
    unfold upd vlc
    rcases r with _ | _ | _ | r
    · simp
    · simp
    · simp
    · omega
  · unfold upd
    rw [if_neg (by omega), if_neg (by omega), if_neg (by omega)]
    unfold mcf
    by_cases h1 : j < 7
    · rw [if_pos h1, if_pos h1]
    rw [if_neg h1, if_neg h1]
    by_cases h2 : j < 199
    · rw [if_pos h2, if_pos h2]
    rw [if_neg h2, if_neg h2]
    by_cases h3 : j = 199
    · rw [if_pos h3, if_pos h3]
    rw [if_neg h3, if_neg h3]
    by_cases h4 : j < 392
    · rw [if_pos h4, if_pos h4]
      simp only [setV]
      rw [if_neg (by omega)]
    · rw [if_neg h4, if_neg h4, tail_slo m R (setV m.slo d v)]
theorem upd_dep (H : Nat → Value) (m : Mc) (R : Rw) (d : Nat) : ∀ j, j < 402 → upd (mcf H m R) 199 (.int .i64 (d : Int)) j = mcf H { m with dep := d } R j := by
  intro j hj
  unfold upd
  by_cases h : j = 199
  · subst h; rfl
  · rw [if_neg h]
    unfold mcf
    by_cases h1 : j < 7
    · rw [if_pos h1, if_pos h1]
    rw [if_neg h1, if_neg h1]
    by_cases h2 : j < 199
    · rw [if_pos h2, if_pos h2]
    rw [if_neg h2, if_neg h2, if_neg h, if_neg h]
    by_cases h4 : j < 392
    · rw [if_pos h4, if_pos h4]
    · rw [if_neg h4, if_neg h4, tail_dep m R d]
/-- a store into one of the last ten cells -/
theorem upd_tl (H : Nat → Value) (m m' : Mc) (R R' : Rw) (k : Nat) (u : Value) (hs : m'.stk = m.stk) (hd : m'.dep = m.dep) (hl : m'.slo = m.slo) (hk : k < 10) (hu : tailM m' R' k = u) (ho : ∀ i, i < 10 → i ≠ k → tailM m' R' i = tailM m R i) : ∀ j, j < 402 → upd (mcf H m R) (392 + k) u j = mcf H m' R' j := by
  intro j hj
  unfold upd
  by_cases h : j = 392 + k
  · subst h; rw [if_pos rfl, mcf_tl, hu]
  · rw [if_neg h]
    unfold mcf
    rw [hs, hd, hl]
    by_cases h1 : j < 7
    · rw [if_pos h1, if_pos h1]
    rw [if_neg h1, if_neg h1]
    by_cases h2 : j < 199
    · rw [if_pos h2, if_pos h2]
    rw [if_neg h2, if_neg h2]
    by_cases h3 : j = 199
    · rw [if_pos h3, if_pos h3]
    rw [if_neg h3, if_neg h3]
    by_cases h4 : j < 392
    · rw [if_pos h4, if_pos h4]
    · rw [if_neg h4, if_neg h4, ho (j - 392) (by omega) (by omega)]

/-- what stands behind a call that works on the blocks S -/
structure FrS (S S' : Nat → Prop) (w w' : World) : Prop where
  os : w'.os = w.os
  tape : w'.tape = w.tape
  output : w'.output = w.output
  size : w.heap.size ≤ w'.heap.size
  block : ∀ k, k < w.heap.size → ¬ S k → w'.heap[k]? = w.heap[k]?
  new : ∀ k, S' k → S k ∨ w.heap.size ≤ k
theorem FrS.refl (S : Nat → Prop) (w : World) : FrS S S w w := ⟨rfl, rfl, rfl, Nat.le_refl _, fun _ _ _ => rfl, fun _ h => .inl h⟩
theorem FrS.then {S S1 S2 : Nat → Prop} {w w1 w2 : World} (h : FrS S S1 w w1) (k : FrS S1 S2 w1 w2) : FrS S S2 w w2 :=
  ⟨k.os.trans h.os, k.tape.trans h.tape, k.output.trans h.output, Nat.le_trans h.size k.size,
   fun j hj hn => (k.block j (Nat.lt_of_lt_of_le hj h.size) (fun e => by rcases h.new j e with q | q; exact hn q; omega)).trans (h.block j hj hn),
   fun j hj => by rcases k.new j hj with q | q
                  · exact h.new j q
                  · exact .inr (Nat.le_trans h.size q)⟩
theorem FrS.of_below {S : Nat → Prop} {w w' : World} (h : Below w.heap.size w w') : FrS S S w w' := ⟨h.os, h.tape, h.output, h.size, fun k hk _ => h.block k hk, fun _ h => .inl h⟩
theorem FrS.set {S S' : Nat → Prop} {w W : World} (h : FrS S S' w W) (c i : Nat) (u : Value) (hc : S' c ∨ w.heap.size ≤ c) : FrS S S' w (W.setCell ⟨c, i, none⟩ u) := by
  have g := grown_set W ⟨c, i, none⟩ u
  refine ⟨g.os.trans h.os, g.tape.trans h.tape, g.output.trans h.output, Nat.le_trans h.size g.size, fun k hk hn => (g.block k (Nat.lt_of_lt_of_le hk h.size) ?_).trans (h.block k hk hn), h.new⟩
  intro e
  have e2 : k = c := by simpa using e
  subst e2
  rcases hc with q | q
  · rcases h.new k q with q2 | q2
    · exact hn q2
    · omega
  · omega
theorem FrS.drew {S S' : Nat → Prop} {w w' : World} (h : FrS S S' w w') : FrS S S' w w'.drew := ⟨h.os, h.tape, h.output, h.size, h.block, h.new⟩
theorem FrS.not {S S' : Nat → Prop} {w w' : World} (h : FrS S S' w w') {k : Nat} (hk : k < w.heap.size) (hn : ¬ S k) : ¬ S' k := fun e => by
  rcases h.new k e with q | q
  · exact hn q
  · omega
theorem Bx.frs {S S' : Nat → Prop} {b : Nat} {cs : Array Value} {T : TypeId} {w w' : World} (h : Bx b cs T w) (k : FrS S S' w w') (hn : ¬ S b) : Bx b cs T w' := (k.block b h.lt hn).trans h
theorem FrS.below {S S' : Nat → Prop} {B : Nat} {W0 w w' : World} (h : Below B W0 w) (k : FrS S S' w w') (hB : B ≤ w.heap.size) (hS : ∀ j, S j → B ≤ j) : Below B W0 w' :=
  ⟨k.os.trans h.os, k.tape.trans h.tape, k.output.trans h.output, Nat.le_trans h.size k.size, fun j hj => (k.block j (by omega) (fun e => by have := hS j e; omega)).trans (h.block j hj)⟩
/-- a row whose block is among S -/
def OwnS (S : Nat → Prop) (B : Nat) (e : TypeId) (k : Nat) (v : Value) (n : Nat) (xs : List Value) (W : World) : Prop := W.ownsRow B e k v n xs ∧ ∀ g, v.ownBlock = some g → S g
/-- the machine stands in the heap, in the blocks S, all of them younger than B -/
structure VMB (B mb : Nat) (S : Nat → Prop) (H : Nat → Value) (m : Mc) (R : Rw) (W : World) : Prop where
  mS : S mb
  rng : ∀ j, S j → B ≤ j ∧ j < W.heap.size
  bf : Bf mb (mcf H m R) 402 68 W
  own : OwnS S B 55 4 R.ov m.own.length (prLs m.own) W
  out : OwnS S B 52 3 R.outv m.out.length (vlLs m.out) W
  rds : OwnS S B 9 1 R.rv m.rds.length (m.rds.map strV) W
  puts : OwnS S B 9 1 R.pv m.puts.length (m.puts.map strV) W
  wrs : OwnS S B 55 4 R.wv m.wrs.length (prLs m.wrs) W
  apart : R.rv.ownBlock = none ∨ R.rv.ownBlock ≠ R.pv.ownBlock
  apart2 : R.wv.ownBlock = none ∨ R.wv.ownBlock ≠ R.ov.ownBlock
theorem OwnS.blocks {S : Nat → Prop} {B k n : Nat} {e : TypeId} {v : Value} {xs : List Value} {W W' : World} (h : OwnS S B e k v n xs W) (hk : ∀ g, S g → g < W.heap.size → v.ownBlock = some g → W'.heap[g]? = W.heap[g]?) : OwnS S B e k v n xs W' := by
  refine ⟨?_, h.2⟩
  refine ⟨h.1.1, ?_⟩
  rcases h.1.2 with hn | ⟨g, cap, cur, rfl, hb, hgg, rest⟩
  · exact .inl hn
  · exact .inr ⟨g, cap, cur, rfl, hb, (hk g (h.2 g rfl) (lt_heap hgg) rfl).trans hgg, rest⟩
theorem VMB.call {B mb : Nat} {S : Nat → Prop} {H : Nat → Value} {m : Mc} {R : Rw} {W W' : World} (h : VMB B mb S H m R W) (hb : Below W.heap.size W W') : VMB B mb S H m R W' :=
  ⟨h.mS, fun j hj => ⟨(h.rng j hj).1, Nat.lt_of_lt_of_le (h.rng j hj).2 hb.size⟩, h.bf.call hb, h.own.blocks fun g _ hg _ => hb.block g hg, h.out.blocks fun g _ hg _ => hb.block g hg, h.rds.blocks fun g _ hg _ => hb.block g hg, h.puts.blocks fun g _ hg _ => hb.block g hg, h.wrs.blocks fun g _ hg _ => hb.block g hg, h.apart, h.apart2⟩
theorem VMB.drew {B mb : Nat} {S : Nat → Prop} {H : Nat → Value} {m : Mc} {R : Rw} {W : World} (h : VMB B mb S H m R W) : VMB B mb S H m R W.drew := ⟨h.mS, h.rng, h.bf, h.own, h.out, h.rds, h.puts, h.wrs, h.apart, h.apart2⟩
theorem VMB.not {B mb : Nat} {S : Nat → Prop} {H : Nat → Value} {m : Mc} {R : Rw} {W : World} (h : VMB B mb S H m R W) : ¬ S W.heap.size := fun e => by have := (h.rng _ e).2; omega
/-- a store into the machine's own block -/
theorem OwnS.set {S : Nat → Prop} {B k n b : Nat} {e T : TypeId} {f : Nat → Value} {N : Nat} {v : Value} {xs : List Value} {W : World} (h : OwnS S B e k v n xs W) (hb : Bf b f N T W) (hT : T ≠ e) (i : Nat) (u : Value) : OwnS S B e k v n xs (W.setCell ⟨b, i, none⟩ u) := by
  obtain ⟨cs, hx, _⟩ := hb
  exact ⟨own_st h.1 hx hT i u, h.2⟩
theorem VMB.put {B mb : Nat} {S : Nat → Prop} {H : Nat → Value} {m m' : Mc} {R : Rw} {W : World} (h : VMB B mb S H m R W) (i : Nat) (u : Value) (he : ∀ j, j < 402 → upd (mcf H m R) i u j = mcf H m' R j) (h1 : m'.own = m.own) (h2 : m'.out = m.out) (h3 : m'.rds = m.rds) (h4 : m'.puts = m.puts) (h5 : m'.wrs = m.wrs) : VMB B mb S H m' R (W.setCell ⟨mb, i, none⟩ u) := by
  refine ⟨h.mS, fun j hj => ⟨(h.rng j hj).1, Nat.lt_of_lt_of_le (h.rng j hj).2 (grown_set W ⟨mb, i, none⟩ u).size⟩, (h.bf.set i u).congr he, ?_, ?_, ?_, ?_, ?_, h.apart, h.apart2⟩
  · rw [h1]; exact h.own.set h.bf (by decide) i u
  · rw [h2]; exact h.out.set h.bf (by decide) i u
  · rw [h3]; exact h.rds.set h.bf (by decide) i u
  · rw [h4]; exact h.puts.set h.bf (by decide) i u
  · rw [h5]; exact h.wrs.set h.bf (by decide) i u
theorem VMB.put3 {B mb : Nat} {S : Nat → Prop} {H : Nat → Value} {m m' : Mc} {R : Rw} {W : World} (h : VMB B mb S H m R W) (i0 i1 i2 : Nat) (u0 u1 u2 : Value) (he : ∀ j, j < 402 → upd (upd (upd (mcf H m R) i0 u0) i1 u1) i2 u2 j = mcf H m' R j) (h1 : m'.own = m.own) (h2 : m'.out = m.out) (h3 : m'.rds = m.rds) (h4 : m'.puts = m.puts) (h5 : m'.wrs = m.wrs) : VMB B mb S H m' R (((W.setCell ⟨mb, i0, none⟩ u0).setCell ⟨mb, i1, none⟩ u1).setCell ⟨mb, i2, none⟩ u2) := by
  have b1 := h.bf.set i0 u0
  have b2 := b1.set i1 u1
  refine ⟨h.mS, fun j hj => ⟨(h.rng j hj).1, ?_⟩, (b2.set i2 u2).congr he, ?_, ?_, ?_, ?_, ?_, h.apart, h.apart2⟩
  · have g1 := (grown_set W ⟨mb, i0, none⟩ u0).size
    have g2 := (grown_set (W.setCell ⟨mb, i0, none⟩ u0) ⟨mb, i1, none⟩ u1).size
    have g3 := (grown_set ((W.setCell ⟨mb, i0, none⟩ u0).setCell ⟨mb, i1, none⟩ u1) ⟨mb, i2, none⟩ u2).size
    have := (h.rng j hj).2
    omega
  · rw [h1]; exact ((h.own.set h.bf (by decide) i0 u0).set b1 (by decide) i1 u1).set b2 (by decide) i2 u2
  · rw [h2]; exact ((h.out.set h.bf (by decide) i0 u0).set b1 (by decide) i1 u1).set b2 (by decide) i2 u2
  · rw [h3]; exact ((h.rds.set h.bf (by decide) i0 u0).set b1 (by decide) i1 u1).set b2 (by decide) i2 u2
  · rw [h4]; exact ((h.puts.set h.bf (by decide) i0 u0).set b1 (by decide) i1 u1).set b2 (by decide) i2 u2
  · rw [h5]; exact ((h.wrs.set h.bf (by decide) i0 u0).set b1 (by decide) i1 u1).set b2 (by decide) i2 u2
/-- how a method of the machine ends -/
def VPost (B mb : Nat) (S : Nat → Prop) (H : Nat → Value) (m : Mc) (r : Value) (w : World) (e : Ending) (w' : World) : Prop := e = .returned r ∧ ∃ S' R', VMB B mb S' H m R' w' ∧ FrS S S' w w'
end Go.Proofs.YtnglaegofhpleaaGreatDoor
namespace Go.Proofs.YtnglaegofhpleaaGreatDoor
open Go.RowKit

def pushM (m : Mc) (v : Vl) : Mc := { { m with stk := setV m.stk m.dep v } with dep := m.dep + 1 }
def popM (m : Mc) : Mc := { m with dep := m.dep - 1 }
def popV (m : Mc) : Vl := m.stk (m.dep - 1)
theorem VMB.dep {B mb : Nat} {S : Nat → Prop} {H : Nat → Value} {m : Mc} {R : Rw} {W : World} (h : VMB B mb S H m R W) : W.cell? ⟨mb, 199, none⟩ = some (.int .i64 (m.dep : Int)) := h.bf.cell 199 (by decide)
theorem VMB.sc {B mb : Nat} {S : Nat → Prop} {H : Nat → Value} {m : Mc} {R : Rw} {W : World} (h : VMB B mb S H m R W) {d : Nat} (hd : d < 64) : W.cell? ⟨mb, 7 + d * 3, none⟩ = some (.int .i64 (m.stk d).k) ∧ W.cell? ⟨mb, 7 + d * 3 + 1, none⟩ = some (.int .i64 (m.stk d).n) ∧ W.cell? ⟨mb, 7 + d * 3 + 2, none⟩ = some (.string (bs (m.stk d).s)) :=
  ⟨(h.bf.cell (7 + d * 3) (by omega)).trans (congrArg some (mcf_stk H m R (r := 0) hd (by decide))), (h.bf.cell (7 + d * 3 + 1) (by omega)).trans (congrArg some (mcf_stk H m R (r := 1) hd (by decide))), (h.bf.cell (7 + d * 3 + 2) (by omega)).trans (congrArg some (mcf_stk H m R (r := 2) hd (by decide)))⟩
theorem VMB.lc {B mb : Nat} {S : Nat → Prop} {H : Nat → Value} {m : Mc} {R : Rw} {W : World} (h : VMB B mb S H m R W) {d : Nat} (hd : d < 64) : W.cell? ⟨mb, 200 + d * 3, none⟩ = some (.int .i64 (m.slo d).k) ∧ W.cell? ⟨mb, 200 + d * 3 + 1, none⟩ = some (.int .i64 (m.slo d).n) ∧ W.cell? ⟨mb, 200 + d * 3 + 2, none⟩ = some (.string (bs (m.slo d).s)) :=
  ⟨(h.bf.cell (200 + d * 3) (by omega)).trans (congrArg some (mcf_slo H m R (r := 0) hd (by decide))), (h.bf.cell (200 + d * 3 + 1) (by omega)).trans (congrArg some (mcf_slo H m R (r := 1) hd (by decide))), (h.bf.cell (200 + d * 3 + 2) (by omega)).trans (congrArg some (mcf_slo H m R (r := 2) hd (by decide)))⟩
theorem VMB.tl {B mb : Nat} {S : Nat → Prop} {H : Nat → Value} {m : Mc} {R : Rw} {W : World} (h : VMB B mb S H m R W) (k : Nat) (hk : k < 10) : W.cell? ⟨mb, 392 + k, none⟩ = some (tailM m R k) :=
  (h.bf.cell (392 + k) (by omega)).trans (congrArg some (mcf_tl H m R k))
theorem VMB.hd {B mb : Nat} {S : Nat → Prop} {H : Nat → Value} {m : Mc} {R : Rw} {W : World} (h : VMB B mb S H m R W) (k : Nat) (hk : k < 7) : W.cell? ⟨mb, k, none⟩ = some (H k) :=
  (h.bf.cell k (by omega)).trans (congrArg some (mcf_hd H m R hk))
theorem cellN_set {W : World} {b i j : Nat} {u : Value} (v : Value) (h1 : j ≠ i) (h : W.cell? ⟨b, i, none⟩ = some u) : (W.setCell ⟨b, j, none⟩ v).cell? ⟨b, i, none⟩ = some u := by
  rw [World.cell?_setCell_other _ _ _ _ (by intro e; exact h1 (by cases e; rfl))]; exact h

/-- stores into a box that is none of the machine's -/
theorem VMB.other {B mb : Nat} {S : Nat → Prop} {H : Nat → Value} {m : Mc} {R : Rw} {W : World} (h : VMB B mb S H m R W) (c i : Nat) (hc : ¬ S c) (u : Value) : VMB B mb S H m R (W.setCell ⟨c, i, none⟩ u) := by
  have g := grown_set W ⟨c, i, none⟩ u
  have hk : ∀ j, S j → j < W.heap.size → (W.setCell ⟨c, i, none⟩ u).heap[j]? = W.heap[j]? := fun j hj hl => g.block j hl (fun e => hc (by cases e; exact hj))
  exact ⟨h.mS, fun j hj => ⟨(h.rng j hj).1, Nat.lt_of_lt_of_le (h.rng j hj).2 g.size⟩, h.bf.block (hk mb h.mS h.bf.lt), h.own.blocks fun j a b _ => hk j a b, h.out.blocks fun j a b _ => hk j a b, h.rds.blocks fun j a b _ => hk j a b, h.puts.blocks fun j a b _ => hk j a b, h.wrs.blocks fun j a b _ => hk j a b, h.apart, h.apart2⟩
theorem vm_sets3 {B mb : Nat} {S : Nat → Prop} {H : Nat → Value} {m : Mc} {R : Rw} {W : World} (h : VMB B mb S H m R W) (c : Nat) (hc : ¬ S c) (u0 u1 u2 : Value) : VMB B mb S H m R (((W.setCell ⟨c, 0, none⟩ u0).setCell ⟨c, 1, none⟩ u1).setCell ⟨c, 2, none⟩ u2) := ((h.other c 0 hc u0).other c 1 hc u1).other c 2 hc u2

set_option maxRecDepth 100000 in
set_option maxHeartbeats 8000000 in
theorem push_any (B mb : Nat) (S : Nat → Prop) (H : Nat → Value) (m : Mc) (R : Rw) (v : Vl) (w : World) (h : VMB B mb S H m R w) (hd : m.dep < 64) :
    Calls Tryz.prog 60 #[.pointer (some ⟨mb, 0, none⟩), .agg (vV v)] w (VPost B mb S H (pushM m v) (.tuple #[]) w) := by
  simp only [vV]
  have hal := (Below.refl w.heap.size w).alloc (Nat.le_refl _) (.cells #[.int .i64 v.k, .int .i64 v.n, .string (bs v.s)] 52)
  have HM := Lib.hid (h.call hal); have HBX := Lib.hid (Bx.new w #[.int .i64 v.k, .int .i64 v.n, .string (bs v.s)] 52); have HN := Lib.hid h.not; have HF := Lib.hid (FrS.of_below (S := S) hal)
  have hne : mb ≠ w.heap.size := fun e => HN.out (e ▸ h.mS)
  clear h hal
  go_enter Tryz.func60, Tryz.ntmps60
  go_upto_region 1 with (fail)
  generalize hW : w.alloc (.cells #[.int .i64 v.k, .int .i64 v.n, .string (bs v.s)] 52) = v0 at HM HBX HF ⊢
  clear hW
  obtain ⟨d, hdd⟩ : ∃ d, m.dep = d := ⟨_, rfl⟩
  have HDD := Lib.hid hdd
  rw [hdd] at hd
  have hdi : (0 : Int) ≤ (d : Int) ∧ (d : Int) < 64 := by omega
  have hds := HM.out.dep
  rw [hdd] at hds
  clear hdd
  have HS0 := Lib.hid (show ((fun w' => w'.cell? ⟨mb, 199, none⟩ = some (.int .i64 (d : Int)) ∧ Bx w.heap.size #[.int .i64 v.k, .int .i64 v.n, .string (bs v.s)] 52 w')) v0.drew from ⟨hds, HBX.out⟩)
  obtain ⟨c0, c1, c2⟩ := HM.out.sc hd
  have f0 := HM.out.bf.free (7 + d * 3)
  have f1 := HM.out.bf.free (7 + d * 3 + 1)
  have f2 := HM.out.bf.free (7 + d * 3 + 2)
  clear hds
  have HKK := Lib.hid (show ((fun w' => w'.cell? ⟨mb, 199, none⟩ = some (.int .i64 (d : Int)) ∧ Bx w.heap.size #[.int .i64 v.k, .int .i64 v.n, .string (bs v.s)] 52 w')) (((v0.setCell ⟨mb, 7 + d * 3, none⟩ (.int .i64 v.k)).setCell ⟨mb, 7 + d * 3 + 1, none⟩ (.int .i64 v.n)).setCell ⟨mb, 7 + d * 3 + 2, none⟩ (.string (bs v.s))) from ⟨cellN_set _ (by omega) (cellN_set _ (by omega) (cellN_set _ (by omega) HS0.out.1)), ((HBX.out.other (Ne.symm hne) _).other (Ne.symm hne) _).other (Ne.symm hne) _⟩)
  have HM2 := Lib.hid (VMB.drew (HM.out.put3 (m' := { m with stk := setV m.stk d v }) _ _ _ _ _ _ (upd_stk H m R hd v) rfl rfl rfl rfl rfl))
  have HF2 := Lib.hid (FrS.drew (((HF.out.set mb (7 + d * 3) (.int .i64 v.k) (.inl HM.out.mS)).set mb (7 + d * 3 + 1) (.int .i64 v.n) (.inl HM.out.mS)).set mb (7 + d * 3 + 2) (.string (bs v.s)) (.inl HM.out.mS)))
  refine wp_region_held_drew (S := (fun w' => w'.cell? ⟨mb, 199, none⟩ = some (.int .i64 (d : Int)) ∧ Bx w.heap.size #[.int .i64 v.k, .int .i64 v.n, .string (bs v.s)] 52 w')) (by kernel_rfl) ?_ (fun hHeld => ?_)
  · exact HS0.out
  refine tkX (i := 0) 4 ?_
  simp only [sA, sB, sC]
  refine tkX (i := 1) 5 ?_
  simp only [sA, sB, sC]
  refine tkX (i := 2) 6 ?_
  simp only [sA, sB, sC]
  refine tkX (i := 3) 7 ?_
  simp only [sA, sB, sC]
  refine tkY (i := 4) (v := ?vv5) 8 ?yy5 ?_
  case yy5 =>
    intro wq hSw
    have ds := hSw.1
    clear hSw
    go_simp
    (try with_reducible rfl)
  simp only [sA, sB, sC]
  refine tkY (i := 5) (v := ?vv6) 9 ?yy6 ?_
  case yy6 =>
    intro wq hSw
    obtain ⟨b0, b1, b2⟩ := hSw.2.c3
    clear hSw
    go_simp
    (try with_reducible rfl)
  simp only [sA, sB, sC]
  refine tkX (i := 6) 10 ?_
  simp only [sA, sB, sC]
  refine tkX (i := 7) 11 ?_
  simp only [sA, sB, sC]
  refine tkX (i := 8) 12 ?_
  simp only [sA, sB, sC]
  refine wpAnyH_ready (rs := [9]) (by kernel_rfl) (by simp) ?_
  refine (AllReadyH.cons rfl (fun K hK => ?_) AllReadyH.nil)
  go_simp
  refine hK.out _ _ ?_ (fun hHeld => ?_)
  · exact HKK.out
  clear hK K
  (try simp only [Act.put, sA, sB, sC])
  refine wpAnyH_done (by kernel_rfl) ?_ _
  clear hHeld HKK HS0 c0 c1 c2 f0 f1 f2 HM HBX HF
  generalize hW : World.drew (((v0.setCell ⟨mb, 7 + d * 3, none⟩ (.int .i64 v.k)).setCell ⟨mb, 7 + d * 3 + 1, none⟩ (.int .i64 v.n)).setCell ⟨mb, 7 + d * 3 + 2, none⟩ (.string (bs v.s))) = v1 at HM2 HF2 ⊢
  clear hW
  have hds : v1.cell? ⟨mb, 199, none⟩ = some (.int .i64 (d : Int)) := by have := HM2.out.dep; rw [show (Mc.dep { m with stk := setV m.stk d v }) = m.dep from rfl, HDD.out] at this; exact this
  have hfr := HM2.out.bf.free 199
  have hw1 : IntKind.i64.wrap ((d : Int) + 1) = ((d + 1 : Nat) : Int) := by rw [IntKind.wrap_i64] <;> omega
  have HM3 := Lib.hid (HM2.out.put (m' := pushM m v) 199 (.int .i64 ((d + 1 : Nat) : Int)) (by have h := upd_dep H { m with stk := setV m.stk m.dep v } R (m.dep + 1); unfold pushM; rw [HDD.out] at h ⊢; exact h) rfl rfl rfl rfl rfl)
  have HF3 := Lib.hid (HF2.out.set mb 199 (.int .i64 ((d + 1 : Nat) : Int)) (.inl HM2.out.mS))
  go_wp2
  exact ⟨(by first | exact True.intro | rfl), .tuple #[], results_none rfl _ _ _, rfl, S, R, HM3.out, HF3.out⟩
set_option maxRecDepth 100000 in
set_option maxHeartbeats 8000000 in
theorem pop_any (B mb : Nat) (S : Nat → Prop) (H : Nat → Value) (m : Mc) (R : Rw) (w : World) (h : VMB B mb S H m R w) (hd1 : 1 ≤ m.dep) (hd : m.dep ≤ 64) :
    Calls Tryz.prog 61 #[.pointer (some ⟨mb, 0, none⟩)] w (VPost B mb S H (popM m) (.agg (vV (popV m))) w) := by
  have hal := (Below.refl w.heap.size w).alloc (Nat.le_refl _) (.cells #[.int .i64 0, .int .i64 0, .string ⟨#[]⟩] 52)
  have HM := Lib.hid (h.call hal); have HRB := Lib.hid (Bx.new w #[.int .i64 0, .int .i64 0, .string ⟨#[]⟩] 52); have HN := Lib.hid h.not; have HF := Lib.hid (FrS.of_below (S := S) hal)
  have hne : mb ≠ w.heap.size := fun e => HN.out (e ▸ h.mS)
  clear h hal
  go_enter Tryz.func61, Tryz.ntmps61
  go_upto_region 1 with (fail)
  generalize hW : w.alloc (.cells #[.int .i64 0, .int .i64 0, .string ⟨#[]⟩] 52) = v0 at HM HRB HF ⊢
  clear hW
  obtain ⟨d, hdd⟩ : ∃ d, m.dep = d + 1 := ⟨m.dep - 1, by omega⟩
  have HDD := Lib.hid hdd
  have hd2 : d < 64 := by omega
  have hds := HM.out.dep
  rw [hdd, show ((d + 1 : Nat) : Int) = (d : Int) + 1 from rfl] at hds
  clear hdd hd hd1
  have hw1 : IntKind.i64.wrap ((d : Int) + 1 - 1) = (d : Int) := by rw [IntKind.wrap_i64] <;> omega
  have hfr := HM.out.bf.free 199
  have hdi : (0 : Int) ≤ (d : Int) ∧ (d : Int) < 64 := by omega
  have HM2 := Lib.hid (HM.out.put (m' := popM m) 199 (.int .i64 (d : Int)) (by have h := upd_dep H m R d; unfold popM; rw [HDD.out]; exact h) rfl rfl rfl rfl rfl)
  have HF2 := Lib.hid (HF.out.set mb 199 (.int .i64 (d : Int)) (.inl HM.out.mS))
  have HR2 := Lib.hid (HRB.out.other (c := mb) (i := 199) (Ne.symm hne) (.int .i64 (d : Int)))
  go_upto_region 2 with (fail)
  clear hds hfr HM HF HRB
  generalize hW : v0.setCell ⟨mb, 199, none⟩ (.int .i64 (d : Int)) = v1 at HM2 HF2 HR2 ⊢
  clear hW
  obtain ⟨v, hv⟩ : ∃ v, m.stk d = v := ⟨_, rfl⟩
  have hpv : popV m = v := by unfold popV; rw [HDD.out]; exact hv
  have HPV := Lib.hid hpv
  have hds := HM2.out.dep
  rw [show (popM m).dep = d by unfold popM; show m.dep - 1 = d; rw [HDD.out]; rfl] at hds
  have hsc := HM2.out.sc hd2
  rw [show (popM m).stk d = v from hv] at hsc
  have HS0 := Lib.hid (show ((fun w' => w'.cell? ⟨mb, 199, none⟩ = some (.int .i64 (d : Int)) ∧ w'.cell? ⟨mb, 7 + d * 3, none⟩ = some (.int .i64 v.k) ∧ w'.cell? ⟨mb, 7 + d * 3 + 1, none⟩ = some (.int .i64 v.n) ∧ w'.cell? ⟨mb, 7 + d * 3 + 2, none⟩ = some (.string (bs v.s)))) v1.drew from ⟨hds, hsc⟩)
  clear hds hsc hv hpv
  obtain ⟨r0, r1, r2⟩ := HR2.out.c3
  have f0 := HR2.out.free 0
  have f1 := HR2.out.free 1
  have f2 := HR2.out.free 2
  have HKK := Lib.hid (show ((fun w' => w'.cell? ⟨mb, 199, none⟩ = some (.int .i64 (d : Int)) ∧ w'.cell? ⟨mb, 7 + d * 3, none⟩ = some (.int .i64 v.k) ∧ w'.cell? ⟨mb, 7 + d * 3 + 1, none⟩ = some (.int .i64 v.n) ∧ w'.cell? ⟨mb, 7 + d * 3 + 2, none⟩ = some (.string (bs v.s)))) (((v1.setCell ⟨w.heap.size, 0, none⟩ (.int .i64 v.k)).setCell ⟨w.heap.size, 1, none⟩ (.int .i64 v.n)).setCell ⟨w.heap.size, 2, none⟩ (.string (bs v.s))) from ⟨cell1_set _ (Ne.symm hne) (cell1_set _ (Ne.symm hne) (cell1_set _ (Ne.symm hne) HS0.out.1)), cell1_set _ (Ne.symm hne) (cell1_set _ (Ne.symm hne) (cell1_set _ (Ne.symm hne) HS0.out.2.1)), cell1_set _ (Ne.symm hne) (cell1_set _ (Ne.symm hne) (cell1_set _ (Ne.symm hne) HS0.out.2.2.1)), cell1_set _ (Ne.symm hne) (cell1_set _ (Ne.symm hne) (cell1_set _ (Ne.symm hne) HS0.out.2.2.2))⟩)
  have hb3 : Below v1.heap.size v1 v1 := Below.refl _ _
  have HMF := Lib.hid (VMB.drew (vm_sets3 HM2.out w.heap.size HN.out (.int .i64 v.k) (.int .i64 v.n) (.string (bs v.s))))
  have HFF := Lib.hid (FrS.drew (((HF2.out.set w.heap.size 0 (.int .i64 v.k) (.inr (Nat.le_refl _))).set w.heap.size 1 (.int .i64 v.n) (.inr (Nat.le_refl _))).set w.heap.size 2 (.string (bs v.s)) (.inr (Nat.le_refl _))))
  have HRR := Lib.hid (Bx.drew (HR2.out.sets3 (.int .i64 v.k) (.int .i64 v.n) (.string (bs v.s))))
  refine wp_region_held_drew (S := (fun w' => w'.cell? ⟨mb, 199, none⟩ = some (.int .i64 (d : Int)) ∧ w'.cell? ⟨mb, 7 + d * 3, none⟩ = some (.int .i64 v.k) ∧ w'.cell? ⟨mb, 7 + d * 3 + 1, none⟩ = some (.int .i64 v.n) ∧ w'.cell? ⟨mb, 7 + d * 3 + 2, none⟩ = some (.string (bs v.s)))) (by kernel_rfl) ?_ (fun hHeld => ?_)
  · exact HS0.out
  refine tkX (i := 0) 10 ?_
  simp only [sA, sB, sC]
  refine tkX (i := 1) 11 ?_
  simp only [sA, sB, sC]
  refine tkX (i := 2) 12 ?_
  simp only [sA, sB, sC]
  refine tkX (i := 3) 13 ?_
  simp only [sA, sB, sC]
  refine tkY (i := 4) (v := ?vv14) 14 ?yy14 ?_
  case yy14 =>
    intro wq hSw
    have ds := hSw.1
    clear hSw
    go_simp
    (try with_reducible rfl)
  simp only [sA, sB, sC]
  refine tkX (i := 5) 15 ?_
  simp only [sA, sB, sC]
  refine tkX (i := 6) 16 ?_
  simp only [sA, sB, sC]
  refine tkX (i := 7) 17 ?_
  simp only [sA, sB, sC]
  refine tkY (i := 8) (v := ?vv18) 18 ?yy18 ?_
  case yy18 =>
    intro wq hSw
    have b0 := hSw.2.1
    have b1 := hSw.2.2.1
    have b2 := hSw.2.2.2
    clear hSw
    go_simp
    (try with_reducible rfl)
  simp only [sA, sB, sC]
  refine wpAnyH_ready (rs := [9]) (by kernel_rfl) (by simp) ?_
  refine (AllReadyH.cons rfl (fun K hK => ?_) AllReadyH.nil)
  go_simp
  refine hK.out _ _ ?_ (fun hHeld => ?_)
  · exact HKK.out
  clear hK K
  (try simp only [Act.put, sA, sB, sC])
  refine wpAnyH_done (by kernel_rfl) ?_ _
  clear hHeld HKK HS0 r0 r1 r2 f0 f1 f2 HM2 HF2 HR2
  generalize hW : World.drew (((v1.setCell ⟨w.heap.size, 0, none⟩ (.int .i64 v.k)).setCell ⟨w.heap.size, 1, none⟩ (.int .i64 v.n)).setCell ⟨w.heap.size, 2, none⟩ (.string (bs v.s))) = v2 at HMF HFF HRR ⊢
  clear hW
  go_wp2
  obtain ⟨k0, k1, k2⟩ := HRR.out.c3
  refine bodyPost_ret (v := .agg #[.int .i64 v.k, .int .i64 v.n, .string (bs v.s)]) (by simp [results, Tryz.results61, go_sem, k0, k1, k2] <;> rfl) rfl ⟨by rw [HPV.out] <;> rfl, S, R, HMF.out, HFF.out⟩
def endM (st c : Int) (k : List UInt8) (m : Mc) : Mc :=
  if st = 1 then { m with done := true, st := st, code := c, miss := k, wrs := m.wrs ++ m.puts.map fun x => ⟨x, getP m.own x⟩ }
  else { m with done := true, st := st, code := c, miss := k, out := [] }
theorem VMB.done {B mb : Nat} {S : Nat → Prop} {H : Nat → Value} {m : Mc} {R : Rw} {W : World} (h : VMB B mb S H m R W) (b : Bool) : VMB B mb S H { m with done := b } R (W.setCell ⟨mb, 401, none⟩ (.bool b)) :=
  h.put 401 _ (upd_tl H m { m with done := b } R R 9 _ rfl rfl rfl (by decide) rfl (fun i hi hn => by match i with | 0 => rfl | 1 => rfl | 2 => rfl | 3 => rfl | 4 => rfl | 5 => rfl | 6 => rfl | 7 => rfl | 8 => rfl | 9 => exact absurd rfl hn)) rfl rfl rfl rfl rfl
theorem VMB.status {B mb : Nat} {S : Nat → Prop} {H : Nat → Value} {m : Mc} {R : Rw} {W : World} (h : VMB B mb S H m R W) (x : Int) : VMB B mb S H { m with st := x } R (W.setCell ⟨mb, 393, none⟩ (.int .i64 x)) :=
  h.put 393 _ (upd_tl H m { m with st := x } R R 1 _ rfl rfl rfl (by decide) rfl (fun i hi hn => by match i with | 0 => rfl | 1 => exact absurd rfl hn | 2 => rfl | 3 => rfl | 4 => rfl | 5 => rfl | 6 => rfl | 7 => rfl | 8 => rfl | 9 => rfl)) rfl rfl rfl rfl rfl
theorem VMB.coded {B mb : Nat} {S : Nat → Prop} {H : Nat → Value} {m : Mc} {R : Rw} {W : World} (h : VMB B mb S H m R W) (x : Int) : VMB B mb S H { m with code := x } R (W.setCell ⟨mb, 394, none⟩ (.int .i64 x)) :=
  h.put 394 _ (upd_tl H m { m with code := x } R R 2 _ rfl rfl rfl (by decide) rfl (fun i hi hn => by match i with | 0 => rfl | 1 => rfl | 2 => exact absurd rfl hn | 3 => rfl | 4 => rfl | 5 => rfl | 6 => rfl | 7 => rfl | 8 => rfl | 9 => rfl)) rfl rfl rfl rfl rfl
theorem VMB.missed {B mb : Nat} {S : Nat → Prop} {H : Nat → Value} {m : Mc} {R : Rw} {W : World} (h : VMB B mb S H m R W) (x : List UInt8) : VMB B mb S H { m with miss := x } R (W.setCell ⟨mb, 399, none⟩ (.string (bs x))) :=
  h.put 399 _ (upd_tl H m { m with miss := x } R R 7 _ rfl rfl rfl (by decide) rfl (fun i hi hn => by match i with | 0 => rfl | 1 => rfl | 2 => rfl | 3 => rfl | 4 => rfl | 5 => rfl | 6 => rfl | 7 => exact absurd rfl hn | 8 => rfl | 9 => rfl)) rfl rfl rfl rfl rfl
theorem VMB.stepped {B mb : Nat} {S : Nat → Prop} {H : Nat → Value} {m : Mc} {R : Rw} {W : World} (h : VMB B mb S H m R W) (x : Int) : VMB B mb S H { m with steps := x } R (W.setCell ⟨mb, 400, none⟩ (.int .i64 x)) :=
  h.put 400 _ (upd_tl H m { m with steps := x } R R 8 _ rfl rfl rfl (by decide) rfl (fun i hi hn => by match i with | 0 => rfl | 1 => rfl | 2 => rfl | 3 => rfl | 4 => rfl | 5 => rfl | 6 => rfl | 7 => rfl | 8 => exact absurd rfl hn | 9 => rfl)) rfl rfl rfl rfl rfl
theorem own_nils (S : Nat → Prop) (W : World) (B : Nat) (e : TypeId) (k : Nat) : OwnS S B e k (.slice none 0 0) 0 [] W := ⟨own_nil W B e k, fun g hg => by cases hg⟩
theorem VMB.clr {B mb : Nat} {S : Nat → Prop} {H : Nat → Value} {m : Mc} {R : Rw} {W : World} (h : VMB B mb S H m R W) : VMB B mb S H { m with out := [] } { R with outv := .slice none 0 0 } (W.setCell ⟨mb, 395, none⟩ (.slice none 0 0)) := by
  have he := upd_tl H m { m with out := [] } R { R with outv := .slice none 0 0 } 3 (.slice none 0 0) rfl rfl rfl (by decide) rfl (fun i hi hn => by match i with | 0 => rfl | 1 => rfl | 2 => rfl | 3 => exact absurd rfl hn | 4 => rfl | 5 => rfl | 6 => rfl | 7 => rfl | 8 => rfl | 9 => rfl)
  exact ⟨h.mS, fun j hj => ⟨(h.rng j hj).1, Nat.lt_of_lt_of_le (h.rng j hj).2 (grown_set W ⟨mb, 395, none⟩ (.slice none 0 0)).size⟩, (h.bf.set 395 (.slice none 0 0)).congr he, h.own.set h.bf (by decide) _ _, own_nils S _ B _ _, h.rds.set h.bf (by decide) _ _, h.puts.set h.bf (by decide) _ _, h.wrs.set h.bf (by decide) _ _, h.apart, h.apart2⟩

set_option maxRecDepth 100000 in
set_option maxHeartbeats 8000000 in
theorem endN_any (B mb : Nat) (S : Nat → Prop) (H : Nat → Value) (m : Mc) (R : Rw) (st c : Int) (k : List UInt8) (hst : st ≠ 1) (w : World) (h : VMB B mb S H m R w) :
    Calls Tryz.prog 59 #[.pointer (some ⟨mb, 0, none⟩), .int .i64 st, .int .i64 c, .string (bs k)] w (VPost B mb S H (endM st c k m) (.tuple #[]) w) := by
  have HM := Lib.hid h; clear h
  have c9 : w.cell? ⟨mb, 401, none⟩ = some (.bool m.done) := HM.out.tl 9 (by decide)
  have f9 := HM.out.bf.free 401
  have HM1 := Lib.hid (HM.out.done true)
  go_enter Tryz.func59, Tryz.ntmps59
  go_upto_region 1 with (fail)
  clear c9 f9
  have HF1 := Lib.hid ((FrS.refl S w).set mb 401 (.bool true) (.inl HM.out.mS))
  generalize hW : w.setCell ⟨mb, 401, none⟩ (.bool true) = v1 at HM1 HF1 ⊢
  clear hW
  have c1 : v1.cell? ⟨mb, 393, none⟩ = some (.int .i64 m.st) := HM1.out.tl 1 (by decide)
  have c2 : v1.cell? ⟨mb, 394, none⟩ = some (.int .i64 m.code) := HM1.out.tl 2 (by decide)
  have c7 : v1.cell? ⟨mb, 399, none⟩ = some (.string (bs m.miss)) := HM1.out.tl 7 (by decide)
  have f1 := HM1.out.bf.free 393
  have f2 := HM1.out.bf.free 394
  have f7 := HM1.out.bf.free 399
  have HM2 := Lib.hid (((HM1.out.status st).coded c).missed k)
  have HF2 := Lib.hid (((HF1.out.set mb 393 (.int .i64 st) (.inl HM.out.mS)).set mb 394 (.int .i64 c) (.inl HM.out.mS)).set mb 399 (.string (bs k)) (.inl HM.out.mS))
  have g2 : (v1.setCell ⟨mb, 393, none⟩ (.int .i64 st)).cell? ⟨mb, 394, none⟩ = some (.int .i64 m.code) := (HM1.out.status st).tl 2 (by decide)
  have h2 := (HM1.out.status st).bf.free 394
  have g7 : ((v1.setCell ⟨mb, 393, none⟩ (.int .i64 st)).setCell ⟨mb, 394, none⟩ (.int .i64 c)).cell? ⟨mb, 399, none⟩ = some (.string (bs m.miss)) := ((HM1.out.status st).coded c).tl 7 (by decide)
  have h7 := ((HM1.out.status st).coded c).bf.free 399
  go_upto_region 2 with (fail)
  clear c1 c2 c7 f1 f2 f7 g2 h2 g7 h7 HM1 HF1
  generalize hW : ((v1.setCell ⟨mb, 393, none⟩ (.int .i64 st)).setCell ⟨mb, 394, none⟩ (.int .i64 c)).setCell ⟨mb, 399, none⟩ (.string (bs k)) = v2 at HM2 HF2 ⊢
  clear hW
  have tst : (st != 1) = true := by rw [bne_iff_ne]; exact hst
  have HST := Lib.hid hst; clear hst
  obtain ⟨oa, oc, hov⟩ := own_sl HM2.out.out.1
  have c3 : v2.cell? ⟨mb, 395, none⟩ = some (.slice oa m.out.length oc) := by rw [← show R.outv = .slice oa m.out.length oc from hov]; exact HM2.out.tl 3 (by decide)
  clear hov
  have f3 := HM2.out.bf.free 395
  have HM3 := Lib.hid HM2.out.clr
  have HF3 := Lib.hid (HF2.out.set mb 395 (.slice none 0 0) (.inl HM.out.mS))
  go_wp2
  have hem : endM st c k m = { m with done := true, st := st, code := c, miss := k, out := [] } := if_neg HST.out
  exact ⟨(by first | exact True.intro | rfl), .tuple #[], results_none rfl _ _ _, rfl, S, _, by rw [hem]; exact HM3.out, HF3.out⟩
set_option maxRecDepth 100000 in
set_option maxHeartbeats 8000000 in
theorem vabort_any (B mb : Nat) (S : Nat → Prop) (H : Nat → Value) (m : Mc) (R : Rw) (c : Int) (w : World) (h : VMB B mb S H m R w) :
    Calls Tryz.prog 37 #[.pointer (some ⟨mb, 0, none⟩), .int .i64 c] w (VPost B mb S H (endM 2 c [] m) (.tuple #[]) w) := by
  have HM := Lib.hid h; clear h
  go_enter Tryz.func37, Tryz.ntmps37
  go_wp2_with fail
  refine (endN_any B mb S H m R 2 c [] (by decide) w HM.out).mono ?_
  rintro e w1 ⟨rfl, S', R', h1, h2⟩
  have H1 := Lib.hid h1; have H2 := Lib.hid h2; clear h1 h2
  go_wp2
  exact ⟨(by first | exact True.intro | rfl), .tuple #[], results_none rfl _ _ _, rfl, S', R', H1.out, H2.out⟩
def tickM (m : Mc) : Mc := if 16384 < m.steps + 1 then endM 2 1008 [] { m with steps := m.steps + 1 } else { m with steps := m.steps + 1 }

set_option maxRecDepth 100000 in
set_option maxHeartbeats 8000000 in
theorem tick_any (B mb : Nat) (S : Nat → Prop) (H : Nat → Value) (m : Mc) (R : Rw) (w : World) (h : VMB B mb S H m R w) (h0 : 0 ≤ m.steps) (h1 : m.steps ≤ 16384) :
    Calls Tryz.prog 68 #[.pointer (some ⟨mb, 0, none⟩)] w (VPost B mb S H (tickM m) (.tuple #[]) w) := by
  have HM := Lib.hid h; clear h
  obtain ⟨z, hz⟩ : ∃ z, m.steps = z := ⟨_, rfl⟩
  have HZ := Lib.hid hz
  rw [hz] at h0 h1
  have c8 : w.cell? ⟨mb, 400, none⟩ = some (.int .i64 z) := by rw [← hz]; exact HM.out.tl 8 (by decide)
  clear hz
  have hw1 : IntKind.i64.wrap (z + 1) = z + 1 := by rw [IntKind.wrap_i64] <;> omega
  have f8 := HM.out.bf.free 400
  have HM1 := Lib.hid (HM.out.stepped (z + 1))
  have HF1 := Lib.hid ((FrS.refl S w).set mb 400 (.int .i64 (z + 1)) (.inl HM.out.mS))
  go_enter Tryz.func68, Tryz.ntmps68
  go_upto_region 1 with (fail)
  clear c8 f8 HM
  generalize hW : w.setCell ⟨mb, 400, none⟩ (.int .i64 (z + 1)) = v1 at HM1 HF1 ⊢
  clear hW
  have c8 : v1.cell? ⟨mb, 400, none⟩ = some (.int .i64 (z + 1)) := HM1.out.tl 8 (by decide)
  by_cases hbig : 16384 < z + 1
  · go_wp2_with fail
    refine (vabort_any B mb S H _ R 1008 _ HM1.out).mono ?_
    rintro e w1 ⟨rfl, S', R', h1, h2⟩
    have H1 := Lib.hid h1; have H2 := Lib.hid h2; clear h1 h2 c8
    go_wp2
    exact ⟨(by first | exact True.intro | rfl), .tuple #[], results_none rfl _ _ _, rfl, S', R', by unfold tickM; rw [HZ.out, if_pos hbig]; exact H1.out, HF1.out.then H2.out⟩
  · have hb2 : ¬ (16384 < z + 1) := hbig
    go_wp2
    exact ⟨(by first | exact True.intro | rfl), .tuple #[], results_none rfl _ _ _, rfl, S, R, by unfold tickM; rw [HZ.out, if_neg (by omega)]; exact HM1.out, HF1.out⟩
end Go.Proofs.YtnglaegofhpleaaGreatDoor
namespace Go.Proofs.YtnglaegofhpleaaGreatDoor
open Go.RowKit

def addB (S : Nat → Prop) (v : Value) : Nat → Prop := fun k => S k ∨ v.ownBlock = some k
theorem own_apart {B B' n n' k k' : Nat} {e e' : TypeId} {v v' : Value} {xs xs' : List Value} {W : World} (h : W.ownsRow B e k v n xs) (h2 : W.ownsRow B' e' k' v' n' xs') (he : e ≠ e') : v.ownBlock = none ∨ v.ownBlock ≠ v'.ownBlock := by
  rcases h.2 with ⟨rfl, _⟩ | ⟨g, cap, cur, rfl, _, hg, _⟩
  · exact .inl rfl
  right
  rcases h2.2 with ⟨rfl, _⟩ | ⟨g', cap', cur', rfl, _, hg', _⟩
  · intro e; cases e
  · intro h
    have hgg : g = g' := by simpa [Value.ownBlock] using h
    subst hgg
    rw [hg] at hg'
    cases hg'
    exact he rfl
theorem apart_symm {a b : Option Nat} (h : a = none ∨ a ≠ b) : b = none ∨ b ≠ a := by
  rcases h with rfl | h
  · cases b with
    | none => exact .inl rfl
    | some x => exact .inr (by intro e; cases e)
  · exact .inr (Ne.symm h)
theorem OwnS.grow {S S' : Nat → Prop} {B k n : Nat} {e : TypeId} {v : Value} {xs : List Value} {W W' : World} {row : Option Nat} (h : OwnS S B e k v n xs W) (hg : W.grownBy W' row) (hne : v.ownBlock = none ∨ v.ownBlock ≠ row) (hs : ∀ j, S j → S' j) : OwnS S' B e k v n xs W' := by
  have h1 := h.blocks (W' := W') fun g _ hl hv => hg.block g hl (fun e => by
    rcases hne with q | q
    · rw [hv] at q; cases q
    · exact q (hv.trans e))
  exact ⟨h1.1, fun g hgv => hs g (h1.2 g hgv)⟩
theorem Bf.grow {b : Nat} {f : Nat → Value} {n : Nat} {T : TypeId} {W W' : World} {row : Option Nat} (h : Bf b f n T W) (hg : W.grownBy W' row) (hne : row ≠ some b) : Bf b f n T W' := h.block (hg.block b h.lt (Ne.symm hne))
theorem Bf.row_ne {b : Nat} {f : Nat → Value} {N : Nat} {T : TypeId} {W : World} {B n k : Nat} {e : TypeId} {v : Value} {xs : List Value} (h : Bf b f N T W) (ho : W.ownsRow B e k v n xs) (hT : T ≠ e) : v.ownBlock ≠ some b := by
  intro hv
  obtain ⟨cs, hx, _⟩ := h
  rcases ho.2 with ⟨rfl, _⟩ | ⟨g, cap, cur, rfl, _, hg, _⟩
  · cases hv
  · have hgb : g = b := by simpa [Value.ownBlock] using hv
    subst hgb
    have h2 : W.heap[g]? = some (.cells cs T (0, 0)) := hx
    rw [h2] at hg
    cases hg
    exact hT rfl
theorem OwnS.more {S S' : Nat → Prop} {B k n : Nat} {e : TypeId} {v : Value} {xs : List Value} {W : World} (h : OwnS S B e k v n xs W) (hs : ∀ j, S j → S' j) : OwnS S' B e k v n xs W := ⟨h.1, fun g hg => hs g (h.2 g hg)⟩
theorem FrS.grown {S : Nat → Prop} {W W' : World} {v v' : Value} (hg : W.grownBy W' v.ownBlock) (hS : ∀ g, v.ownBlock = some g → S g) (hb : v'.ownBlock = v.ownBlock ∨ ∃ b, v'.ownBlock = some b ∧ W.heap.size ≤ b) : FrS S (addB S v') W W' := by
  refine ⟨hg.os, hg.tape, hg.output, hg.size, fun k hk hn => hg.block k hk (fun e => hn (hS k e.symm)), fun k hk => ?_⟩
  rcases hk with q | q
  · exact .inl q
  · rcases hb with r | ⟨b, r, r2⟩
    · exact .inl (hS k (r ▸ q))
    · rw [r] at q; cases q; exact .inr r2
theorem own_put {B n k g cap : Nat} {e : TypeId} {xs : List Value} {W : World} (h : W.ownsRow B e k (.slice (some ⟨g, 0, none⟩) n cap) n xs) (j : Nat) (u : Value) : (W.setCell ⟨g, j, none⟩ u).ownsRow B e k (.slice (some ⟨g, 0, none⟩) n cap) n (xs.set j u) := by
  refine ⟨by rw [List.length_set]; exact h.1, ?_⟩
  rcases h.2 with ⟨h1, _⟩ | ⟨g2, cap2, cur, h1, hb, hg, hn, hm, hs, ht⟩
  · cases h1
  cases h1
  have hx : Bx g cur e W := hg
  refine .inr ⟨g, cap, cur.setIfInBounds j u, rfl, hb, hx.set j u, hn, hm, by simpa using hs, ?_⟩
  rw [Array.toList_setIfInBounds, List.take_set, ht]

theorem VMB.rowOwn {B mb : Nat} {S : Nat → Prop} {H : Nat → Value} {m : Mc} {R : Rw} {W W' : World} (h : VMB B mb S H m R W) (v' : Value) (L : List Pr) (hg : W.grownBy W' R.ov.ownBlock) (ho : W'.ownsRow B 55 4 v' L.length (prLs L)) (hb : v'.ownBlock = R.ov.ownBlock ∨ ∃ b, v'.ownBlock = some b ∧ W.heap.size ≤ b) :
    Bf mb (mcf H m R) 402 68 W' ∧ VMB B mb (addB S v') H { m with own := L } { R with ov := v' } (W'.setCell ⟨mb, 392, none⟩ v') ∧ FrS S (addB S v') W (W'.setCell ⟨mb, 392, none⟩ v') := by
  have hm := h.bf.grow hg (h.bf.row_ne h.own.1 (by decide))
  have hs : ∀ j, S j → addB S v' j := fun j hj => .inl hj
  have he := upd_tl H m { m with own := L } R { R with ov := v' } 0 v' rfl rfl rfl (by decide) rfl (fun i hi hn => by match i with | 0 => exact absurd rfl hn | 1 => rfl | 2 => rfl | 3 => rfl | 4 => rfl | 5 => rfl | 6 => rfl | 7 => rfl | 8 => rfl | 9 => rfl)
  refine ⟨hm, ⟨.inl h.mS, fun j hj => ?_, (hm.set 392 v').congr he, ?_, ?_, ?_, ?_, ?_, ?_, ?_⟩, (FrS.grown hg h.own.2 hb).set mb 392 v' (.inl (.inl h.mS))⟩
  · have g := (grown_set W' ⟨mb, 392, none⟩ v').size
    rcases hj with q | q
    · exact ⟨(h.rng j q).1, Nat.lt_of_lt_of_le (h.rng j q).2 (Nat.le_trans hg.size g)⟩
    · exact ⟨(ho.lt j q).1, Nat.lt_of_lt_of_le (ho.lt j q).2 g⟩
  · exact OwnS.set ⟨ho, fun g hg => .inr hg⟩ hm (by decide) _ _
  · exact (h.out.grow hg (own_apart h.out.1 h.own.1 (by decide)) hs).set hm (by decide) _ _
  · exact (h.rds.grow hg (own_apart h.rds.1 h.own.1 (by decide)) hs).set hm (by decide) _ _
  · exact (h.puts.grow hg (own_apart h.puts.1 h.own.1 (by decide)) hs).set hm (by decide) _ _
  · exact (h.wrs.grow hg h.apart2 hs).set hm (by decide) _ _
  · exact h.apart
  · show R.wv.ownBlock = none ∨ R.wv.ownBlock ≠ v'.ownBlock
    rcases hb with q | ⟨b, q, q2⟩
    · rw [q]; exact h.apart2
    · right
      intro e
      have := ((h.wrs).1.lt b (e.trans q)).2
      omega
theorem VMB.rowOut {B mb : Nat} {S : Nat → Prop} {H : Nat → Value} {m : Mc} {R : Rw} {W W' : World} (h : VMB B mb S H m R W) (v' : Value) (L : List Vl) (hg : W.grownBy W' R.outv.ownBlock) (ho : W'.ownsRow B 52 3 v' L.length (vlLs L)) (hb : v'.ownBlock = R.outv.ownBlock ∨ ∃ b, v'.ownBlock = some b ∧ W.heap.size ≤ b) :
    Bf mb (mcf H m R) 402 68 W' ∧ VMB B mb (addB S v') H { m with out := L } { R with outv := v' } (W'.setCell ⟨mb, 395, none⟩ v') ∧ FrS S (addB S v') W (W'.setCell ⟨mb, 395, none⟩ v') := by
  have hm := h.bf.grow hg (h.bf.row_ne h.out.1 (by decide))
  have hs : ∀ j, S j → addB S v' j := fun j hj => .inl hj
  have he := upd_tl H m { m with out := L } R { R with outv := v' } 3 v' rfl rfl rfl (by decide) rfl (fun i hi hn => by match i with | 0 => rfl | 1 => rfl | 2 => rfl | 3 => exact absurd rfl hn | 4 => rfl | 5 => rfl | 6 => rfl | 7 => rfl | 8 => rfl | 9 => rfl)
  refine ⟨hm, ⟨.inl h.mS, fun j hj => ?_, (hm.set 395 v').congr he, ?_, ?_, ?_, ?_, ?_, ?_, ?_⟩, (FrS.grown hg h.out.2 hb).set mb 395 v' (.inl (.inl h.mS))⟩
  · have g := (grown_set W' ⟨mb, 395, none⟩ v').size
    rcases hj with q | q
    · exact ⟨(h.rng j q).1, Nat.lt_of_lt_of_le (h.rng j q).2 (Nat.le_trans hg.size g)⟩
    · exact ⟨(ho.lt j q).1, Nat.lt_of_lt_of_le (ho.lt j q).2 g⟩
  · exact (h.own.grow hg (own_apart h.own.1 h.out.1 (by decide)) hs).set hm (by decide) _ _
  · exact OwnS.set ⟨ho, fun g hg => .inr hg⟩ hm (by decide) _ _
  · exact (h.rds.grow hg (own_apart h.rds.1 h.out.1 (by decide)) hs).set hm (by decide) _ _
  · exact (h.puts.grow hg (own_apart h.puts.1 h.out.1 (by decide)) hs).set hm (by decide) _ _
  · exact (h.wrs.grow hg (own_apart h.wrs.1 h.out.1 (by decide)) hs).set hm (by decide) _ _
  · exact h.apart
  · exact h.apart2
theorem VMB.rowRds {B mb : Nat} {S : Nat → Prop} {H : Nat → Value} {m : Mc} {R : Rw} {W W' : World} (h : VMB B mb S H m R W) (v' : Value) (L : List (List UInt8)) (hg : W.grownBy W' R.rv.ownBlock) (ho : W'.ownsRow B 9 1 v' L.length (L.map strV)) (hb : v'.ownBlock = R.rv.ownBlock ∨ ∃ b, v'.ownBlock = some b ∧ W.heap.size ≤ b) :
    Bf mb (mcf H m R) 402 68 W' ∧ VMB B mb (addB S v') H { m with rds := L } { R with rv := v' } (W'.setCell ⟨mb, 396, none⟩ v') ∧ FrS S (addB S v') W (W'.setCell ⟨mb, 396, none⟩ v') := by
  have hm := h.bf.grow hg (h.bf.row_ne h.rds.1 (by decide))
  have hs : ∀ j, S j → addB S v' j := fun j hj => .inl hj
  have he := upd_tl H m { m with rds := L } R { R with rv := v' } 4 v' rfl rfl rfl (by decide) rfl (fun i hi hn => by match i with | 0 => rfl | 1 => rfl | 2 => rfl | 3 => rfl | 4 => exact absurd rfl hn | 5 => rfl | 6 => rfl | 7 => rfl | 8 => rfl | 9 => rfl)
  refine ⟨hm, ⟨.inl h.mS, fun j hj => ?_, (hm.set 396 v').congr he, ?_, ?_, ?_, ?_, ?_, ?_, ?_⟩, (FrS.grown hg h.rds.2 hb).set mb 396 v' (.inl (.inl h.mS))⟩
  · have g := (grown_set W' ⟨mb, 396, none⟩ v').size
    rcases hj with q | q
    · exact ⟨(h.rng j q).1, Nat.lt_of_lt_of_le (h.rng j q).2 (Nat.le_trans hg.size g)⟩
    · exact ⟨(ho.lt j q).1, Nat.lt_of_lt_of_le (ho.lt j q).2 g⟩
  · exact (h.own.grow hg (own_apart h.own.1 h.rds.1 (by decide)) hs).set hm (by decide) _ _
  · exact (h.out.grow hg (own_apart h.out.1 h.rds.1 (by decide)) hs).set hm (by decide) _ _
  · exact OwnS.set ⟨ho, fun g hg => .inr hg⟩ hm (by decide) _ _
  · exact (h.puts.grow hg (apart_symm h.apart) hs).set hm (by decide) _ _
  · exact (h.wrs.grow hg (own_apart h.wrs.1 h.rds.1 (by decide)) hs).set hm (by decide) _ _
  · show v'.ownBlock = none ∨ v'.ownBlock ≠ R.pv.ownBlock
    rcases hb with q | ⟨b, q, q2⟩
    · rw [q]; exact h.apart
    · right
      intro e
      have := ((h.puts).1.lt b (e ▸ q)).2
      omega
  · exact h.apart2
theorem VMB.rowPuts {B mb : Nat} {S : Nat → Prop} {H : Nat → Value} {m : Mc} {R : Rw} {W W' : World} (h : VMB B mb S H m R W) (v' : Value) (L : List (List UInt8)) (hg : W.grownBy W' R.pv.ownBlock) (ho : W'.ownsRow B 9 1 v' L.length (L.map strV)) (hb : v'.ownBlock = R.pv.ownBlock ∨ ∃ b, v'.ownBlock = some b ∧ W.heap.size ≤ b) :
    Bf mb (mcf H m R) 402 68 W' ∧ VMB B mb (addB S v') H { m with puts := L } { R with pv := v' } (W'.setCell ⟨mb, 397, none⟩ v') ∧ FrS S (addB S v') W (W'.setCell ⟨mb, 397, none⟩ v') := by
  have hm := h.bf.grow hg (h.bf.row_ne h.puts.1 (by decide))
  have hs : ∀ j, S j → addB S v' j := fun j hj => .inl hj
  have he := upd_tl H m { m with puts := L } R { R with pv := v' } 5 v' rfl rfl rfl (by decide) rfl (fun i hi hn => by match i with | 0 => rfl | 1 => rfl | 2 => rfl | 3 => rfl | 4 => rfl | 5 => exact absurd rfl hn | 6 => rfl | 7 => rfl | 8 => rfl | 9 => rfl)
  refine ⟨hm, ⟨.inl h.mS, fun j hj => ?_, (hm.set 397 v').congr he, ?_, ?_, ?_, ?_, ?_, ?_, ?_⟩, (FrS.grown hg h.puts.2 hb).set mb 397 v' (.inl (.inl h.mS))⟩
  · have g := (grown_set W' ⟨mb, 397, none⟩ v').size
    rcases hj with q | q
    · exact ⟨(h.rng j q).1, Nat.lt_of_lt_of_le (h.rng j q).2 (Nat.le_trans hg.size g)⟩
    · exact ⟨(ho.lt j q).1, Nat.lt_of_lt_of_le (ho.lt j q).2 g⟩
  · exact (h.own.grow hg (own_apart h.own.1 h.puts.1 (by decide)) hs).set hm (by decide) _ _
  · exact (h.out.grow hg (own_apart h.out.1 h.puts.1 (by decide)) hs).set hm (by decide) _ _
  · exact (h.rds.grow hg h.apart hs).set hm (by decide) _ _
  · exact OwnS.set ⟨ho, fun g hg => .inr hg⟩ hm (by decide) _ _
  · exact (h.wrs.grow hg (own_apart h.wrs.1 h.puts.1 (by decide)) hs).set hm (by decide) _ _
  · show R.rv.ownBlock = none ∨ R.rv.ownBlock ≠ v'.ownBlock
    rcases hb with q | ⟨b, q, q2⟩
    · rw [q]; exact h.apart
    · right
      intro e
      have := ((h.rds).1.lt b (e.trans q)).2
      omega
  · exact h.apart2
theorem VMB.rowWrs {B mb : Nat} {S : Nat → Prop} {H : Nat → Value} {m : Mc} {R : Rw} {W W' : World} (h : VMB B mb S H m R W) (v' : Value) (L : List Pr) (hg : W.grownBy W' R.wv.ownBlock) (ho : W'.ownsRow B 55 4 v' L.length (prLs L)) (hb : v'.ownBlock = R.wv.ownBlock ∨ ∃ b, v'.ownBlock = some b ∧ W.heap.size ≤ b) :
    Bf mb (mcf H m R) 402 68 W' ∧ VMB B mb (addB S v') H { m with wrs := L } { R with wv := v' } (W'.setCell ⟨mb, 398, none⟩ v') ∧ FrS S (addB S v') W (W'.setCell ⟨mb, 398, none⟩ v') := by
  have hm := h.bf.grow hg (h.bf.row_ne h.wrs.1 (by decide))
  have hs : ∀ j, S j → addB S v' j := fun j hj => .inl hj
  have he := upd_tl H m { m with wrs := L } R { R with wv := v' } 6 v' rfl rfl rfl (by decide) rfl (fun i hi hn => by match i with | 0 => rfl | 1 => rfl | 2 => rfl | 3 => rfl | 4 => rfl | 5 => rfl | 6 => exact absurd rfl hn | 7 => rfl | 8 => rfl | 9 => rfl)
  refine ⟨hm, ⟨.inl h.mS, fun j hj => ?_, (hm.set 398 v').congr he, ?_, ?_, ?_, ?_, ?_, ?_, ?_⟩, (FrS.grown hg h.wrs.2 hb).set mb 398 v' (.inl (.inl h.mS))⟩
  · have g := (grown_set W' ⟨mb, 398, none⟩ v').size
    rcases hj with q | q
    · exact ⟨(h.rng j q).1, Nat.lt_of_lt_of_le (h.rng j q).2 (Nat.le_trans hg.size g)⟩
    · exact ⟨(ho.lt j q).1, Nat.lt_of_lt_of_le (ho.lt j q).2 g⟩
  · exact (h.own.grow hg (apart_symm h.apart2) hs).set hm (by decide) _ _
  · exact (h.out.grow hg (own_apart h.out.1 h.wrs.1 (by decide)) hs).set hm (by decide) _ _
  · exact (h.rds.grow hg (own_apart h.rds.1 h.wrs.1 (by decide)) hs).set hm (by decide) _ _
  · exact (h.puts.grow hg (own_apart h.puts.1 h.wrs.1 (by decide)) hs).set hm (by decide) _ _
  · exact OwnS.set ⟨ho, fun g hg => .inr hg⟩ hm (by decide) _ _
  · exact h.apart
  · show v'.ownBlock = none ∨ v'.ownBlock ≠ R.ov.ownBlock
    rcases hb with q | ⟨b, q, q2⟩
    · rw [q]; exact h.apart2
    · right
      intro e
      have := ((h.own).1.lt b (e ▸ q)).2
      omega
end Go.Proofs.YtnglaegofhpleaaGreatDoor
namespace Go.Proofs.YtnglaegofhpleaaGreatDoor
open Go.RowKit

def storedB (v : Vl) : Bool := decide (v.k = 1) || decide (v.k = 2)
def keyP (k : List UInt8) : Pr → Bool := fun p => p.key == k
def setP (L : List Pr) (k : List UInt8) (v : Vl) : List Pr := if L.findIdx (keyP k) < L.length then L.set (L.findIdx (keyP k)) ⟨k, v⟩ else L ++ [⟨k, v⟩]
def storeM (F : Ft) (k v : Vl) (m : Mc) : Mc :=
  if k.k ≠ 2 then endM 2 1009 [] m
  else if keyB k.s = false then endM 2 1004 [] m
  else if F.all = false ∧ F.wr.contains k.s = false then endM 3 0 k.s m
  else { m with puts := withK m.puts k.s, own := setP m.own k.s v }
def emitM (v : Vl) (m : Mc) : Mc :=
  if storedB v = false then endM 2 1009 [] m else if m.out.length = 16 then endM 2 1007 [] m else { m with out := m.out ++ [v] }
def loopM (x : Ins) (m : Mc) : Mc :=
  if (m.slo x.a.toNat).k ≠ 1 ∨ (m.slo x.b.toNat).k ≠ 1 then endM 2 1009 [] m
  else if (m.slo x.a.toNat).n < (m.slo x.b.toNat).n ∧ x.n < (m.slo x.b.toNat).n - (m.slo x.a.toNat).n then endM 2 1005 [] m else m
def putM (F : Ft) (m : Mc) : Mc :=
  if storedB (popV m) = false then endM 2 1009 [] (popM (popM m)) else storeM F (popV (popM m)) (popV m) (popM (popM m))
def isRd (op : Int) : Bool := decide (op = 22) || (decide (op = 23) || decide (op = 24))
def onePr (L : List Pr) (k : List UInt8) : List Pr := if (getP L k).k = 0 then [] else [⟨k, getP L k⟩]
def hidB (own : List Pr) (op : Int) (a : Vl) : Bool := isRd op && (decide (a.k = 2) && decide (own.findIdx (keyP a.s) < own.length))
def opEv (M : List Pr) (F : Ft) (own : List Pr) (op : Int) (l : List Vl) : Rs × List (List UInt8) :=
  if isRd op = true then
    if hidB own op (l.headD v00) = true then evE true [] [] (onePr own (l.headD v00).s) op l
    else evE F.all F.rd F.wr (onePr M (l.headD v00).s) op l
  else evE F.all F.rd F.wr [] op l
def resM (R : Rs) (m : Mc) : Mc := match R with
  | .ok v => pushM m v
  | .ab c => endM 2 c [] m
  | .re k => endM 3 0 k m
def opM (M : List Pr) (F : Ft) (op : Int) (l : List Vl) (m : Mc) : Mc :=
  resM (opEv M F m.own op l).1 (if hidB m.own op (l.headD v00) = true then m else { m with rds := (opEv M F m.own op l).2.foldl withK m.rds })
/-- the n values on top of the stack -/
def topV (m : Mc) (n : Nat) : List Vl := (List.range n).map fun i => m.stk (m.dep - n + i)
def dropM (m : Mc) (n : Nat) : Mc := { m with dep := m.dep - n }
def falM (m : Mc) : Mc := if (popV m).k ≠ 3 then endM 2 1009 [] (popM m) else popM m
/-- an instruction is executed -/
def stepM (M : List Pr) (F : Ft) (x : Ins) (m : Mc) : Mc :=
  if x.op = 1 then pushM m (numV x.n) else if x.op = 2 then pushM m (strVl x.s) else if x.op = 3 then pushM m (m.slo x.a.toNat)
  else if x.op = 4 then { popM m with slo := setV m.slo x.a.toNat (popV m) }
  else if x.op = 5 then opM M F x.a (topV m (arS x.a).toNat) (dropM m (arS x.a).toNat)
  else if x.op = 6 then m else if x.op = 7 then falM m
  else if x.op = 8 then putM F m else if x.op = 9 then storeM F (popV m) v00 (popM m) else if x.op = 10 then emitM (popV m) (popM m)
  else if x.op = 11 then endM 2 x.a [] m else if x.op = 12 then loopM x m else if x.op = 13 then endM 1 0 [] m else if x.op = 14 then tickM m else m
/-- the instruction behind it -/
def nextI (x : Ins) (pc : Int) (m : Mc) : Int := if x.op = 6 ∨ (x.op = 7 ∧ (popV m).k = 3 ∧ (popV m).n = 0) then x.a else pc + 1
/-- what a run counts -/
def cntI (x : Ins) (n : Nat) : Nat := if x.op = 14 then 0 else n + 1
/-- a run: fuel, the place, the count, the places so far; stop: where the run is stopped; the machine at the end and the places -/
def runM (M : List Pr) (F : Ft) (l : List Ins) (stop : List Int → Bool) : Nat → Mc → Int → Nat → List Int → Mc × List Int
  | 0, m, _, _, tr => (m, tr)
  | f + 1, m, pc, n, tr =>
    if m.done = true then (m, tr)
    else if n = 1024 then (endM 2 1008 [] m, tr)
    else if stop tr = true then (m, tr)
    else runM M F l stop f (stepM M F (l.getD pc.toNat ins0) m) (nextI (l.getD pc.toNat ins0) pc m) (cntI (l.getD pc.toNat ins0) n) (tr ++ [pc])
end Go.Proofs.YtnglaegofhpleaaGreatDoor
namespace Go.Proofs.YtnglaegofhpleaaGreatDoor
open Go.RowKit

/-- q may follow p -/
def folB (l : List Ins) (p q : Int) : Prop :=
  (l.getD p.toNat ins0).op ≠ 13 ∧ (l.getD p.toNat ins0).op ≠ 11 ∧ ((l.getD p.toNat ins0).op = 6 → q = (l.getD p.toNat ins0).a) ∧ ((l.getD p.toNat ins0).op = 7 → q = (l.getD p.toNat ins0).a ∨ q = p + 1) ∧ ((l.getD p.toNat ins0).op ≠ 6 → (l.getD p.toNat ins0).op ≠ 7 → q = p + 1)
theorem endM_done (st c : Int) (k : List UInt8) (m : Mc) : (endM st c k m).done = true := by
  unfold endM; by_cases h : st = 1
  · rw [if_pos h]
  · rw [if_neg h]
theorem next_ok {c : Cd} (hv : valC c = 0) {pc : Int} (h1 : 0 ≤ pc ∧ pc < (c.l.length : Int)) (M : List Pr) (F : Ft) (m : Mc) (hd : (stepM M F (c.l.getD pc.toNat ins0) m).done = false) :
    folB c.l pc (nextI (c.l.getD pc.toNat ins0) pc m) ∧ 0 ≤ nextI (c.l.getD pc.toNat ins0) pc m ∧ nextI (c.l.getD pc.toNat ins0) pc m < (c.l.length : Int) := by
  obtain ⟨-, -, -, hj, hl⟩ := step_ok hv (k := pc.toNat) (by omega)
  unfold folB
  generalize c.l.getD pc.toNat ins0 = x at hd hj hl ⊢
  have h13 : x.op ≠ 13 := by
    intro e; unfold stepM at hd; rw [e] at hd; simp [endM_done] at hd
  have h11 : x.op ≠ 11 := by
    intro e; unfold stepM at hd; rw [e] at hd; simp [endM_done] at hd
  unfold nextI
  by_cases h6 : x.op = 6
  · rw [if_pos (Or.inl h6)]
    have := hj (by unfold jmpI; rw [h6]; rfl)
    exact ⟨⟨h13, h11, fun _ => rfl, fun e => absurd (h6.symm.trans e) (by decide), fun e => absurd h6 e⟩, this.1, this.2.1⟩
  · have hlf := hl (by unfold leaI; simp [h6, h11, h13])
    by_cases h7 : x.op = 7 ∧ (popV m).k = 3 ∧ (popV m).n = 0
    · rw [if_pos (Or.inr h7)]
      have := hj (by unfold jmpI; rw [h7.1]; rfl)
      exact ⟨⟨h13, h11, fun _ => rfl, fun e => .inl rfl, fun _ e => absurd h7.1 e⟩, this.1, this.2.1⟩
    · rw [if_neg (by rintro (e | e); exact h6 e; exact h7 e)]
      exact ⟨⟨h13, h11, fun e => absurd e h6, fun _ => .inr rfl, fun _ _ => rfl⟩, by omega, by omega⟩
def limB (a : Int) (tr : List Int) : Bool := decide (a ≤ (tr.length : Int))
end Go.Proofs.YtnglaegofhpleaaGreatDoor
