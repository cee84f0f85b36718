/- What the claim needs of: VmJ, VmL, VmO, VmK, VmN, VmR, VmS, VmT. No conditions. -/
import Derived.Test.YtnglaegofhpleaaGreatDoorZs3
import Derived.Test.YtnglaegofhpleaaGreatDoorRows
import Derived.WalkKit
import Derived.WalkSpells
import Derived.WalkLawsBesides
import Derived.Lib.SlBytesRow
import Derived.Lib.Hide
import Derived.Lib.ParseIntBTie
import Derived.Lib.ItoaLen
import Derived.Shelf.Small.Strs
import Derived.Shelf.Small.Wraps
import Derived.Shelf.Strconv.Itoa0
import Derived.Shelf.Strconv.Itoa1
import Derived.Shelf.LaysM
import Derived.Shelf.Strconv.Itoa2
import Derived.Shelf.Strconv.Itoa3
import Derived.Shelf.Strconv.Itoa4
import Derived.Shelf.Strings.Fields
import Derived.Shelf.Slices.Turned
import Derived.Lib.SmallJoins
import Derived.Lib.AppendIntMem
import Derived.Deep.RegionHeld3
import Derived.Outline
import Derived.Deep.Cut
import Derived.Deep.CutRange
import Derived.Deep.DeepCutAuto
import Derived.Deep.RegionLaw
import Derived.Lib.Builder
import Derived.Lib.AppendStr
import Derived.Lib.UnsafeStr
import Derived.Laws.Externs
import Derived.Laws.AppendOwnNone
import Derived.Deep.DeepAppendWide
import Derived.Laws.RangeAny
import Derived.Lib.IndexLaws
import Derived.Lib.LaidTab
import Derived.Shelf.Spec.SlicesInsert
import Derived.Shelf.Spec.SlicesInsertGrow
import Derived.Shelf.Spec.SearchS
import Derived.Tactics
import Derived.Tactics2
import Derived.Defers
import Derived.Recover
import Derived.Laws.Pointers
import Derived.Deep.AppendLies
import Derived.Laws.CopyOwn
import Derived.Stop.LaidErr
import Derived.LaidMore
import Derived.Deep.Slices
import Derived.OpenShut
import Derived.ProofKit
import Derived.SizedLaws
import Derived.SliceStrings
import Derived.HandedShaped
import Derived.Shelf.Vars
namespace Go.Proofs.YtnglaegofhpleaaGreatDoor
open Go.RowKit

def thenG (op : Int) : Rs → Rs
  | .ok v => gotS op v
  | r => r
/-- an operator with one operand: its result, and the keys read -/
def uneS (al : Bool) (rd : List (List UInt8)) (M : List Pr) (op : Int) (a : Vl) : Rs × List (List UInt8) :=
  if op = 9 ∨ op = 18 ∨ op = 20 ∨ op = 21 then (unS op a, [])
  else if a.k = 2 then (thenG op (fetS al rd M a.s), rdsR (fetS al rd M a.s) a.s) else (.ab 1009, [])
theorem pair_eq {α β : Type} {x y : α} {z t : β} (h : (x, z) = (y, t)) : x = y ∧ z = t := ⟨congrArg Prod.fst h, congrArg Prod.snd h⟩

set_option maxRecDepth 100000 in
set_option maxHeartbeats 32000000 in
theorem unary_any (mb vm om : Nat) (sa ra wa : Option Addr) (sc rc wc : Nat) (M : List Pr) (al : Bool) (rd wr : List (List UInt8)) (op : Int) (a : Vl) (hop : op = 9 ∨ op = 18 ∨ op = 20 ∨ op = 21 ∨ op = 22 ∨ op = 23 ∨ op = 24) (ha1 : -9223372036854775808 ≤ a.n) (ha2 : a.n ≤ 9223372036854775807) (hal : a.s.length ≤ 1000000) (w W0 : World) (hX : Bx mb #[.slice sa M.length sc, .bool al, .slice ra rd.length rc, .slice wa wr.length wc, .map (some vm), .map (some om), .int .i64 0, .int .i64 0, .slice none 0 0, .slice none 0 0, .slice none 0 0, .slice none 0 0, .string ⟨#[]⟩, .int .i64 0] 143 w) (hO : Mp om [] w) (hmb : W0.heap.size ≤ mb) (hW0 : Below W0.heap.size W0 w) (hM : CellsAt W0 (.slice sa M.length sc) M.length (prLs M)) (hR : StrS W0 (.slice ra rd.length rc) rd) (hl1 : M.length ≤ 9000000000000) (hl2 : rd.length ≤ 9000000000000) (hLd : Laid W0) :
    Calls Tryz.prog 137 #[.pointer (some ⟨mb, 0, none⟩), .int .i64 op, .agg (vV a)] w fun e w' => e = endR (uneS al rd M op a).1 ∧ w.grownBy w' (some mb) ∧ ∃ rv, Bx mb #[.slice sa M.length sc, .bool al, .slice ra rd.length rc, .slice wa wr.length wc, .map (some vm), .map (some om), .int .i64 0, .int .i64 0, .slice none 0 0, rv, .slice none 0 0, .slice none 0 0, .string ⟨#[]⟩, .int .i64 0] 143 w' ∧ w'.ownsRow w.heap.size 9 1 rv (uneS al rd M op a).2.length ((uneS al rd M op a).2.map strV) := by
  obtain ⟨ak, an, az⟩ := a
  simp only at ha1 ha2 hal
  simp only [vV]
  obtain ⟨⟨R, ks⟩, hU⟩ : ∃ x, uneS al rd M op ⟨ak, an, az⟩ = x := ⟨_, rfl⟩
  rw [hU]
  simp only
  have hmw := hX.lt
  have hsz := hW0.size
  have HU := Lib.hid hU; have HM := Lib.hid hM; have HRS := Lib.hid hR; have HLD := Lib.hid hLd; clear hU hM hR hLd
  have hal0 := ((Below.refl w.heap.size w).alloc (Nat.le_refl _) (.cells #[.int .i64 ak, .int .i64 an, .string (bs az)] 52)).alloc (by simp) (.cells #[.int .i64 0, .int .i64 0, .string ⟨#[]⟩] 52)
  have hr0 := Bx.new (w.alloc (.cells #[.int .i64 ak, .int .i64 an, .string (bs az)] 52)) #[.int .i64 0, .int .i64 0, .string ⟨#[]⟩] 52
  rw [show (w.alloc (.cells #[.int .i64 ak, .int .i64 an, .string (bs az)] 52)).heap.size = w.heap.size + 1 by simp] at hr0
  have HA := Lib.hid ((Bx.new w #[.int .i64 ak, .int .i64 an, .string (bs az)] 52).alloc (.cells #[.int .i64 0, .int .i64 0, .string ⟨#[]⟩] 52))
  have HG := Lib.hid (grown_below hal0 (some mb)); have HRB := Lib.hid hr0; have HX := Lib.hid (hX.call hal0); have HO := Lib.hid (hO.call hal0); have HW := Lib.hid (btrans hW0 hsz hal0); clear hX hO hW0 hal0 hr0
  go_enter Tryz.func137, Tryz.ntmps137
  go_upto_region 1 with (fail)
  generalize hW : (w.alloc (.cells #[.int .i64 ak, .int .i64 an, .string (bs az)] 52)).alloc (.cells #[.int .i64 0, .int .i64 0, .string ⟨#[]⟩] 52) = v0 at HG HRB HA HX HO HW ⊢
  clear hW
  obtain ⟨a0, a1, a2⟩ := HA.out.c3
  rcases hop with rfl | rfl | rfl | rfl | hop2
  · skip
    by_cases hk : ak = 1
    rotate_left
    · have tk : (ak == 1) = false := by rw [beq_eq_false_iff_ne]; exact hk
      obtain ⟨hRe, rfl⟩ : R = .ab 1009 ∧ ks = [] := pair_eq (HU.out.symm.trans (by unfold uneS unS; rw [if_pos (by decide), if_pos rfl, if_neg hk]))
      have HF := Lib.hid hRe; clear hRe
      clear hk HU
      go_wp2_with fail
      refine (must_no _).mono ?_
      rintro er w9 ⟨rfl, rfl⟩
      go_wp2
      exact ⟨(by first | exact True.intro | rfl), by rw [HF.out] <;> rfl, HG.out, _, HX.out, own_nil _ _ _ _⟩
    have tk : (ak == 1) = true := by rw [hk]; rfl
    obtain ⟨hRe, rfl⟩ : R = exS (negS an) ∧ ks = [] := pair_eq (HU.out.symm.trans (by unfold uneS unS; rw [if_pos (by decide), if_pos rfl, if_pos hk]))
    have HF := Lib.hid hRe; clear hRe
    clear hk HU
    go_wp2_with fail
    refine (must_yes _).mono ?_
    rintro er w1 ⟨rfl, rfl⟩
    obtain ⟨⟨n, e⟩, hx⟩ : ∃ x, negS an = x := ⟨_, rfl⟩
    rw [hx] at HF
    have HXN := Lib.hid hx; clear hx
    go_wp2_with fail
    refine (Neg_any an _ ha1 ha2).mono ?_
    rw [HXN.out]
    rintro er w2 ⟨rfl, rfl⟩
    obtain ⟨R2, hR2⟩ : ∃ R2, exS (n, e) = R2 := ⟨_, rfl⟩
    have HF := Lib.hid (HF.out.trans hR2)
    have HR2 := Lib.hid hR2; clear hR2
    go_wp2_with fail
    refine (exact_any n e _).mono ?_
    rw [HR2.out]
    rintro er w3 ⟨rfl, hb3⟩
    clear a0 a1 a2
    have HG := Lib.hid (HG.out.trans (grown_below hb3 _)); have HA := Lib.hid (HA.out.call hb3); have HRB := Lib.hid (HRB.out.call hb3); have HX := Lib.hid (HX.out.call hb3); have HO := Lib.hid (HO.out.call hb3); have HW := Lib.hid (btrans HW.out HW.out.size hb3); clear hb3
    rcases R2 with v | c | q
    · simp only [endR, vV]
      have r0 : w3.cell? ⟨(w.heap.size + 1), 0, none⟩ = some (.int .i64 0) := HRB.out.cell 0
      have r1 : w3.cell? ⟨(w.heap.size + 1), 1, none⟩ = some (.int .i64 0) := HRB.out.cell 1
      have r2 : w3.cell? ⟨(w.heap.size + 1), 2, none⟩ = some (.string ⟨#[]⟩) := HRB.out.cell 2
      have f0 := HRB.out.free 0
      have f1 := HRB.out.free 1
      have f2 := HRB.out.free 2
      have HK := Lib.hid (HRB.out.sets3 (.int .i64 v.k) (.int .i64 v.n) (.string (bs v.s)))
      have HFIN := Lib.hid (fin_sets3 HG.out HX.out HRB.out (by decide) (by omega) (by omega) (own_nil w3 w.heap.size 9 1) (.int .i64 v.k) (.int .i64 v.n) (.string (bs v.s)))
      go_wp2
      have k0 := HK.out.cell 0
      have k1 := HK.out.cell 1
      have k2 := HK.out.cell 2
      simp only [List.getElem?_toArray, List.getElem?_cons_zero, List.getElem?_cons_succ] at k0 k1 k2
      refine bodyPost_ret (v := .agg #[.int .i64 v.k, .int .i64 v.n, .string (bs v.s)]) (by simp [results, Tryz.results137, go_sem, k0, k1, k2] <;> rfl) rfl ⟨by rw [HF.out] <;> rfl, HFIN.out.1, _, HFIN.out.2.1, HFIN.out.2.2⟩
    · simp only [endR]
      go_wp2
      exact ⟨(by first | exact True.intro | rfl), by rw [HF.out] <;> rfl, HG.out, _, HX.out, own_nil _ _ _ _⟩
    · simp only [endR]
      go_wp2
      exact ⟨(by first | exact True.intro | rfl), by rw [HF.out] <;> rfl, HG.out, _, HX.out, own_nil _ _ _ _⟩
  · skip
    by_cases hk : ak = 3
    rotate_left
    · have tk : (ak == 3) = false := by rw [beq_eq_false_iff_ne]; exact hk
      obtain ⟨hRe, rfl⟩ : R = .ab 1009 ∧ ks = [] := pair_eq (HU.out.symm.trans (by unfold uneS unS; rw [if_pos (by decide), if_neg (by decide), if_pos rfl, if_neg hk]))
      have HF := Lib.hid hRe; clear hRe
      clear hk HU
      go_wp2_with fail
      refine (must_no _).mono ?_
      rintro er w9 ⟨rfl, rfl⟩
      go_wp2
      exact ⟨(by first | exact True.intro | rfl), by rw [HF.out] <;> rfl, HG.out, _, HX.out, own_nil _ _ _ _⟩
    have tk : (ak == 3) = true := by rw [hk]; rfl
    obtain ⟨hRe, rfl⟩ : R = .ok (truV (decide (an = 0))) ∧ ks = [] := pair_eq (HU.out.symm.trans (by unfold uneS unS; rw [if_pos (by decide), if_neg (by decide), if_pos rfl, if_pos hk]))
    have HF := Lib.hid hRe; clear hRe
    clear hk HU
    go_wp2_with fail
    refine (must_yes _).mono ?_
    rintro er w1 ⟨rfl, rfl⟩
    by_cases hy : an = 0
    · have ty : (an == 0) = true := by rw [hy]; rfl
      rw [decide_eq_true hy] at HF
      clear hy
      go_wp2_with fail
      refine (itruth_any true _).mono ?_
      rintro er w3 ⟨rfl, hb3⟩
      clear a0 a1 a2
      have HG := Lib.hid (HG.out.trans (grown_below hb3 _)); have HA := Lib.hid (HA.out.call hb3); have HRB := Lib.hid (HRB.out.call hb3); have HX := Lib.hid (HX.out.call hb3); have HO := Lib.hid (HO.out.call hb3); have HW := Lib.hid (btrans HW.out HW.out.size hb3); clear hb3
      simp only [endR, vV, truV, if_true]
      have r0 : w3.cell? ⟨(w.heap.size + 1), 0, none⟩ = some (.int .i64 0) := HRB.out.cell 0
      have r1 : w3.cell? ⟨(w.heap.size + 1), 1, none⟩ = some (.int .i64 0) := HRB.out.cell 1
      have r2 : w3.cell? ⟨(w.heap.size + 1), 2, none⟩ = some (.string ⟨#[]⟩) := HRB.out.cell 2
      have f0 := HRB.out.free 0
      have f1 := HRB.out.free 1
      have f2 := HRB.out.free 2
      have HK := Lib.hid (HRB.out.sets3 (.int .i64 3) (.int .i64 1) (.string (bs [])))
      have HFIN := Lib.hid (fin_sets3 HG.out HX.out HRB.out (by decide) (by omega) (by omega) (own_nil w3 w.heap.size 9 1) (.int .i64 3) (.int .i64 1) (.string (bs [])))
      go_wp2
      have k0 := HK.out.cell 0
      have k1 := HK.out.cell 1
      have k2 := HK.out.cell 2
      simp only [List.getElem?_toArray, List.getElem?_cons_zero, List.getElem?_cons_succ] at k0 k1 k2
      refine bodyPost_ret (v := .agg #[.int .i64 3, .int .i64 1, .string (bs [])]) (by simp [results, Tryz.results137, go_sem, k0, k1, k2] <;> rfl) rfl ⟨by rw [HF.out] <;> rfl, HFIN.out.1, _, HFIN.out.2.1, HFIN.out.2.2⟩
    · have ty : (an == 0) = false := by rw [beq_eq_false_iff_ne]; exact hy
      rw [decide_eq_false hy] at HF
      clear hy
      go_wp2_with fail
      refine (itruth_any false _).mono ?_
      rintro er w3 ⟨rfl, hb3⟩
      clear a0 a1 a2
      have HG := Lib.hid (HG.out.trans (grown_below hb3 _)); have HA := Lib.hid (HA.out.call hb3); have HRB := Lib.hid (HRB.out.call hb3); have HX := Lib.hid (HX.out.call hb3); have HO := Lib.hid (HO.out.call hb3); have HW := Lib.hid (btrans HW.out HW.out.size hb3); clear hb3
      simp only [endR, vV, truV, Bool.false_eq_true, if_false]
      have r0 : w3.cell? ⟨(w.heap.size + 1), 0, none⟩ = some (.int .i64 0) := HRB.out.cell 0
      have r1 : w3.cell? ⟨(w.heap.size + 1), 1, none⟩ = some (.int .i64 0) := HRB.out.cell 1
      have r2 : w3.cell? ⟨(w.heap.size + 1), 2, none⟩ = some (.string ⟨#[]⟩) := HRB.out.cell 2
      have f0 := HRB.out.free 0
      have f1 := HRB.out.free 1
      have f2 := HRB.out.free 2
      have HK := Lib.hid (HRB.out.sets3 (.int .i64 3) (.int .i64 0) (.string (bs [])))
      have HFIN := Lib.hid (fin_sets3 HG.out HX.out HRB.out (by decide) (by omega) (by omega) (own_nil w3 w.heap.size 9 1) (.int .i64 3) (.int .i64 0) (.string (bs [])))
      go_wp2
      have k0 := HK.out.cell 0
      have k1 := HK.out.cell 1
      have k2 := HK.out.cell 2
      simp only [List.getElem?_toArray, List.getElem?_cons_zero, List.getElem?_cons_succ] at k0 k1 k2
      refine bodyPost_ret (v := .agg #[.int .i64 3, .int .i64 0, .string (bs [])]) (by simp [results, Tryz.results137, go_sem, k0, k1, k2] <;> rfl) rfl ⟨by rw [HF.out] <;> rfl, HFIN.out.1, _, HFIN.out.2.1, HFIN.out.2.2⟩
  · skip
    by_cases hk : ak = 1
    rotate_left
    · have tk : (ak == 1) = false := by rw [beq_eq_false_iff_ne]; exact hk
      obtain ⟨hRe, rfl⟩ : R = .ab 1009 ∧ ks = [] := pair_eq (HU.out.symm.trans (by unfold uneS unS; rw [if_pos (by decide), if_neg (by decide), if_neg (by decide), if_pos rfl, if_neg hk]))
      have HF := Lib.hid hRe; clear hRe
      clear hk HU
      go_wp2_with fail
      refine (must_no _).mono ?_
      rintro er w9 ⟨rfl, rfl⟩
      go_wp2
      exact ⟨(by first | exact True.intro | rfl), by rw [HF.out] <;> rfl, HG.out, _, HX.out, own_nil _ _ _ _⟩
    have tk : (ak == 1) = true := by rw [hk]; rfl
    obtain ⟨hRe, rfl⟩ : R = txS (Lib.itoa an) ∧ ks = [] := pair_eq (HU.out.symm.trans (by unfold uneS unS; rw [if_pos (by decide), if_neg (by decide), if_neg (by decide), if_pos rfl, if_pos hk]))
    have HF := Lib.hid hRe; clear hRe
    clear hk HU
    go_wp2_with fail
    refine (must_yes _).mono ?_
    rintro er w1 ⟨rfl, rfl⟩
    have hil : (Lib.itoa an).length ≤ 1000 := by have := Lib.itoa_length_le an (by omega) (by omega); omega
    obtain ⟨I, hI⟩ : ∃ I, Lib.itoa an = I := ⟨_, rfl⟩
    rw [hI] at hil
    rw [hI] at HF
    have HI := Lib.hid hI; clear hI
    go_wp2_with fail
    refine (Format_any an _ ha1 ha2 (HLD.out.below HW.out)).mono ?_
    rw [HI.out]
    rintro er w2 ⟨rfl, hb2⟩
    clear a0 a1 a2
    have HG := Lib.hid (HG.out.trans (grown_below hb2 _)); have HA := Lib.hid (HA.out.call hb2); have HRB := Lib.hid (HRB.out.call hb2); have HX := Lib.hid (HX.out.call hb2); have HO := Lib.hid (HO.out.call hb2); have HW := Lib.hid (btrans HW.out HW.out.size hb2); clear hb2
    obtain ⟨a0, a1, a2⟩ := HA.out.c3
    obtain ⟨R2, hR2⟩ : ∃ R2, txS I = R2 := ⟨_, rfl⟩
    have HF := Lib.hid (HF.out.trans hR2)
    have HR2 := Lib.hid hR2; clear hR2
    go_wp2_with fail
    refine (itext_any I (by omega) _).mono ?_
    rw [HR2.out]
    rintro er w3 ⟨rfl, hb3⟩
    clear a0 a1 a2
    have HG := Lib.hid (HG.out.trans (grown_below hb3 _)); have HA := Lib.hid (HA.out.call hb3); have HRB := Lib.hid (HRB.out.call hb3); have HX := Lib.hid (HX.out.call hb3); have HO := Lib.hid (HO.out.call hb3); have HW := Lib.hid (btrans HW.out HW.out.size hb3); clear hb3
    rcases R2 with v | c | q
    · simp only [endR, vV]
      have r0 : w3.cell? ⟨(w.heap.size + 1), 0, none⟩ = some (.int .i64 0) := HRB.out.cell 0
      have r1 : w3.cell? ⟨(w.heap.size + 1), 1, none⟩ = some (.int .i64 0) := HRB.out.cell 1
      have r2 : w3.cell? ⟨(w.heap.size + 1), 2, none⟩ = some (.string ⟨#[]⟩) := HRB.out.cell 2
      have f0 := HRB.out.free 0
      have f1 := HRB.out.free 1
      have f2 := HRB.out.free 2
      have HK := Lib.hid (HRB.out.sets3 (.int .i64 v.k) (.int .i64 v.n) (.string (bs v.s)))
      have HFIN := Lib.hid (fin_sets3 HG.out HX.out HRB.out (by decide) (by omega) (by omega) (own_nil w3 w.heap.size 9 1) (.int .i64 v.k) (.int .i64 v.n) (.string (bs v.s)))
      go_wp2
      have k0 := HK.out.cell 0
      have k1 := HK.out.cell 1
      have k2 := HK.out.cell 2
      simp only [List.getElem?_toArray, List.getElem?_cons_zero, List.getElem?_cons_succ] at k0 k1 k2
      refine bodyPost_ret (v := .agg #[.int .i64 v.k, .int .i64 v.n, .string (bs v.s)]) (by simp [results, Tryz.results137, go_sem, k0, k1, k2] <;> rfl) rfl ⟨by rw [HF.out] <;> rfl, HFIN.out.1, _, HFIN.out.2.1, HFIN.out.2.2⟩
    · simp only [endR]
      go_wp2
      exact ⟨(by first | exact True.intro | rfl), by rw [HF.out] <;> rfl, HG.out, _, HX.out, own_nil _ _ _ _⟩
    · simp only [endR]
      go_wp2
      exact ⟨(by first | exact True.intro | rfl), by rw [HF.out] <;> rfl, HG.out, _, HX.out, own_nil _ _ _ _⟩
  · skip
    by_cases hk : ak = 2
    rotate_left
    · have tk : (ak == 2) = false := by rw [beq_eq_false_iff_ne]; exact hk
      obtain ⟨hRe, rfl⟩ : R = .ab 1009 ∧ ks = [] := pair_eq (HU.out.symm.trans (by unfold uneS unS; rw [if_pos (by decide), if_neg (by decide), if_neg (by decide), if_neg (by decide), if_neg hk]))
      have HF := Lib.hid hRe; clear hRe
      clear hk HU
      go_wp2_with fail
      refine (must_no _).mono ?_
      rintro er w9 ⟨rfl, rfl⟩
      go_wp2
      exact ⟨(by first | exact True.intro | rfl), by rw [HF.out] <;> rfl, HG.out, _, HX.out, own_nil _ _ _ _⟩
    have tk : (ak == 2) = true := by rw [hk]; rfl
    obtain ⟨hRe, rfl⟩ : R = .ok (numV (az.length : Int)) ∧ ks = [] := pair_eq (HU.out.symm.trans (by unfold uneS unS; rw [if_pos (by decide), if_neg (by decide), if_neg (by decide), if_neg (by decide), if_pos hk]))
    have HF := Lib.hid hRe; clear hRe
    clear hk HU
    go_wp2_with fail
    refine (must_yes _).mono ?_
    rintro er w1 ⟨rfl, rfl⟩
    have hwl : IntKind.i64.wrap (az.length : Int) = (az.length : Int) := by rw [IntKind.wrap_i64]; omega
    go_wp2_with fail
    refine (integer_any (az.length : Int) _).mono ?_
    rintro er w2 ⟨rfl, hb2⟩
    clear a0 a1 a2
    have HG := Lib.hid (HG.out.trans (grown_below hb2 _)); have HA := Lib.hid (HA.out.call hb2); have HRB := Lib.hid (HRB.out.call hb2); have HX := Lib.hid (HX.out.call hb2); have HO := Lib.hid (HO.out.call hb2); have HW := Lib.hid (btrans HW.out HW.out.size hb2); clear hb2
    simp only [endR, vV, numV]
    have r0 : w2.cell? ⟨(w.heap.size + 1), 0, none⟩ = some (.int .i64 0) := HRB.out.cell 0
    have r1 : w2.cell? ⟨(w.heap.size + 1), 1, none⟩ = some (.int .i64 0) := HRB.out.cell 1
    have r2 : w2.cell? ⟨(w.heap.size + 1), 2, none⟩ = some (.string ⟨#[]⟩) := HRB.out.cell 2
    have f0 := HRB.out.free 0
    have f1 := HRB.out.free 1
    have f2 := HRB.out.free 2
    have HK := Lib.hid (HRB.out.sets3 (.int .i64 1) (.int .i64 (az.length : Int)) (.string (bs [])))
    have HFIN := Lib.hid (fin_sets3 HG.out HX.out HRB.out (by decide) (by omega) (by omega) (own_nil w2 w.heap.size 9 1) (.int .i64 1) (.int .i64 (az.length : Int)) (.string (bs [])))
    go_wp2
    have k0 := HK.out.cell 0
    have k1 := HK.out.cell 1
    have k2 := HK.out.cell 2
    simp only [List.getElem?_toArray, List.getElem?_cons_zero, List.getElem?_cons_succ] at k0 k1 k2
    refine bodyPost_ret (v := .agg #[.int .i64 1, .int .i64 (az.length : Int), .string (bs [])]) (by simp [results, Tryz.results137, go_sem, k0, k1, k2] <;> rfl) rfl ⟨by rw [HF.out] <;> rfl, HFIN.out.1, _, HFIN.out.2.1, HFIN.out.2.2⟩
  · have n9 : (op == 9) = false := by rw [beq_eq_false_iff_ne]; omega
    have n18 : (op == 18) = false := by rw [beq_eq_false_iff_ne]; omega
    have n20 : (op == 20) = false := by rw [beq_eq_false_iff_ne]; omega
    have n21 : (op == 21) = false := by rw [beq_eq_false_iff_ne]; omega
    by_cases hk : ak = 2
    rotate_left
    · have tk : (ak == 2) = false := by rw [beq_eq_false_iff_ne]; exact hk
      obtain ⟨hRe, rfl⟩ : R = .ab 1009 ∧ ks = [] := pair_eq (HU.out.symm.trans (by unfold uneS; rw [if_neg (by omega), if_neg hk]))
      have HF := Lib.hid hRe; clear hRe
      clear hk HU
      go_wp2_with fail
      refine (must_no _).mono ?_
      rintro er w9 ⟨rfl, rfl⟩
      go_wp2
      exact ⟨(by first | exact True.intro | rfl), by rw [HF.out] <;> rfl, HG.out, _, HX.out, own_nil _ _ _ _⟩
    have tk : (ak == 2) = true := by rw [hk]; rfl
    obtain ⟨F, hF⟩ : ∃ F, fetS al rd M az = F := ⟨_, rfl⟩
    obtain ⟨hRe, rfl⟩ : R = thenG op F ∧ ks = rdsR F az := pair_eq (HU.out.symm.trans (by unfold uneS; rw [if_neg (by omega), if_pos hk]; simp only [hF]))
    have HF := Lib.hid hRe; clear hRe
    have HFE := Lib.hid hF
    clear hk HU hF
    go_wp2_with fail
    refine (must_yes _).mono ?_
    rintro er w1 ⟨rfl, rfl⟩
    go_wp2_with fail
    refine (fetch_any mb vm om sa ra wa sc rc wc M al rd wr az (by omega) _ W0 HX.out HO.out hmb HW.out HM.out HRS.out hl1 hl2).mono ?_
    rw [HFE.out]
    rintro er w2 ⟨rfl, hg2, rv, hx2, ho2⟩
    clear a0 a1 a2
    have hgw := HG.out.size
    have HA := Lib.hid (HA.out.kept hg2 (by simp; omega)); have HRB := Lib.hid (HRB.out.kept hg2 (by simp; omega)); have HG := Lib.hid (HG.out.trans hg2); have HX := Lib.hid hx2; have HOW := Lib.hid (own_mono ho2 hgw); clear hg2 hx2 ho2 HO
    rcases F with v | c | q <;> simp only [thenG] at HF
    rotate_left
    · simp only [endR]
      go_wp2
      exact ⟨(by first | exact True.intro | rfl), by rw [HF.out] <;> rfl, HG.out, _, HX.out, HOW.out⟩
    · simp only [endR]
      go_wp2
      exact ⟨(by first | exact True.intro | rfl), by rw [HF.out] <;> rfl, HG.out, _, HX.out, HOW.out⟩
    simp only [endR, vV]
    have hb3 := (Below.refl w2.heap.size w2).alloc (Nat.le_refl _) (.cells #[.int .i64 v.k, .int .i64 v.n, .string (bs v.s)] 52)
    have HVB := Lib.hid (Bx.new w2 #[.int .i64 v.k, .int .i64 v.n, .string (bs v.s)] 52)
    have HG := Lib.hid (HG.out.trans (grown_below hb3 _)); have HRB := Lib.hid (HRB.out.call hb3); have HX := Lib.hid (HX.out.call hb3); have HOW := Lib.hid (own_below HOW.out hb3); clear hb3 HA
    go_upto_region 16 with (fail)
    generalize hW : w2.alloc (.cells #[.int .i64 v.k, .int .i64 v.n, .string (bs v.s)] 52) = v2 at HVB HG HRB HX HOW ⊢
    clear hW
    obtain ⟨x0, x1, x2⟩ := HVB.out.c3
    rcases hop2 with rfl | rfl | rfl
    · skip
      by_cases h0 : v.k = 0
      · have t0 : (v.k == 0) = true := by rw [h0]; rfl
        rw [show gotS 22 v = .ok (numV 0) from by unfold gotS; rw [if_neg (by decide), if_pos h0]; rfl] at HF
        clear h0
        go_wp2_with fail
        refine (integer_any 0 _).mono ?_
        rintro er w3 ⟨rfl, hb3⟩
        clear x0 x1 x2
        have HG := Lib.hid (HG.out.trans (grown_below hb3 _)); have HRB := Lib.hid (HRB.out.call hb3); have HX := Lib.hid (HX.out.call hb3); have HOW := Lib.hid (own_below HOW.out hb3); clear hb3
        simp only [endR, vV, numV]
        have r0 : w3.cell? ⟨(w.heap.size + 1), 0, none⟩ = some (.int .i64 0) := HRB.out.cell 0
        have r1 : w3.cell? ⟨(w.heap.size + 1), 1, none⟩ = some (.int .i64 0) := HRB.out.cell 1
        have r2 : w3.cell? ⟨(w.heap.size + 1), 2, none⟩ = some (.string ⟨#[]⟩) := HRB.out.cell 2
        have f0 := HRB.out.free 0
        have f1 := HRB.out.free 1
        have f2 := HRB.out.free 2
        have HK := Lib.hid (HRB.out.sets3 (.int .i64 1) (.int .i64 0) (.string (bs [])))
        have HFIN := Lib.hid (fin_sets3 HG.out HX.out HRB.out (by decide) (by omega) (by omega) (HOW.out) (.int .i64 1) (.int .i64 0) (.string (bs [])))
        go_wp2
        have k0 := HK.out.cell 0
        have k1 := HK.out.cell 1
        have k2 := HK.out.cell 2
        simp only [List.getElem?_toArray, List.getElem?_cons_zero, List.getElem?_cons_succ] at k0 k1 k2
        refine bodyPost_ret (v := .agg #[.int .i64 1, .int .i64 0, .string (bs [])]) (by simp [results, Tryz.results137, go_sem, k0, k1, k2] <;> rfl) rfl ⟨by rw [HF.out] <;> rfl, HFIN.out.1, _, HFIN.out.2.1, HFIN.out.2.2⟩
      have t0 : (v.k == 0) = false := by rw [beq_eq_false_iff_ne]; exact h0
      by_cases hkk : v.k = 1
      · have tk2 : (v.k != 1) = false := by rw [hkk]; rfl
        rw [show gotS 22 v = .ok v from by unfold gotS; rw [if_neg (by decide), if_neg h0]; exact if_pos hkk] at HF
        clear h0 hkk
        have r0 : v2.cell? ⟨(w.heap.size + 1), 0, none⟩ = some (.int .i64 0) := HRB.out.cell 0
        have r1 : v2.cell? ⟨(w.heap.size + 1), 1, none⟩ = some (.int .i64 0) := HRB.out.cell 1
        have r2 : v2.cell? ⟨(w.heap.size + 1), 2, none⟩ = some (.string ⟨#[]⟩) := HRB.out.cell 2
        have f0 := HRB.out.free 0
        have f1 := HRB.out.free 1
        have f2 := HRB.out.free 2
        have HK := Lib.hid (HRB.out.sets3 (.int .i64 v.k) (.int .i64 v.n) (.string (bs v.s)))
        have HFIN := Lib.hid (fin_sets3 HG.out HX.out HRB.out (by decide) (by omega) (by omega) (HOW.out) (.int .i64 v.k) (.int .i64 v.n) (.string (bs v.s)))
        go_wp2
        have k0 := HK.out.cell 0
        have k1 := HK.out.cell 1
        have k2 := HK.out.cell 2
        simp only [List.getElem?_toArray, List.getElem?_cons_zero, List.getElem?_cons_succ] at k0 k1 k2
        refine bodyPost_ret (v := .agg #[.int .i64 v.k, .int .i64 v.n, .string (bs v.s)]) (by simp [results, Tryz.results137, go_sem, k0, k1, k2] <;> rfl) rfl ⟨by rw [HF.out] <;> rfl, HFIN.out.1, _, HFIN.out.2.1, HFIN.out.2.2⟩
      have tk2 : (v.k != 1) = true := by rw [bne_iff_ne]; exact hkk
      rw [show gotS 22 v = .ab 1003 from by unfold gotS; rw [if_neg (by decide), if_neg h0]; exact if_neg hkk] at HF
      clear h0 hkk
      go_wp2_with fail
      refine (iabort_any 1003 _).mono ?_
      rintro er w3 ⟨rfl, rfl⟩
      go_wp2
      exact ⟨(by first | exact True.intro | rfl), by rw [HF.out] <;> rfl, HG.out, _, HX.out, HOW.out⟩
    · skip
      by_cases h0 : v.k = 0
      · have t0 : (v.k == 0) = true := by rw [h0]; rfl
        rw [show gotS 23 v = .ok (strVl []) from by unfold gotS; rw [if_neg (by decide), if_pos h0]; rfl] at HF
        clear h0
        go_wp2_with fail
        refine (itext_any [] (by simp) _).mono ?_
        rw [show txS [] = .ok (strVl []) from rfl]
        rintro er w3 ⟨rfl, hb3⟩
        clear x0 x1 x2
        have HG := Lib.hid (HG.out.trans (grown_below hb3 _)); have HRB := Lib.hid (HRB.out.call hb3); have HX := Lib.hid (HX.out.call hb3); have HOW := Lib.hid (own_below HOW.out hb3); clear hb3
        simp only [endR, vV, strVl]
        have r0 : w3.cell? ⟨(w.heap.size + 1), 0, none⟩ = some (.int .i64 0) := HRB.out.cell 0
        have r1 : w3.cell? ⟨(w.heap.size + 1), 1, none⟩ = some (.int .i64 0) := HRB.out.cell 1
        have r2 : w3.cell? ⟨(w.heap.size + 1), 2, none⟩ = some (.string ⟨#[]⟩) := HRB.out.cell 2
        have f0 := HRB.out.free 0
        have f1 := HRB.out.free 1
        have f2 := HRB.out.free 2
        have HK := Lib.hid (HRB.out.sets3 (.int .i64 2) (.int .i64 0) (.string (bs [])))
        have HFIN := Lib.hid (fin_sets3 HG.out HX.out HRB.out (by decide) (by omega) (by omega) (HOW.out) (.int .i64 2) (.int .i64 0) (.string (bs [])))
        go_wp2
        have k0 := HK.out.cell 0
        have k1 := HK.out.cell 1
        have k2 := HK.out.cell 2
        simp only [List.getElem?_toArray, List.getElem?_cons_zero, List.getElem?_cons_succ] at k0 k1 k2
        refine bodyPost_ret (v := .agg #[.int .i64 2, .int .i64 0, .string (bs [])]) (by simp [results, Tryz.results137, go_sem, k0, k1, k2] <;> rfl) rfl ⟨by rw [HF.out] <;> rfl, HFIN.out.1, _, HFIN.out.2.1, HFIN.out.2.2⟩
      have t0 : (v.k == 0) = false := by rw [beq_eq_false_iff_ne]; exact h0
      by_cases hkk : v.k = 2
      · have tk2 : (v.k != 2) = false := by rw [hkk]; rfl
        rw [show gotS 23 v = .ok v from by unfold gotS; rw [if_neg (by decide), if_neg h0]; exact if_pos hkk] at HF
        clear h0 hkk
        have r0 : v2.cell? ⟨(w.heap.size + 1), 0, none⟩ = some (.int .i64 0) := HRB.out.cell 0
        have r1 : v2.cell? ⟨(w.heap.size + 1), 1, none⟩ = some (.int .i64 0) := HRB.out.cell 1
        have r2 : v2.cell? ⟨(w.heap.size + 1), 2, none⟩ = some (.string ⟨#[]⟩) := HRB.out.cell 2
        have f0 := HRB.out.free 0
        have f1 := HRB.out.free 1
        have f2 := HRB.out.free 2
        have HK := Lib.hid (HRB.out.sets3 (.int .i64 v.k) (.int .i64 v.n) (.string (bs v.s)))
        have HFIN := Lib.hid (fin_sets3 HG.out HX.out HRB.out (by decide) (by omega) (by omega) (HOW.out) (.int .i64 v.k) (.int .i64 v.n) (.string (bs v.s)))
        go_wp2
        have k0 := HK.out.cell 0
        have k1 := HK.out.cell 1
        have k2 := HK.out.cell 2
        simp only [List.getElem?_toArray, List.getElem?_cons_zero, List.getElem?_cons_succ] at k0 k1 k2
        refine bodyPost_ret (v := .agg #[.int .i64 v.k, .int .i64 v.n, .string (bs v.s)]) (by simp [results, Tryz.results137, go_sem, k0, k1, k2] <;> rfl) rfl ⟨by rw [HF.out] <;> rfl, HFIN.out.1, _, HFIN.out.2.1, HFIN.out.2.2⟩
      have tk2 : (v.k != 2) = true := by rw [bne_iff_ne]; exact hkk
      rw [show gotS 23 v = .ab 1003 from by unfold gotS; rw [if_neg (by decide), if_neg h0]; exact if_neg hkk] at HF
      clear h0 hkk
      go_wp2_with fail
      refine (iabort_any 1003 _).mono ?_
      rintro er w3 ⟨rfl, rfl⟩
      go_wp2
      exact ⟨(by first | exact True.intro | rfl), by rw [HF.out] <;> rfl, HG.out, _, HX.out, HOW.out⟩
    · skip
      by_cases hy : v.k = 0
      · have ty : (v.k != 0) = false := by rw [hy]; rfl
        rw [show gotS 24 v = .ok (truV false) from by unfold gotS; rw [if_pos rfl, decide_eq_false (fun h => h hy)]] at HF
        clear hy
        go_wp2_with fail
        refine (itruth_any false _).mono ?_
        rintro er w3 ⟨rfl, hb3⟩
        clear x0 x1 x2
        have HG := Lib.hid (HG.out.trans (grown_below hb3 _)); have HRB := Lib.hid (HRB.out.call hb3); have HX := Lib.hid (HX.out.call hb3); have HOW := Lib.hid (own_below HOW.out hb3); clear hb3
        simp only [endR, vV, truV, Bool.false_eq_true, if_false]
        have r0 : w3.cell? ⟨(w.heap.size + 1), 0, none⟩ = some (.int .i64 0) := HRB.out.cell 0
        have r1 : w3.cell? ⟨(w.heap.size + 1), 1, none⟩ = some (.int .i64 0) := HRB.out.cell 1
        have r2 : w3.cell? ⟨(w.heap.size + 1), 2, none⟩ = some (.string ⟨#[]⟩) := HRB.out.cell 2
        have f0 := HRB.out.free 0
        have f1 := HRB.out.free 1
        have f2 := HRB.out.free 2
        have HK := Lib.hid (HRB.out.sets3 (.int .i64 3) (.int .i64 0) (.string (bs [])))
        have HFIN := Lib.hid (fin_sets3 HG.out HX.out HRB.out (by decide) (by omega) (by omega) (HOW.out) (.int .i64 3) (.int .i64 0) (.string (bs [])))
        go_wp2
        have k0 := HK.out.cell 0
        have k1 := HK.out.cell 1
        have k2 := HK.out.cell 2
        simp only [List.getElem?_toArray, List.getElem?_cons_zero, List.getElem?_cons_succ] at k0 k1 k2
        refine bodyPost_ret (v := .agg #[.int .i64 3, .int .i64 0, .string (bs [])]) (by simp [results, Tryz.results137, go_sem, k0, k1, k2] <;> rfl) rfl ⟨by rw [HF.out] <;> rfl, HFIN.out.1, _, HFIN.out.2.1, HFIN.out.2.2⟩
      · have ty : (v.k != 0) = true := by rw [bne_iff_ne]; exact hy
        rw [show gotS 24 v = .ok (truV true) from by unfold gotS; rw [if_pos rfl, decide_eq_true hy]] at HF
        clear hy
        go_wp2_with fail
        refine (itruth_any true _).mono ?_
        rintro er w3 ⟨rfl, hb3⟩
        clear x0 x1 x2
        have HG := Lib.hid (HG.out.trans (grown_below hb3 _)); have HRB := Lib.hid (HRB.out.call hb3); have HX := Lib.hid (HX.out.call hb3); have HOW := Lib.hid (own_below HOW.out hb3); clear hb3
        simp only [endR, vV, truV, if_true]
        have r0 : w3.cell? ⟨(w.heap.size + 1), 0, none⟩ = some (.int .i64 0) := HRB.out.cell 0
        have r1 : w3.cell? ⟨(w.heap.size + 1), 1, none⟩ = some (.int .i64 0) := HRB.out.cell 1
        have r2 : w3.cell? ⟨(w.heap.size + 1), 2, none⟩ = some (.string ⟨#[]⟩) := HRB.out.cell 2
        have f0 := HRB.out.free 0
        have f1 := HRB.out.free 1
        have f2 := HRB.out.free 2
        have HK := Lib.hid (HRB.out.sets3 (.int .i64 3) (.int .i64 1) (.string (bs [])))
        have HFIN := Lib.hid (fin_sets3 HG.out HX.out HRB.out (by decide) (by omega) (by omega) (HOW.out) (.int .i64 3) (.int .i64 1) (.string (bs [])))
        go_wp2
        have k0 := HK.out.cell 0
        have k1 := HK.out.cell 1
        have k2 := HK.out.cell 2
        simp only [List.getElem?_toArray, List.getElem?_cons_zero, List.getElem?_cons_succ] at k0 k1 k2
        refine bodyPost_ret (v := .agg #[.int .i64 3, .int .i64 1, .string (bs [])]) (by simp [results, Tryz.results137, go_sem, k0, k1, k2] <;> rfl) rfl ⟨by rw [HF.out] <;> rfl, HFIN.out.1, _, HFIN.out.2.1, HFIN.out.2.2⟩
end Go.Proofs.YtnglaegofhpleaaGreatDoor
namespace Go.Proofs.YtnglaegofhpleaaGreatDoor
open Go.RowKit

theorem run_assert (u : TypeId) (v : Value) (w : World) : (Instr.typeAssert (.iface 145 v) u 145 true).run Tryz.prog w = .ok (.tuple #[v, .bool true]) w := by
  simp [Instr.typeAssert, run_underlying Tryz.underlying145]
set_option maxRecDepth 100000 in
set_option maxHeartbeats 4000000 in
theorem catch_idle (p q : Nat) (w : World) :
    CallsD Tryz.prog 134 #[.pointer (some ⟨p, 0, none⟩), .pointer (some ⟨q, 0, none⟩)] .returning w fun e u' w' => e = .returned (.tuple #[]) ∧ u' = .returning ∧ w' = w := by
  refine callsD_of_wpS Tryz.func134 rfl fun c₀ cs hu => ?_
  apply wpS_seq
  apply wpS_region
  simp [wpOpsS, go_sem, recoverD, hu, Tryz.ntmps134, Exit.thenS]
  have hT : ∀ x : Value, #[Value.pointer (some ⟨p, 0, none⟩), Value.pointer (some ⟨q, 0, none⟩)] ++ (Array.replicate 10 undef).setIfInBounds 3 x = #[Value.pointer (some ⟨p, 0, none⟩), Value.pointer (some ⟨q, 0, none⟩), undef, undef, undef, x, undef, undef, undef, undef, undef, undef] := fun _ => rfl
  rw [hT]
  refine wpS_of_wp ?_
  go_wp2
  cases c₀
  simp_all [bodyPostS, results, Tryz.results134]
end Go.Proofs.YtnglaegofhpleaaGreatDoor
namespace Go.Proofs.YtnglaegofhpleaaGreatDoor
open Go.RowKit

theorem own_kept {B n k : Nat} {e : TypeId} {v : Value} {xs : List Value} {w w' : World} (h : w.ownsRow B e k v n xs) (hk : ∀ g, B ≤ g → g < w.heap.size → w'.heap[g]? = w.heap[g]?) : w'.ownsRow B e k v n xs := by
  refine ⟨h.1, ?_⟩
  rcases h.2 with hn | ⟨g, cap, cur, rfl, hb, hgg, rest⟩
  · exact .inl hn
  · exact .inr ⟨g, cap, cur, rfl, hb, (hk g hb (lt_heap hgg)).trans hgg, rest⟩
/-- all blocks of the older world stand, but two -/
structure K2 (a b : Nat) (w w' : World) : Prop where
  os : w'.os = w.os
  tape : w'.tape = w.tape
  output : w'.output = w.output
  size : w.heap.size ≤ w'.heap.size
  block : ∀ k, k < w.heap.size → k ≠ a → k ≠ b → w'.heap[k]? = w.heap[k]?
theorem K2.of_grown {a b : Nat} {w w' : World} (h : w.grownBy w' (some a)) : K2 a b w w' := ⟨h.os, h.tape, h.output, h.size, fun k hk h1 _ => h.block k hk (fun e => h1 (by cases e; rfl))⟩
theorem K2.of_below {a b : Nat} {w w' : World} (h : Below w.heap.size w w') : K2 a b w w' := ⟨h.os, h.tape, h.output, h.size, fun k hk _ _ => h.block k hk⟩
theorem K2.below {a b B : Nat} {w w' : World} (h : K2 a b w w') (hB : B ≤ w.heap.size) (ha : B ≤ a) (hb : B ≤ b) : Below B w w' := ⟨h.os, h.tape, h.output, h.size, fun k hk => h.block k (by omega) (by omega) (by omega)⟩
theorem K2.then {a b c d : Nat} {w w1 w2 : World} (h : K2 a b w w1) (k : K2 c d w1 w2) (hc : c = a ∨ c = b ∨ w.heap.size ≤ c) (hd : d = a ∨ d = b ∨ w.heap.size ≤ d) : K2 a b w w2 :=
  ⟨k.os.trans h.os, k.tape.trans h.tape, k.output.trans h.output, Nat.le_trans h.size k.size, fun j hj h1 h2 => (k.block j (by have := h.size; omega) (by omega) (by omega)).trans (h.block j hj h1 h2)⟩
theorem K2.set {a b c i : Nat} {w W : World} (h : K2 a b w W) (u : Value) (hc : c = a ∨ c = b ∨ w.heap.size ≤ c) : K2 a b w (W.setCell ⟨c, i, none⟩ u) :=
  h.then (c := c) (d := c) (K2.of_grown (grown_set W ⟨c, i, none⟩ u)) hc hc
theorem Bx.k2 {a b c : Nat} {cs : Array Value} {T : TypeId} {w w' : World} (h : Bx c cs T w) (k : K2 a b w w') (h1 : c ≠ a) (h2 : c ≠ b) : Bx c cs T w' := (k.block c h.lt h1 h2).trans h
theorem own_k2 {a b B n k : Nat} {e : TypeId} {v : Value} {xs : List Value} {w w' : World} (h : w.ownsRow B e k v n xs) (hk : K2 a b w w') (ha : a < B) (hb : b < B) : w'.ownsRow B e k v n xs :=
  own_kept h (fun g hg hl => hk.block g hl (by omega) (by omega))
def cEnd : Rs → Ending
  | .ok _ => .returned (.tuple #[])
  | .ab c => .panicked [stopE 2 c []]
  | .re k => .panicked [stopE 3 0 k]
def vEnd : Rs → Array Value
  | .ok v => vV v
  | _ => #[.int .i64 0, .int .i64 0, .string ⟨#[]⟩]
def stA : Rs → Array Value
  | .ok _ => #[.int .i64 0, .int .i64 0, .slice none 0 0, .string ⟨#[]⟩]
  | .ab c => #[.int .i64 2, .int .i64 c, .slice none 0 0, .string (bs [])]
  | .re k => #[.int .i64 3, .int .i64 0, .slice none 0 0, .string (bs k)]
def stB2 : Rs → Bool
  | .ok _ => false
  | _ => true
def EvP (mb vb : Nat) (C : Value → Array Value) (R : Rs) (ks : List (List UInt8)) (w : World) (E : Ending) (w' : World) : Prop :=
  E = cEnd R ∧ K2 mb vb w w' ∧ Bx vb (vEnd R) 52 w' ∧ ∃ rv, Bx mb (C rv) 143 w' ∧ w'.ownsRow w.heap.size 9 1 rv ks.length (ks.map strV)
def RuP (mb vb : Nat) (C : Value → Array Value) (R : Rs) (ks : List (List UInt8)) (w : World) (E : Ending) (w' : World) : Prop :=
  E = .returned (.tuple #[.agg (stA R), .bool (stB2 R)]) ∧ K2 mb vb w w' ∧ Bx vb (vEnd R) 52 w' ∧ ∃ rv, Bx mb (C rv) 143 w' ∧ w'.ownsRow w.heap.size 9 1 rv ks.length (ks.map strV)
theorem Bx.set4 {b : Nat} {T : TypeId} {W : World} {z0 z1 z2 z3 : Value} (h : Bx b #[z0, z1, z2, z3] T W) (u0 u1 u2 u3 : Value) :
    Bx b #[u0, u1, u2, u3] T ((((W.setCell ⟨b, 0, none⟩ u0).setCell ⟨b, 1, none⟩ u1).setCell ⟨b, 2, none⟩ u2).setCell ⟨b, 3, none⟩ u3) := (((h.set 0 u0).set 1 u1).set 2 u2).set 3 u3
set_option maxRecDepth 100000 in
set_option maxHeartbeats 8000000 in
theorem catch_pan (p q : Nat) (st c : Int) (k : List UInt8) (z0 z1 z2 z3 : Value) (w : World) (hc : Bx p #[z0, z1, z2, z3] 145 w) (hq : Bx q #[.bool false] 4 w) (hne : p ≠ q) :
    CallsD Tryz.prog 134 #[.pointer (some ⟨p, 0, none⟩), .pointer (some ⟨q, 0, none⟩)] (.panicking [stopE st c k]) w fun E u' w' => E = .returned (.tuple #[]) ∧ u' = .panicking [{ stopE st c k with recovered := true }] ∧ Bx p #[.int .i64 st, .int .i64 c, .slice none 0 0, .string (bs k)] 145 w' ∧ Bx q #[.bool true] 4 w' ∧ K2 p q w w' := by
  refine callsD_of_wpS Tryz.func134 rfl fun c₀ cs hu => ?_
  apply wpS_seq
  apply wpS_region
  unfold stopE at hu
  simp [wpOpsS, go_sem, recoverD, hu, Tryz.ntmps134, Exit.thenS]
  have hT : ∀ x : Value, #[Value.pointer (some ⟨p, 0, none⟩), Value.pointer (some ⟨q, 0, none⟩)] ++ (Array.replicate 10 undef).setIfInBounds 3 x = #[Value.pointer (some ⟨p, 0, none⟩), Value.pointer (some ⟨q, 0, none⟩), undef, undef, undef, x, undef, undef, undef, undef, undef, undef] := fun _ => rfl
  rw [hT]
  refine wpS_of_wp ?_
  have hta := run_assert
  have HC := Lib.hid (hc.alloc (.cells #[.int .i64 st, .int .i64 c, .slice none 0 0, .string (bs k)] 145)); have HQ := Lib.hid (hq.alloc (.cells #[.int .i64 st, .int .i64 c, .slice none 0 0, .string (bs k)] 145)); have HY := Lib.hid (Bx.new w #[.int .i64 st, .int .i64 c, .slice none 0 0, .string (bs k)] 145); have HK := Lib.hid (K2.of_below (a := p) (b := q) ((Below.refl w.heap.size w).alloc (Nat.le_refl _) (.cells #[.int .i64 st, .int .i64 c, .slice none 0 0, .string (bs k)] 145)))
  clear hc hq
  go_upto_region 7 with (fail)
  generalize hW0 : w.alloc (.cells #[.int .i64 st, .int .i64 c, .slice none 0 0, .string (bs k)] 145) = v0 at HC HQ HY HK ⊢
  clear hW0
  obtain ⟨y0, y1, y2, y3⟩ := HY.out.c4
  obtain ⟨c0, c1, c2, c3⟩ := HC.out.c4
  have f0 := HC.out.free 0
  have f1 := HC.out.free 1
  have f2 := HC.out.free 2
  have f3 := HC.out.free 3
  have g0 : ((((v0.setCell ⟨p, 0, none⟩ (.int .i64 st)).setCell ⟨p, 1, none⟩ (.int .i64 c)).setCell ⟨p, 2, none⟩ (.slice none 0 0)).setCell ⟨p, 3, none⟩ (.string (bs k))).cell? ⟨q, 0, none⟩ = some (.bool false) := ((((HQ.out.other (Ne.symm hne) _).other (Ne.symm hne) _).other (Ne.symm hne) _).other (Ne.symm hne) _).cell 0
  have g1 := ((((HQ.out.other (i := 0) (Ne.symm hne) (.int .i64 st)).other (i := 1) (Ne.symm hne) (.int .i64 c)).other (i := 2) (Ne.symm hne) (.slice none 0 0)).other (i := 3) (Ne.symm hne) (.string (bs k))).free 0
  have q0 : v0.cell? ⟨q, 0, none⟩ = some (.bool false) := HQ.out.cell 0
  have q1 := HQ.out.free 0
  have HP2 := Lib.hid ((HC.out.set4 (.int .i64 st) (.int .i64 c) (.slice none 0 0) (.string (bs k))).other (c := q) (i := 0) hne (.bool true))
  have HQ2 := Lib.hid (((((HQ.out.other (i := 0) (Ne.symm hne) (.int .i64 st)).other (i := 1) (Ne.symm hne) (.int .i64 c)).other (i := 2) (Ne.symm hne) (.slice none 0 0)).other (i := 3) (Ne.symm hne) (.string (bs k))).set 0 (.bool true))
  have HK2 := Lib.hid (((((HK.out.set (i := 0) (.int .i64 st) (.inl rfl)).set (i := 1) (.int .i64 c) (.inl rfl)).set (i := 2) (.slice none 0 0) (.inl rfl)).set (i := 3) (.string (bs k)) (.inl rfl)).set (i := 0) (.bool true) (.inr (.inl rfl)))
  go_wp2
  exact ⟨rfl, _, rfl, .tuple #[], results_none rfl _ _ _, rfl, rfl, HP2.out, HQ2.out, HK2.out⟩
set_option maxRecDepth 100000 in
set_option maxHeartbeats 8000000 in
theorem irun_any (K : FuncId) (caps : Array Value) (mp mb vb : Nat) (C : Value → Array Value) (R : Rs) (ks : List (List UInt8)) (w w1 : World) (hw1 : w1 = (w.alloc (.cells #[.int .i64 0, .int .i64 0, .slice none 0 0, .string ⟨#[]⟩] 145)).alloc (.cells #[.bool false] 4)) (hE : ∀ w : World, (callFunc K caps).run Tryz.prog w = .ok (.enter K caps) w) (hm : mb < w.heap.size) (hv : vb < w.heap.size) (hC : Calls Tryz.prog K caps w1 (EvP mb vb C R ks w1)) :
    Calls Tryz.prog 117 #[.pointer (some ⟨mp, 0, none⟩), .func (.func K) #[] caps] w (RuP mb vb C R ks w) := by
  have hmf : ∀ (fn : Fn) (first cap : Array Value) (w : World), (Instr.makeFunc fn first cap).run Tryz.prog w = .ok (.func fn first cap) w := fun _ _ _ _ => rfl
  have hal := ((Below.refl w.heap.size w).alloc (Nat.le_refl _) (.cells #[.int .i64 0, .int .i64 0, .slice none 0 0, .string ⟨#[]⟩] 145)).alloc (by simp) (.cells #[.bool false] 4)
  have hp0 := (Bx.new w #[.int .i64 0, .int .i64 0, .slice none 0 0, .string ⟨#[]⟩] 145).alloc (.cells #[.bool false] 4)
  have hq0 := Bx.new1 w (.cells #[.int .i64 0, .int .i64 0, .slice none 0 0, .string ⟨#[]⟩] 145) #[.bool false] 4
  rw [← hw1] at hal hp0 hq0
  have HW1 := Lib.hid hw1; have HB := Lib.hid hal; have HP := Lib.hid hp0; have HQ := Lib.hid hq0; have HCC := Lib.hid hC; clear hw1 hal hp0 hq0 hC
  go_enter_defers Tryz.func117, Tryz.ntmps117
  go_wp2_with fail
  rw [← HW1.out]
  clear HW1
  refine HCC.out.mono ?_
  clear hE HCC
  rintro E w2 ⟨rfl, hk, hvb, rv, hmb, hown⟩
  have hsz := HB.out.size
  have HP2 := Lib.hid (HP.out.k2 hk (by omega) (by omega)); have HQ2 := Lib.hid (HQ.out.k2 hk (by omega) (by omega))
  have HK := Lib.hid ((K2.of_below (a := mb) (b := vb) HB.out).then hk (.inl rfl) (.inr (.inl rfl)))
  have HV := Lib.hid hvb; have HM := Lib.hid hmb; have HO := Lib.hid (own_mono hown hsz)
  have hbb := HQ.out.lt
  have HO1 := Lib.hid hown
  clear hk hvb hmb hown HP HQ HB
  rcases R with v | c | k
  · simp only [cEnd]
    obtain ⟨c0, c1, c2, c3⟩ := HP2.out.c4
    have f0 := HP2.out.free 0
    have f1 := HP2.out.free 1
    have f2 := HP2.out.free 2
    have f3 := HP2.out.free 3
    have q0 : w2.cell? ⟨w.heap.size + 1, 0, none⟩ = some (.bool false) := HQ2.out.cell 0
    have q1 := HQ2.out.free 0
    have g0 : ((((w2.setCell ⟨w.heap.size, 0, none⟩ (.int .i64 0)).setCell ⟨w.heap.size, 1, none⟩ (.int .i64 0)).setCell ⟨w.heap.size, 2, none⟩ (.slice none 0 0)).setCell ⟨w.heap.size, 3, none⟩ (.string ⟨#[]⟩)).cell? ⟨w.heap.size + 1, 0, none⟩ = some (.bool false) := ((((HQ2.out.other (i := 0) (c := w.heap.size) (by omega) (.int .i64 0)).other (i := 1) (c := w.heap.size) (by omega) (.int .i64 0)).other (i := 2) (c := w.heap.size) (by omega) (.slice none 0 0)).other (i := 3) (c := w.heap.size) (by omega) (.string ⟨#[]⟩)).cell 0
    have g1 := ((((HQ2.out.other (i := 0) (c := w.heap.size) (by omega) (.int .i64 0)).other (i := 1) (c := w.heap.size) (by omega) (.int .i64 0)).other (i := 2) (c := w.heap.size) (by omega) (.slice none 0 0)).other (i := 3) (c := w.heap.size) (by omega) (.string ⟨#[]⟩)).free 0
    have HP3 := Lib.hid ((HP2.out.set4 (.int .i64 0) (.int .i64 0) (.slice none 0 0) (.string ⟨#[]⟩)).other (c := w.heap.size + 1) (i := 0) (by omega) (.bool false))
    have HQ3 := Lib.hid (((((HQ2.out.other (i := 0) (c := w.heap.size) (by omega) (.int .i64 0)).other (i := 1) (c := w.heap.size) (by omega) (.int .i64 0)).other (i := 2) (c := w.heap.size) (by omega) (.slice none 0 0)).other (i := 3) (c := w.heap.size) (by omega) (.string ⟨#[]⟩)).set 0 (.bool false))
    have HKL := Lib.hid (((((K2.of_below (a := w.heap.size) (b := w.heap.size + 1) (Below.refl w2.heap.size w2)).set (i := 0) (.int .i64 0) (.inl rfl)).set (i := 1) (.int .i64 0) (.inl rfl)).set (i := 2) (.slice none 0 0) (.inl rfl)).set (i := 3) (.string ⟨#[]⟩) (.inl rfl) |>.set (i := 0) (.bool false) (.inr (.inl rfl)))
    go_wp2
    generalize hWE : (((((w2.setCell ⟨w.heap.size, 0, none⟩ (.int .i64 0)).setCell ⟨w.heap.size, 1, none⟩ (.int .i64 0)).setCell ⟨w.heap.size, 2, none⟩ (.slice none 0 0)).setCell ⟨w.heap.size, 3, none⟩ (.string ⟨#[]⟩)).setCell ⟨w.heap.size + 1, 0, none⟩ (.bool false)) = WE at HP3 HQ3 HKL ⊢
    clear hWE
    refine leaves_cons (f := 134) (args := #[.pointer (some ⟨w.heap.size, 0, none⟩), .pointer (some ⟨w.heap.size + 1, 0, none⟩)]) (by simp) (by simp [go_sem]) ?_
    refine (catch_idle w.heap.size (w.heap.size + 1) _).mono ?_
    rintro e u' w'' ⟨rfl, rfl, rfl⟩
    obtain ⟨k0, k1, k2, k3⟩ := HP3.out.c4
    have k4 : w''.cell? ⟨w.heap.size + 1, 0, none⟩ = some (.bool false) := HQ3.out.cell 0
    have hpost : RuP mb vb C (.ok v) ks w (.returned (.tuple #[.agg (stA (.ok v)), .bool (stB2 (.ok v))])) w'' :=
      ⟨rfl, HK.out.then HKL.out (by omega) (by omega), HV.out.k2 HKL.out (by omega) (by omega), rv, HM.out.k2 HKL.out (by omega) (by omega), own_mono (own_k2 HO1.out HKL.out (by omega) (by omega)) hsz⟩
    simpa [Leaves, settle, results, Tryz.results117, go_sem, k0, k1, k2, k3, k4, stA, stB2] using hpost
  · simp only [cEnd]
    refine leaves_cons (f := 134) (args := #[.pointer (some ⟨w.heap.size, 0, none⟩), .pointer (some ⟨w.heap.size + 1, 0, none⟩)]) (by simp) (by simp [go_sem]) ?_
    refine (catch_pan w.heap.size (w.heap.size + 1) 2 c [] _ _ _ _ _ HP2.out HQ2.out (by omega)).mono ?_
    rintro e u' w'' ⟨rfl, rfl, hP3, hQ3, hKL⟩
    obtain ⟨k0, k1, k2, k3⟩ := hP3.c4
    have k4 : w''.cell? ⟨w.heap.size + 1, 0, none⟩ = some (.bool true) := hQ3.cell 0
    have hpost : RuP mb vb C (.ab c) ks w (.returned (.tuple #[.agg (stA (.ab c)), .bool (stB2 (.ab c))])) w'' :=
      ⟨rfl, HK.out.then hKL (by omega) (by omega), HV.out.k2 hKL (by omega) (by omega), rv, HM.out.k2 hKL (by omega) (by omega), own_mono (own_k2 HO1.out hKL (by omega) (by omega)) hsz⟩
    simpa [Leaves, settle, results, Tryz.results117, go_sem, k0, k1, k2, k3, k4, stA, stB2, stopE] using hpost
  · simp only [cEnd]
    refine leaves_cons (f := 134) (args := #[.pointer (some ⟨w.heap.size, 0, none⟩), .pointer (some ⟨w.heap.size + 1, 0, none⟩)]) (by simp) (by simp [go_sem]) ?_
    refine (catch_pan w.heap.size (w.heap.size + 1) 3 0 k _ _ _ _ _ HP2.out HQ2.out (by omega)).mono ?_
    rintro e u' w'' ⟨rfl, rfl, hP3, hQ3, hKL⟩
    obtain ⟨k0, k1, k2, k3⟩ := hP3.c4
    have k4 : w''.cell? ⟨w.heap.size + 1, 0, none⟩ = some (.bool true) := hQ3.cell 0
    have hpost : RuP mb vb C (.re k) ks w (.returned (.tuple #[.agg (stA (.re k)), .bool (stB2 (.re k))])) w'' :=
      ⟨rfl, HK.out.then hKL (by omega) (by omega), HV.out.k2 hKL (by omega) (by omega), rv, HM.out.k2 hKL (by omega) (by omega), own_mono (own_k2 HO1.out hKL (by omega) (by omega)) hsz⟩
    simpa [Leaves, settle, results, Tryz.results117, go_sem, k0, k1, k2, k3, k4, stA, stB2, stopE] using hpost
end Go.Proofs.YtnglaegofhpleaaGreatDoor
namespace Go.Proofs.YtnglaegofhpleaaGreatDoor
open Go.RowKit

theorem cellsAt_val (w : World) (x : Vl) : CellsAt (w.alloc (.cells (vV x) 52)) (.slice (some ⟨w.heap.size, 0, none⟩) 1 1) 1 (vlL x) := by
  refine ⟨_, _, rfl, fun _ => ⟨_, _, rfl, fun j y hj => ?_⟩⟩
  rw [Nat.zero_add]
  have h := (Bx.new w (vV x) 52).cell j
  rw [h]
  rcases j with _ | _ | _ | j
  · exact hj
  · exact hj
  · exact hj
  · simp [vlL] at hj
/-- 'v = append(v, y)', v a slice of tokens of the call's own -/
theorem wpList_append_val {w1 : World} {ops : Array Oper} {rest : List Oper} {o : Oper} {a : Act} {Q : Exit → Act → World → Prop} (hgd : o.guard = none) (s x : Operand)
    (ho : o.op = .call { callee := .builtin .append, args := #[s, x], argTypes := #[26, 26] }) (B : Nat) (v : Value) (L : List Vl) (y : Vl) (hown : w1.ownsRow B 52 3 v L.length (vlLs L))
    (hs : a.eval s = v) (hx : a.eval x = .slice (some ⟨w1.heap.size, 0, none⟩) 1 1) (hlen : L.length ≤ 1000000000000) (W0 : World) (B0 : Nat) (hbel : Below B0 W0 w1) (hB : B ≤ w1.heap.size) (hB0 : B0 ≤ B)
    (h : ∀ v' w', w'.ownsRow B 52 3 v' (L ++ [y]).length (vlLs (L ++ [y])) → Below B0 W0 w' → w1.grownBy w' v.ownBlock → wpList Tryz.prog ops Q rest (a.put o.dst v') w') :
    wpList Tryz.prog ops Q (o :: rest) a (w1.alloc (.cells (vV y) 52)) := by
  obtain ⟨i0, hi, hz0, hz1, hz2⟩ := info_parts infoVl
  refine wpList_append_any hgd s x 26 ho B 52 i0 (.agg #[.int .i64 0, .int .i64 0, .string ⟨#[]⟩]) 3 32 Tryz.underlying26 hi hz0 hz1 hz2 rfl (by decide) v _ L.length 1 (vlLs L) (vlL y) hs (hown.alloc _) hx (cellsAt_val w1 y) rfl
    (by intro u hu; simp only [vlL, List.mem_cons, List.not_mem_nil, or_false] at hu; rcases hu with rfl | rfl | rfl <;> rfl) (by unfold maxLen; omega) (by omega) W0 B0 (hbel.alloc (Nat.le_trans hB0 hB) _) (by simp; omega) hB0 ?_
  intro v2 w2 hown2 hb2 hgrow
  refine h v2 w2 (by rw [vlLs_snoc, List.length_append]; exact hown2) hb2 ?_
  exact ⟨hgrow.os, hgrow.tape, hgrow.output, Nat.le_trans (by simp) hgrow.size, fun k hk hne => (hgrow.block k (by simp; omega) hne).trans ((World.grownBy_alloc w1 (.cells (vV y) 52) none).block k hk (by simp))⟩

theorem own_valAt {W : World} {B : Nat} {v : Value} {L : List Vl} (h : W.ownsRow B 52 3 v L.length (vlLs L)) : CellsAt W v L.length (vlLs L) := by
  rcases own_form h with ⟨rfl, h0⟩ | ⟨g, cap, rfl, hc, _⟩
  · have : L = [] := List.eq_nil_of_length_eq_zero h0
    subst this
    exact ⟨none, 0, rfl, fun hne => absurd rfl hne⟩
  · refine ⟨_, cap, rfl, fun _ => ⟨g, 0, rfl, fun j u hj => ?_⟩⟩
    have h1 := h.cells (g := g) rfl j u hj
    have e : (⟨g, 0, none⟩ : Addr).add j = ⟨g, 0 + j, none⟩ := by unfold Addr.add; split <;> simp_all
    rw [e] at h1; exact h1

theorem Mp.set {m b : Nat} {L : List Pr} {W : World} (h : Mp m L W) (hne : m ≠ b) (i : Nat) (u : Value) : Mp m L (W.setCell ⟨b, i, none⟩ u) := by
  obtain ⟨es, c, h1, h2⟩ := h
  exact ⟨es, c, (heap_setCell_other W ⟨b, i, none⟩ m u (fun e => hne (by simpa using e))).trans h1, h2⟩
theorem Mp.grownv {m B k n : Nat} {e : TypeId} {v : Value} {xs : List Value} {L : List Pr} {W W' : World} (h : Mp m L W) (hg : W.grownBy W' v.ownBlock) (ho : W.ownsRow B e k v n xs) : Mp m L W' := by
  refine h.kept hg (fun q => ?_)
  obtain ⟨es, c, h1, _⟩ := h
  rcases ho.2 with ⟨rfl, _⟩ | ⟨g, cap, cur, rfl, _, h3, _⟩
  · simp [Value.ownBlock] at q
  · have hgm : g = m := by simpa [Value.ownBlock] using q
    rw [hgm, h1] at h3; cases h3
theorem Mp.sets3 {m b : Nat} {L : List Pr} {W : World} (h : Mp m L W) (hne : m ≠ b) (u0 u1 u2 : Value) : Mp m L (((W.setCell ⟨b, 0, none⟩ u0).setCell ⟨b, 1, none⟩ u1).setCell ⟨b, 2, none⟩ u2) := ((h.set hne 0 u0).set hne 1 u1).set hne 2 u2

set_option maxRecDepth 100000 in
set_option maxHeartbeats 16000000 in
theorem evalVar_any (mb vm om : Nat) (sa ra wa : Option Addr) (sc rc wc : Nat) (M : List Pr) (al : Bool) (rd wri : List (List UInt8)) (V : List Pr) (x : List UInt8) (w : World) (hX : Bx mb #[.slice sa M.length sc, .bool al, .slice ra rd.length rc, .slice wa wri.length wc, .map (some vm), .map (some om), .int .i64 0, .int .i64 0, .slice none 0 0, .slice none 0 0, .slice none 0 0, .slice none 0 0, .string ⟨#[]⟩, .int .i64 0] 143 w) (hV : Mp vm V w) (hin : hasK V x = true) :
    Calls Tryz.prog 119 #[.pointer (some ⟨mb, 0, none⟩), .agg #[.int .i64 3, .int .i64 0, .string (bs x), .slice none 0 0]] w fun e w' => e = .returned (.agg (vV (getP V x))) ∧ Below w.heap.size w w' := by
  obtain ⟨gv, hgv⟩ : ∃ v, getP V x = v := ⟨_, rfl⟩
  rw [hgv]
  simp only [vV]
  have HGV := Lib.hid hgv; have HIN := Lib.hid hin; clear hgv hin
  have hmw := hX.lt
  have hVw := hV.lt
  have hal0 := ((Below.refl w.heap.size w).alloc (Nat.le_refl _) (.cells #[.int .i64 3, .int .i64 0, .string (bs x), .slice none 0 0] 116)).alloc (by simp) (.cells #[.int .i64 0, .int .i64 0, .string ⟨#[]⟩] 52)
  have hr0 := Bx.new (w.alloc (.cells #[.int .i64 3, .int .i64 0, .string (bs x), .slice none 0 0] 116)) #[.int .i64 0, .int .i64 0, .string ⟨#[]⟩] 52
  rw [show (w.alloc (.cells #[.int .i64 3, .int .i64 0, .string (bs x), .slice none 0 0] 116)).heap.size = w.heap.size + 1 by simp] at hr0
  have HE := Lib.hid ((Bx.new w #[.int .i64 3, .int .i64 0, .string (bs x), .slice none 0 0] 116).alloc (.cells #[.int .i64 0, .int .i64 0, .string ⟨#[]⟩] 52))
  have HB := Lib.hid hal0; have HRB := Lib.hid hr0; have HX := Lib.hid (hX.call hal0); have HV := Lib.hid (hV.call hal0); clear hX hV hal0 hr0
  go_enter Tryz.func119, Tryz.ntmps119
  go_upto_region 1 with (fail)
  generalize hW : (w.alloc (.cells #[.int .i64 3, .int .i64 0, .string (bs x), .slice none 0 0] 116)).alloc (.cells #[.int .i64 0, .int .i64 0, .string ⟨#[]⟩] 52) = v0 at HB HRB HE HX HV ⊢
  clear hW
  obtain ⟨e0, e1, e2, e3⟩ := HE.out.c4
  go_upto_region 7 with (fail)
  clear e0 e1 e2 e3
  have hs0 : Bx mb #[.slice sa M.length sc, .bool al, .slice ra rd.length rc, .slice wa wri.length wc, .map (some vm), .map (some om), .int .i64 0, .int .i64 0, .slice none 0 0, .slice none 0 0, .slice none 0 0, .slice none 0 0, .string ⟨#[]⟩, .int .i64 0] 143 v0.drew ∧ Bx w.heap.size #[.int .i64 3, .int .i64 0, .string (bs x), .slice none 0 0] 116 v0.drew ∧ Mp vm V v0.drew := ⟨HX.out, HE.out, HV.out⟩
  have HS0 := Lib.hid hs0; clear hs0
  go_wp2_with fail
  refine wp_region_held_drew (S := (fun w' => Bx mb #[.slice sa M.length sc, .bool al, .slice ra rd.length rc, .slice wa wri.length wc, .map (some vm), .map (some om), .int .i64 0, .int .i64 0, .slice none 0 0, .slice none 0 0, .slice none 0 0, .slice none 0 0, .string ⟨#[]⟩, .int .i64 0] 143 w' ∧ Bx w.heap.size #[.int .i64 3, .int .i64 0, .string (bs x), .slice none 0 0] 116 w' ∧ Mp vm V w')) (by kernel_rfl) ?_ (fun hHeld => ?_)
  · exact HS0.out
  refine tkY (i := 0) (v := ?vv1) 25 ?yy1 ?_
  case yy1 => intro w hSw; (try dsimp only at hSw); go_simp; (try with_reducible rfl)
  simp only [sA, sB, sC]
  refine tkY (i := 1) (v := ?vv2) 26 ?yy2 ?_
  case yy2 => intro w hSw; (try dsimp only at hSw); go_simp; (try with_reducible rfl)
  simp only [sA, sB, sC]
  refine tkY (i := 2) (v := ?vv3) 27 ?yy3 ?_
  case yy3 => intro w hSw; (try dsimp only at hSw); go_simp; (try with_reducible rfl)
  simp only [sA, sB, sC]
  refine tkY (i := 3) (v := ?vv4) 28 ?yy4 ?_
  case yy4 =>
    intro wq hSw
    obtain ⟨m0, m1, m2, m3, m4, -⟩ := hSw.1.c14
    clear hSw
    go_simp
    (try with_reducible rfl)
  simp only [sA, sB, sC]
  refine tkY (i := 4) (v := ?vv5) 29 ?yy5 ?_
  case yy5 => intro w hSw; (try dsimp only at hSw); go_simp; (try with_reducible rfl)
  simp only [sA, sB, sC]
  refine tkY (i := 5) (v := ?vv6) 30 ?yy6 ?_
  case yy6 =>
    intro wq hSw
    obtain ⟨e0, e1, e2, e3⟩ := hSw.2.1.c4
    clear hSw
    go_simp
    (try with_reducible rfl)
  simp only [sA, sB, sC]
  refine tkY (i := 6) (v := ?vv7) 31 ?yy7 ?_
  case yy7 =>
    intro wq hSw
    have hlk := run_look hSw.2.2 x
    rw [HGV.out, HIN.out] at hlk
    simp only [vV] at hlk
    clear hSw
    go_simp
    (try with_reducible rfl)
  simp only [sA, sB, sC]
  refine tkY (i := 7) (v := ?vv8) 24 ?yy8 ?_
  case yy8 => intro w hSw; (try dsimp only at hSw); go_simp; (try with_reducible rfl)
  simp only [sA, sB, sC]
  refine tkY (i := 8) (v := ?vv9) 32 ?yy9 ?_
  case yy9 => intro w hSw; (try dsimp only at hSw); go_simp; (try with_reducible rfl)
  simp only [sA, sB, sC]
  refine tkY (i := 9) (v := ?vv10) 33 ?yy10 ?_
  case yy10 => intro w hSw; (try dsimp only at hSw); go_simp; (try with_reducible rfl)
  simp only [sA, sB, sC]
  refine wpAnyH_ready (rs := [10]) (by kernel_rfl) (by simp) ?_
  refine (AllReadyH.cons rfl (fun K hK => ?_) AllReadyH.nil)
  go_simp
  skip
  focus (try go_wp2_with fail)
  refine hK.out _ _ ?_ (fun hHeld => ?_)
  · exact ⟨hHeld.1.alloc _, hHeld.2.1.alloc _, hHeld.2.2.call ((Below.refl _ _).alloc (Nat.le_refl _) _)⟩
  clear hK K
  (try simp only [Act.put, sA, sB, sC])
  have HN := Lib.hid (show Bx v0.heap.size #[.int .i64 0, .int .i64 0, .string ⟨#[]⟩] 52 (v0.drew.alloc (.cells #[.int .i64 0, .int .i64 0, .string ⟨#[]⟩] 52)) from Bx.new v0.drew #[.int .i64 0, .int .i64 0, .string ⟨#[]⟩] 52)
  have HBB := Lib.hid (show Below w.heap.size w (v0.drew.alloc (.cells #[.int .i64 0, .int .i64 0, .string ⟨#[]⟩] 52)) from btrans HB.out HB.out.size ((Below.refl v0.heap.size v0).drew.alloc (Nat.le_refl _) (.cells #[.int .i64 0, .int .i64 0, .string ⟨#[]⟩] 52)))
  have HRR := Lib.hid (show Bx (w.heap.size + 1) #[.int .i64 0, .int .i64 0, .string ⟨#[]⟩] 52 (v0.drew.alloc (.cells #[.int .i64 0, .int .i64 0, .string ⟨#[]⟩] 52)) from HRB.out.drew.alloc _)
  have HH := Lib.hid (show Bx mb #[.slice sa M.length sc, .bool al, .slice ra rd.length rc, .slice wa wri.length wc, .map (some vm), .map (some om), .int .i64 0, .int .i64 0, .slice none 0 0, .slice none 0 0, .slice none 0 0, .slice none 0 0, .string ⟨#[]⟩, .int .i64 0] 143 (v0.drew.alloc (.cells #[.int .i64 0, .int .i64 0, .string ⟨#[]⟩] 52)) ∧ Bx w.heap.size #[.int .i64 3, .int .i64 0, .string (bs x), .slice none 0 0] 116 (v0.drew.alloc (.cells #[.int .i64 0, .int .i64 0, .string ⟨#[]⟩] 52)) ∧ Mp vm V (v0.drew.alloc (.cells #[.int .i64 0, .int .i64 0, .string ⟨#[]⟩] 52)) from hHeld)
  have hsz0 := HRB.out.lt
  clear hHeld HB HRB HX HE HV HS0
  (try rw [show (v0.alloc (.cells #[.int .i64 0, .int .i64 0, .string ⟨#[]⟩] 52)).drew = v0.drew.alloc (.cells #[.int .i64 0, .int .i64 0, .string ⟨#[]⟩] 52) from rfl])
  generalize hW : v0.drew.alloc (.cells #[.int .i64 0, .int .i64 0, .string ⟨#[]⟩] 52) = v1 at HN HBB HRR HH ⊢
  clear hW
  have hHeld := HH.out
  clear HH
  have n0 : v1.cell? ⟨v0.heap.size, 0, none⟩ = some (.int .i64 0) := HN.out.cell 0
  have n1 : v1.cell? ⟨v0.heap.size, 1, none⟩ = some (.int .i64 0) := HN.out.cell 1
  have n2 : v1.cell? ⟨v0.heap.size, 2, none⟩ = some (.string ⟨#[]⟩) := HN.out.cell 2
  have g0 := HN.out.free 0
  have g1 := HN.out.free 1
  have g2 := HN.out.free 2
  have hne1 : mb ≠ v0.heap.size := by omega
  have hne2 : w.heap.size ≠ v0.heap.size := by omega
  have hne3 : vm ≠ v0.heap.size := by omega
  have q1 : Bx mb #[.slice sa M.length sc, .bool al, .slice ra rd.length rc, .slice wa wri.length wc, .map (some vm), .map (some om), .int .i64 0, .int .i64 0, .slice none 0 0, .slice none 0 0, .slice none 0 0, .slice none 0 0, .string ⟨#[]⟩, .int .i64 0] 143 v1 := hHeld.1
  have q2 : Bx w.heap.size #[.int .i64 3, .int .i64 0, .string (bs x), .slice none 0 0] 116 v1 := hHeld.2.1
  have q3 : Mp vm V v1 := hHeld.2.2
  have HKK := Lib.hid (show Bx mb #[.slice sa M.length sc, .bool al, .slice ra rd.length rc, .slice wa wri.length wc, .map (some vm), .map (some om), .int .i64 0, .int .i64 0, .slice none 0 0, .slice none 0 0, .slice none 0 0, .slice none 0 0, .string ⟨#[]⟩, .int .i64 0] 143 (((v1.setCell ⟨v0.heap.size, 0, none⟩ (.int .i64 gv.k)).setCell ⟨v0.heap.size, 1, none⟩ (.int .i64 gv.n)).setCell ⟨v0.heap.size, 2, none⟩ (.string (bs gv.s))) ∧ Bx w.heap.size #[.int .i64 3, .int .i64 0, .string (bs x), .slice none 0 0] 116 (((v1.setCell ⟨v0.heap.size, 0, none⟩ (.int .i64 gv.k)).setCell ⟨v0.heap.size, 1, none⟩ (.int .i64 gv.n)).setCell ⟨v0.heap.size, 2, none⟩ (.string (bs gv.s))) ∧ Mp vm V (((v1.setCell ⟨v0.heap.size, 0, none⟩ (.int .i64 gv.k)).setCell ⟨v0.heap.size, 1, none⟩ (.int .i64 gv.n)).setCell ⟨v0.heap.size, 2, none⟩ (.string (bs gv.s))) from ⟨q1.sets3_ne hne1 (.int .i64 gv.k) (.int .i64 gv.n) (.string (bs gv.s)), q2.sets3_ne hne2 (.int .i64 gv.k) (.int .i64 gv.n) (.string (bs gv.s)), q3.sets3 hne3 (.int .i64 gv.k) (.int .i64 gv.n) (.string (bs gv.s))⟩)
  clear q1 q2 q3
  refine wpAnyH_ready (rs := [11]) (by kernel_rfl) (by simp) ?_
  refine (AllReadyH.cons rfl (fun K hK => ?_) AllReadyH.nil)
  go_simp
  focus (try go_wp2_with fail)
  refine hK.out _ _ ?_ (fun hHeld => ?_)
  · exact HKK.out
  clear hK K
  (try simp only [Act.put, sA, sB, sC])
  refine tkY (i := 12) (v := ?vv11) 6 ?yy11 ?_
  case yy11 => intro w hSw; (try dsimp only at hSw); go_simp; (try with_reducible rfl)
  simp only [sA, sB, sC]
  refine wpAnyH_done (by kernel_rfl) ?_ _
  have HN2 := Lib.hid (HN.out.sets3 (.int .i64 gv.k) (.int .i64 gv.n) (.string (bs gv.s))); have HB2 := Lib.hid (below_sets3 HBB.out v0.heap.size (by omega) (.int .i64 gv.k) (.int .i64 gv.n) (.string (bs gv.s))); have HR2 := Lib.hid (HRR.out.sets3_ne (c := v0.heap.size) (by omega) (.int .i64 gv.k) (.int .i64 gv.n) (.string (bs gv.s)))
  clear n0 n1 n2 g0 g1 g2 hHeld HN HBB HRR
  generalize hW : ((v1.setCell ⟨v0.heap.size, 0, none⟩ (.int .i64 gv.k)).setCell ⟨v0.heap.size, 1, none⟩ (.int .i64 gv.n)).setCell ⟨v0.heap.size, 2, none⟩ (.string (bs gv.s)) = v2 at HN2 HB2 HR2 ⊢
  clear hW
  go_wp2_with fail
  refine (must_yes _).mono ?_
  rintro er w3 ⟨rfl, rfl⟩
  have x0 : w3.cell? ⟨v0.heap.size, 0, none⟩ = some (.int .i64 gv.k) := HN2.out.cell 0
  have x1 : w3.cell? ⟨v0.heap.size, 1, none⟩ = some (.int .i64 gv.n) := HN2.out.cell 1
  have x2 : w3.cell? ⟨v0.heap.size, 2, none⟩ = some (.string (bs gv.s)) := HN2.out.cell 2
  have r0 : w3.cell? ⟨(w.heap.size + 1), 0, none⟩ = some (.int .i64 0) := HR2.out.cell 0
  have r1 : w3.cell? ⟨(w.heap.size + 1), 1, none⟩ = some (.int .i64 0) := HR2.out.cell 1
  have r2 : w3.cell? ⟨(w.heap.size + 1), 2, none⟩ = some (.string ⟨#[]⟩) := HR2.out.cell 2
  have f0 := HR2.out.free 0
  have f1 := HR2.out.free 1
  have f2 := HR2.out.free 2
  have HK := Lib.hid (HR2.out.sets3 (.int .i64 gv.k) (.int .i64 gv.n) (.string (bs gv.s)))
  go_wp2
  have k0 := HK.out.cell 0
  have k1 := HK.out.cell 1
  have k2 := HK.out.cell 2
  simp only [List.getElem?_toArray, List.getElem?_cons_zero, List.getElem?_cons_succ] at k0 k1 k2
  refine bodyPost_ret (v := .agg #[.int .i64 gv.k, .int .i64 gv.n, .string (bs gv.s)]) (by simp [results, Tryz.results119, go_sem, k0, k1, k2] <;> rfl) rfl ⟨rfl, below_sets3 HB2.out (w.heap.size + 1) (by omega) _ _ _⟩
def exL (x : List UInt8) : List Value := [.int .i64 3, .int .i64 0, .string (bs x), .slice none 0 0]
def exLs (L : List (List UInt8)) : List Value := L.flatMap exL
theorem exLs_length (L : List (List UInt8)) : (exLs L).length = L.length * 4 := by
  unfold exLs
  induction L with
  | nil => rfl
  | cons x r ih => rw [List.flatMap_cons, List.length_append, ih, List.length_cons]; show 4 + _ = _; omega
theorem exLs_get : ∀ (M : List (List UInt8)) (k : Nat) (h : k < M.length), (exLs M)[k * 4]? = some (.int .i64 3) ∧ (exLs M)[k * 4 + 1]? = some (.int .i64 0) ∧ (exLs M)[k * 4 + 2]? = some (.string (bs M[k])) ∧ (exLs M)[k * 4 + 3]? = some (.slice none 0 0)
  | [], k, h => by simp at h
  | x :: r, 0, h => ⟨rfl, rfl, rfl, rfl⟩
  | x :: r, k + 1, h => by
    have ih := exLs_get r k (by simpa using h)
    have e : ∀ j, (exLs (x :: r))[j + 4]? = (exLs r)[j]? := fun j => by
      show (exL x ++ exLs r)[j + 4]? = _
      rw [List.getElem?_append_right (by show 4 ≤ _; omega)]; rfl
    refine ⟨?_, ?_, ?_, ?_⟩
    · rw [show (k + 1) * 4 = k * 4 + 4 by omega, e]; exact ih.1
    · rw [show (k + 1) * 4 + 1 = (k * 4 + 1) + 4 by omega, e]; exact ih.2.1
    · rw [show (k + 1) * 4 + 2 = (k * 4 + 2) + 4 by omega, e]; exact ih.2.2.1
    · rw [show (k + 1) * 4 + 3 = (k * 4 + 3) + 4 by omega, e]; exact ih.2.2.2
theorem ex_cells {W : World} {ad : Option Addr} {n cap : Nat} {M : List (List UInt8)} (h : CellsAt W (.slice ad n cap) n (exLs M)) {k : Nat} (hk : k < M.length) : ∃ b off, ad = some ⟨b, off, none⟩ ∧ W.cell? ⟨b, off + k * 4, none⟩ = some (.int .i64 3) ∧ W.cell? ⟨b, off + k * 4 + 1, none⟩ = some (.int .i64 0) ∧ W.cell? ⟨b, off + k * 4 + 2, none⟩ = some (.string (bs M[k])) ∧ W.cell? ⟨b, off + k * 4 + 3, none⟩ = some (.slice none 0 0) := by
  obtain ⟨a, c, hs, hc⟩ := h
  obtain ⟨b, off, ha, hcell⟩ := hc (by intro e; have := exLs_length M; rw [e] at this; simp at this; omega)
  cases hs
  obtain ⟨h1, h2, h3, h4⟩ := exLs_get M k hk
  exact ⟨b, off, ha, hcell _ _ h1, by have := hcell _ _ h2; rwa [← Nat.add_assoc] at this, by have := hcell _ _ h3; rwa [← Nat.add_assoc] at this, by have := hcell _ _ h4; rwa [← Nat.add_assoc] at this⟩
def evS (al : Bool) (rd : List (List UInt8)) (M : List Pr) (op : Int) (l : List Vl) : Rs × List (List UInt8) := match l with
  | [a] => uneS al rd M op a
  | [a, b] => (binS op a b, [])
  | _ => (.ab 1009, [])
/-- the operands are variables that hold the values -/
def VarsAre (V : List Pr) (names : List (List UInt8)) (vals : List Vl) : Prop := names.length = vals.length ∧ ∀ k (h : k < names.length) (h2 : k < vals.length), hasK V names[k] = true ∧ getP V names[k] = vals[k]
def OkV (v : Vl) : Prop := -9223372036854775808 ≤ v.n ∧ v.n ≤ 9223372036854775807 ∧ v.s.length ≤ 1000000

theorem grown_drew0 {w w' : World} {row : Option Nat} (h : w.drew.grownBy w' row) : w.grownBy w' row := ⟨h.os, h.tape, h.output, h.size, h.block⟩
set_option maxRecDepth 100000 in
set_option maxHeartbeats 32000000 in
theorem evalOp_any (mb vm om : Nat) (sa ra wa : Option Addr) (sc rc wc : Nat) (M : List Pr) (al : Bool) (rd wri : List (List UInt8)) (op : Int) (aa : Option Addr) (ac : Nat) (V : List Pr) (names : List (List UInt8)) (vals : List Vl) (hop : (vals.length = 1 ∧ (op = 9 ∨ op = 18 ∨ op = 20 ∨ op = 21 ∨ op = 22 ∨ op = 23 ∨ op = 24)) ∨ (vals.length = 2 ∧ 4 ≤ op ∧ op ≤ 19 ∧ op ≠ 9 ∧ op ≠ 18)) (hva : VarsAre V names vals) (hok : ∀ v ∈ vals, OkV v) (w W0 : World) (hX : Bx mb #[.slice sa M.length sc, .bool al, .slice ra rd.length rc, .slice wa wri.length wc, .map (some vm), .map (some om), .int .i64 0, .int .i64 0, .slice none 0 0, .slice none 0 0, .slice none 0 0, .slice none 0 0, .string ⟨#[]⟩, .int .i64 0] 143 w) (hO : Mp om [] w) (hmb : W0.heap.size ≤ mb) (hW0 : Below W0.heap.size W0 w) (hM : CellsAt W0 (.slice sa M.length sc) M.length (prLs M)) (hR : StrS W0 (.slice ra rd.length rc) rd) (hl1 : M.length ≤ 9000000000000) (hl2 : rd.length ≤ 9000000000000) (hV : Mp vm V w) (hA : CellsAt W0 (.slice aa vals.length ac) vals.length (exLs names)) (hLd : Laid W0) :
    Calls Tryz.prog 119 #[.pointer (some ⟨mb, 0, none⟩), .agg #[.int .i64 op, .int .i64 0, .string ⟨#[]⟩, .slice aa vals.length ac]] w fun e w' => e = endR (evS al rd M op vals).1 ∧ w.grownBy w' (some mb) ∧ ∃ rv, Bx mb #[.slice sa M.length sc, .bool al, .slice ra rd.length rc, .slice wa wri.length wc, .map (some vm), .map (some om), .int .i64 0, .int .i64 0, .slice none 0 0, rv, .slice none 0 0, .slice none 0 0, .string ⟨#[]⟩, .int .i64 0] 143 w' ∧ w'.ownsRow w.heap.size 9 1 rv (evS al rd M op vals).2.length ((evS al rd M op vals).2.map strV) := by
  obtain ⟨⟨R, ks⟩, hU⟩ : ∃ x, evS al rd M op vals = x := ⟨_, rfl⟩
  rw [hU]
  simp only
  have hmw := hX.lt
  have hsz := hW0.size
  have HU := Lib.hid hU; have HM := Lib.hid hM; have HRS := Lib.hid hR; have HLD := Lib.hid hLd; have HVA := Lib.hid hva.2; have hnl := hva.1; have HOK := Lib.hid hok; have HAR := Lib.hid hA; clear hU hM hR hLd hva hok hA
  have hvl : vals.length ≤ 2 := by omega
  have h4 : 4 ≤ op := by omega
  have HOP := Lib.hid hop; clear hop
  have n1 : (op == 1) = false := by rw [beq_eq_false_iff_ne]; omega
  have n2 : (op == 2) = false := by rw [beq_eq_false_iff_ne]; omega
  have n3 : (op == 3) = false := by rw [beq_eq_false_iff_ne]; omega
  have hal0 := ((Below.refl w.heap.size w).alloc (Nat.le_refl _) (.cells #[.int .i64 op, .int .i64 0, .string ⟨#[]⟩, .slice aa vals.length ac] 116)).alloc (by simp) (.cells #[.int .i64 0, .int .i64 0, .string ⟨#[]⟩] 52)
  have hr0 := Bx.new (w.alloc (.cells #[.int .i64 op, .int .i64 0, .string ⟨#[]⟩, .slice aa vals.length ac] 116)) #[.int .i64 0, .int .i64 0, .string ⟨#[]⟩] 52
  rw [show (w.alloc (.cells #[.int .i64 op, .int .i64 0, .string ⟨#[]⟩, .slice aa vals.length ac] 116)).heap.size = w.heap.size + 1 by simp] at hr0
  have HE := Lib.hid ((Bx.new w #[.int .i64 op, .int .i64 0, .string ⟨#[]⟩, .slice aa vals.length ac] 116).alloc (.cells #[.int .i64 0, .int .i64 0, .string ⟨#[]⟩] 52))
  have HG := Lib.hid (grown_below hal0 (some mb)); have HRB := Lib.hid hr0; have HX := Lib.hid (hX.call hal0); have HO := Lib.hid (hO.call hal0); have HV := Lib.hid (hV.call hal0); have HW := Lib.hid (btrans hW0 hsz hal0); clear hX hO hV hW0 hal0 hr0
  go_enter Tryz.func119, Tryz.ntmps119
  go_upto_region 1 with (fail)
  generalize hW : (w.alloc (.cells #[.int .i64 op, .int .i64 0, .string ⟨#[]⟩, .slice aa vals.length ac] 116)).alloc (.cells #[.int .i64 0, .int .i64 0, .string ⟨#[]⟩] 52) = v0 at HG HRB HE HX HO HV HW ⊢
  clear hW
  obtain ⟨e0, e1, e2, e3⟩ := HE.out.c4
  have HZ := Lib.hid (own_nil v0 (w.heap.size + 2) 52 3)
  go_wp2
  go_loopw [7, 40] (fun v i wr => ∃ (k : Nat) (A : List Vl), k ≤ vals.length ∧ i = .int .i64 k ∧ A.length = k ∧ Hid (A = vals.take k) ∧ Hid (Bx mb #[.slice sa M.length sc, .bool al, .slice ra rd.length rc, .slice wa wri.length wc, .map (some vm), .map (some om), .int .i64 0, .int .i64 0, .slice none 0 0, .slice none 0 0, .slice none 0 0, .slice none 0 0, .string ⟨#[]⟩, .int .i64 0] 143 wr) ∧ Hid (Mp om [] wr) ∧ Hid (Mp vm V wr) ∧ Hid (Bx w.heap.size #[.int .i64 op, .int .i64 0, .string ⟨#[]⟩, .slice aa vals.length ac] 116 wr) ∧ Hid (Bx (w.heap.size + 1) #[.int .i64 0, .int .i64 0, .string ⟨#[]⟩] 52 wr) ∧ Hid (w.grownBy wr (some mb)) ∧ Hid (wr.ownsRow (w.heap.size + 2) 52 3 v A.length (vlLs A)) ∧ Below W0.heap.size W0 wr) (fun _ i _ => vals.length - (intOf i).toNat)
  case atStart => exact ⟨0, [], Nat.zero_le _, by first | exact True.intro | rfl, rfl, Lib.hid rfl, HX, HO, HV, HE, HRB, HG, HZ, HW.out⟩
  case round =>
    clear e0 e1 e2 e3 HX HO HV HE HRB HG HZ HW
    obtain ⟨k, A, hk, rfl, hAk, HA, HX, HO, HV, HE, HRB, HG, HOW, hW⟩ := hrel
    have HW := Lib.hid hW; clear hW
    obtain ⟨e0, e1, e2, e3⟩ := HE.out.c4
    by_cases hlt : k < vals.length
    · have hlt' : (k : Int) < (vals.length : Int) := by omega
      have hkb : (0 : Int) ≤ (k : Int) ∧ (k : Int) < (vals.length : Int) := ⟨by omega, by omega⟩
      have hw1 : IntKind.i64.wrap ((k : Int) + 1) = (k : Int) + 1 := by rw [IntKind.wrap_i64]; omega
      have hln : k < names.length := by omega
      obtain ⟨b, off, rfl, p0, p1, p2, p3⟩ := ex_cells (HAR.out.below HW.out) hln
      obtain ⟨x, hx⟩ : ∃ x, names[k] = x := ⟨_, rfl⟩
      obtain ⟨y, hy⟩ : ∃ y, vals[k] = y := ⟨_, rfl⟩
      obtain ⟨hin, hgt⟩ := HVA.out k hln hlt
      rw [hx] at p2 hin hgt
      rw [hy] at hgt
      have HY := Lib.hid hy; clear hx hy
      have hb1 := (Below.refl wr.heap.size wr).alloc (Nat.le_refl _) (.cells #[.int .i64 3, .int .i64 0, .string (bs x), .slice none 0 0] 116)
      have HXB := Lib.hid (Bx.new wr #[.int .i64 3, .int .i64 0, .string (bs x), .slice none 0 0] 116)
      have HG := Lib.hid (HG.out.trans (grown_below hb1 _)); have HE := Lib.hid (HE.out.call hb1); have HRB := Lib.hid (HRB.out.call hb1); have HX := Lib.hid (HX.out.call hb1); have HO := Lib.hid (HO.out.call hb1); have HV := Lib.hid (HV.out.call hb1); have HOW := Lib.hid (own_below HOW.out hb1); have HW := Lib.hid (btrans HW.out HW.out.size hb1)
      clear hb1 e0 e1 e2 e3
      go_upto_region 14 with (fail)
      generalize hW : wr.alloc (.cells #[.int .i64 3, .int .i64 0, .string (bs x), .slice none 0 0] 116) = v1 at HXB HG HE HRB HX HO HV HOW HW ⊢
      clear hW p0 p1 p2 p3
      obtain ⟨x0, x1, x2, x3⟩ := HXB.out.c4
      obtain ⟨yk, yn, ys⟩ := y
      have HN := Lib.hid (show A ++ [⟨yk, yn, ys⟩] = vals.take (k + 1) by rw [HA.out, List.take_succ_eq_append_getElem hlt, HY.out])
      go_wp2_with (first | (go_at_call 119; refine (evalVar_any mb vm om sa ra wa sc rc wc M al rd wri V x _ HX.out HV.out hin).mono ?_; rw [hgt]; rintro er w2 ⟨rfl, hb2⟩; simp only [vV]; have HG := Lib.hid (HG.out.trans (grown_below hb2 _)); have HE := Lib.hid (HE.out.call hb2); have HRB := Lib.hid (HRB.out.call hb2); have HX := Lib.hid (HX.out.call hb2); have HO := Lib.hid (HO.out.call hb2); have HV := Lib.hid (HV.out.call hb2); have HOW := Lib.hid (own_below HOW.out hb2); have HW := Lib.hid (btrans HW.out HW.out.size hb2); clear hb2 x0 x1 x2 x3) | (at_builtin; refine wpList_append_val rfl _ _ rfl (w.heap.size + 2) _ A ⟨yk, yn, ys⟩ HOW.out rfl rfl (by omega) W0 W0.heap.size HW.out HRB.out.lt (by omega) ?_; intro v5 w5 hown5 hb5 hg5; have HX := Lib.hid (HX.out.grown hg5 HOW.out (by decide)); have HE := Lib.hid (HE.out.grown hg5 HOW.out (by decide)); have HRB := Lib.hid (HRB.out.kept hg5 (fun e => by have := (HOW.out.lt _ e).1; omega)); have HO := Lib.hid (HO.out.grownv hg5 HOW.out); have HV := Lib.hid (HV.out.grownv hg5 HOW.out); have HG := Lib.hid (HG.out.andThen hg5 (fun j hj => .inl (by have := (HOW.out.lt j hj).1; omega))); have HW := Lib.hid hb5; have HOW := Lib.hid hown5; clear hg5 hb5 hown5))
      go_wp2
      go_roundw
      case rel => exact ⟨k + 1, A ++ [⟨yk, yn, ys⟩], by omega, by go_num, by rw [List.length_append, hAk]; rfl, HN, HX, HO, HV, HE, HRB, HG, HOW, HW.out⟩
      case measure => simp [intOf]; omega
    · have hlt' : ¬ (k : Int) < (vals.length : Int) := by omega
      have hAv : A = vals := HA.out.trans (List.take_of_length_le (by omega))
      subst hAv
      clear HA hlt hk
      obtain ⟨la, lc, rfl⟩ := own_sl HOW.out
      have HCL := Lib.hid (own_valAt HOW.out)
      rcases A with _ | ⟨a, _ | ⟨c, _ | ⟨d, r⟩⟩⟩
      · have := HOP.out; simp at this
      rotate_right
      · simp at hvl
      · simp only [List.length_cons, List.length_nil] at HOW HCL HE e0 e1 e2 e3 hvl ⊢
        obtain ⟨lb, lo, rfl, c0, c1, c2⟩ := vl_cells HCL.out (k := 0) (by simp)
        simp only [List.getElem_cons_zero, Nat.zero_mul, Nat.add_zero] at c0 c1 c2
        have hlbw : w.heap.size + 2 ≤ lb := (HOW.out.lt lb rfl).1
        have HEE := Lib.hid (show Bx w.heap.size #[.int .i64 op, .int .i64 0, .string ⟨#[]⟩, .slice aa 1 ac] 116 wr from HE.out)
        have hsw := HRB.out.lt
        have hnl2 : names.length = 1 := hnl
        have hop1 : op = 9 ∨ op = 18 ∨ op = 20 ∨ op = 21 ∨ op = 22 ∨ op = 23 ∨ op = 24 := (HOP.out.resolve_right (by simp)).2
        have hoa := HOK.out a (by simp)
        have HU1 := Lib.hid (show uneS al rd M op a = (R, ks) from HU.out); clear HU
        rcases R with v | e | e
        · skip
          have hs0 : ((fun w' => Bx w.heap.size #[.int .i64 op, .int .i64 0, .string ⟨#[]⟩, .slice aa 1 ac] 116 w' ∧ w'.cell? ⟨lb, lo, none⟩ = some (.int .i64 a.k) ∧ w'.cell? ⟨lb, lo + 1, none⟩ = some (.int .i64 a.n) ∧ w'.cell? ⟨lb, lo + 2, none⟩ = some (.string (bs a.s)))) wr.drew := ⟨HEE.out, c0, c1, c2⟩
          have HS0 := Lib.hid hs0; clear hs0
          go_wp2_with fail
          refine wp_region_held_drew (S := (fun w' => Bx w.heap.size #[.int .i64 op, .int .i64 0, .string ⟨#[]⟩, .slice aa 1 ac] 116 w' ∧ w'.cell? ⟨lb, lo, none⟩ = some (.int .i64 a.k) ∧ w'.cell? ⟨lb, lo + 1, none⟩ = some (.int .i64 a.n) ∧ w'.cell? ⟨lb, lo + 2, none⟩ = some (.string (bs a.s)))) (by kernel_rfl) ?_ (fun hHeld => ?_)
          · exact HS0.out
          refine tkY (i := 0) (v := ?vv12) 55 ?yy12 ?_
          case yy12 => intro w hSw; (try dsimp only at hSw); go_simp; (try with_reducible rfl)
          simp only [sA, sB, sC]
          refine tkY (i := 1) (v := ?vv13) 56 ?yy13 ?_
          case yy13 => intro w hSw; (try dsimp only at hSw); go_simp; (try with_reducible rfl)
          simp only [sA, sB, sC]
          refine tkY (i := 2) (v := ?vv14) 57 ?yy14 ?_
          case yy14 =>
            intro wq hSw
            obtain ⟨hE, c0, c1, c2⟩ := id hSw
            obtain ⟨e0, e1, e2, e3⟩ := hE.c4
            clear hSw
            go_simp
            (try with_reducible rfl)
          simp only [sA, sB, sC]
          refine tkY (i := 3) (v := ?vv15) 58 ?yy15 ?_
          case yy15 => intro w hSw; (try dsimp only at hSw); go_simp; (try with_reducible rfl)
          simp only [sA, sB, sC]
          refine tkY (i := 4) (v := ?vv16) 59 ?yy16 ?_
          case yy16 => intro w hSw; (try dsimp only at hSw); go_simp; (try with_reducible rfl)
          simp only [sA, sB, sC]
          refine tkY (i := 5) (v := ?vv17) 60 ?yy17 ?_
          case yy17 =>
            intro wq hSw
            obtain ⟨hE, c0, c1, c2⟩ := id hSw
            obtain ⟨e0, e1, e2, e3⟩ := hE.c4
            clear hSw
            go_simp
            (try with_reducible rfl)
          simp only [sA, sB, sC]
          refine wpAnyH_ready (rs := [6]) (by kernel_rfl) (by simp) ?_
          refine (AllReadyH.cons rfl (fun K hK => ?_) AllReadyH.nil)
          go_simp
          (refine (unary_any mb vm om sa ra wa sc rc wc M al rd wri op a hop1 hoa.1 hoa.2.1 hoa.2.2 wr.drew W0 HX.out HO.out hmb HW.out.drew HM.out HRS.out hl1 hl2 HLD.out).mono ?_; rw [HU1.out]; rintro er u1 ⟨rfl, hg2, rv, hx2, ho2⟩; simp only [endR, vV])
          have ho2 := own_mono ho2 (show w.heap.size ≤ wr.heap.size from by omega)
          have HG2 := Lib.hid (HG.out.trans (grown_drew0 hg2)); have HX2 := Lib.hid hx2; have HO2 := Lib.hid ho2; have HR2 := Lib.hid (HRB.out.kept (grown_drew0 hg2) (by simp; omega)); have HG0 := Lib.hid hg2; clear hx2 ho2 hg2
          refine hK.out _ _ ?_ (fun hHeld => ?_)
          · exact ⟨hHeld.1.kept HG0.out (by simp; omega), HG0.out.cell hHeld.2.1 (by simp; omega), HG0.out.cell hHeld.2.2.1 (by simp; omega), HG0.out.cell hHeld.2.2.2 (by simp; omega)⟩
          clear hK K
          (try simp only [Act.put, sA, sB, sC])
          have r0 : u1.cell? ⟨(w.heap.size + 1), 0, none⟩ = some (.int .i64 0) := HR2.out.cell 0
          have r1 : u1.cell? ⟨(w.heap.size + 1), 1, none⟩ = some (.int .i64 0) := HR2.out.cell 1
          have r2 : u1.cell? ⟨(w.heap.size + 1), 2, none⟩ = some (.string ⟨#[]⟩) := HR2.out.cell 2
          have f0 := HR2.out.free 0
          have f1 := HR2.out.free 1
          have f2 := HR2.out.free 2
          have HKK := Lib.hid (show ((fun w' => Bx w.heap.size #[.int .i64 op, .int .i64 0, .string ⟨#[]⟩, .slice aa 1 ac] 116 w' ∧ w'.cell? ⟨lb, lo, none⟩ = some (.int .i64 a.k) ∧ w'.cell? ⟨lb, lo + 1, none⟩ = some (.int .i64 a.n) ∧ w'.cell? ⟨lb, lo + 2, none⟩ = some (.string (bs a.s)))) (((u1.setCell ⟨w.heap.size + 1, 0, none⟩ (.int .i64 v.k)).setCell ⟨w.heap.size + 1, 1, none⟩ (.int .i64 v.n)).setCell ⟨w.heap.size + 1, 2, none⟩ (.string (bs v.s))) from ⟨hHeld.1.sets3_ne (c := w.heap.size + 1) (by omega) (.int .i64 v.k) (.int .i64 v.n) (.string (bs v.s)), cell1_set _ (by omega) (cell1_set _ (by omega) (cell1_set _ (by omega) hHeld.2.1)), cell1_set _ (by omega) (cell1_set _ (by omega) (cell1_set _ (by omega) hHeld.2.2.1)), cell1_set _ (by omega) (cell1_set _ (by omega) (cell1_set _ (by omega) hHeld.2.2.2))⟩)
          refine wpAnyH_ready (rs := [7]) (by kernel_rfl) (by simp) ?_
          refine (AllReadyH.cons rfl (fun K hK => ?_) AllReadyH.nil)
          go_simp
          refine hK.out _ _ ?_ (fun hHeld2 => ?_)
          · exact HKK.out
          clear hK K
          (try simp only [Act.put, sA, sB, sC])
          refine wpAnyH_done (by kernel_rfl) ?_ _
          have HK := Lib.hid (HR2.out.sets3 (.int .i64 v.k) (.int .i64 v.n) (.string (bs v.s)))
          have HFIN := Lib.hid (fin_sets3 HG2.out HX2.out HR2.out (by decide) (by omega) (by omega) HO2.out (.int .i64 v.k) (.int .i64 v.n) (.string (bs v.s)))
          clear r0 r1 r2 f0 f1 f2 hHeld hHeld2 HKK HS0
          generalize hWE : ((u1.setCell ⟨w.heap.size + 1, 0, none⟩ (.int .i64 v.k)).setCell ⟨w.heap.size + 1, 1, none⟩ (.int .i64 v.n)).setCell ⟨w.heap.size + 1, 2, none⟩ (.string (bs v.s)) = WE at HK HFIN ⊢
          clear hWE
          go_wp2
          have k0 := HK.out.cell 0
          have k1 := HK.out.cell 1
          have k2 := HK.out.cell 2
          simp only [List.getElem?_toArray, List.getElem?_cons_zero, List.getElem?_cons_succ] at k0 k1 k2
          refine bodyPost_ret (v := .agg #[.int .i64 v.k, .int .i64 v.n, .string (bs v.s)]) (by simp [results, Tryz.results119, go_sem, k0, k1, k2] <;> rfl) rfl ⟨rfl, HFIN.out.1, _, HFIN.out.2.1, HFIN.out.2.2⟩
        · skip
          have hs0 : ((fun w' => Bx w.heap.size #[.int .i64 op, .int .i64 0, .string ⟨#[]⟩, .slice aa 1 ac] 116 w' ∧ w'.cell? ⟨lb, lo, none⟩ = some (.int .i64 a.k) ∧ w'.cell? ⟨lb, lo + 1, none⟩ = some (.int .i64 a.n) ∧ w'.cell? ⟨lb, lo + 2, none⟩ = some (.string (bs a.s)))) wr.drew := ⟨HEE.out, c0, c1, c2⟩
          have HS0 := Lib.hid hs0; clear hs0
          go_wp2_with fail
          refine wp_region_held_drew (S := (fun w' => Bx w.heap.size #[.int .i64 op, .int .i64 0, .string ⟨#[]⟩, .slice aa 1 ac] 116 w' ∧ w'.cell? ⟨lb, lo, none⟩ = some (.int .i64 a.k) ∧ w'.cell? ⟨lb, lo + 1, none⟩ = some (.int .i64 a.n) ∧ w'.cell? ⟨lb, lo + 2, none⟩ = some (.string (bs a.s)))) (by kernel_rfl) ?_ (fun hHeld => ?_)
          · exact HS0.out
          refine tkY (i := 0) (v := ?vv18) 55 ?yy18 ?_
          case yy18 => intro w hSw; (try dsimp only at hSw); go_simp; (try with_reducible rfl)
          simp only [sA, sB, sC]
          refine tkY (i := 1) (v := ?vv19) 56 ?yy19 ?_
          case yy19 => intro w hSw; (try dsimp only at hSw); go_simp; (try with_reducible rfl)
          simp only [sA, sB, sC]
          refine tkY (i := 2) (v := ?vv20) 57 ?yy20 ?_
          case yy20 =>
            intro wq hSw
            obtain ⟨hE, c0, c1, c2⟩ := id hSw
            obtain ⟨e0, e1, e2, e3⟩ := hE.c4
            clear hSw
            go_simp
            (try with_reducible rfl)
          simp only [sA, sB, sC]
          refine tkY (i := 3) (v := ?vv21) 58 ?yy21 ?_
          case yy21 => intro w hSw; (try dsimp only at hSw); go_simp; (try with_reducible rfl)
          simp only [sA, sB, sC]
          refine tkY (i := 4) (v := ?vv22) 59 ?yy22 ?_
          case yy22 => intro w hSw; (try dsimp only at hSw); go_simp; (try with_reducible rfl)
          simp only [sA, sB, sC]
          refine tkY (i := 5) (v := ?vv23) 60 ?yy23 ?_
          case yy23 =>
            intro wq hSw
            obtain ⟨hE, c0, c1, c2⟩ := id hSw
            obtain ⟨e0, e1, e2, e3⟩ := hE.c4
            clear hSw
            go_simp
            (try with_reducible rfl)
          simp only [sA, sB, sC]
          refine wpAnyH_ready (rs := [6]) (by kernel_rfl) (by simp) ?_
          refine (AllReadyH.cons rfl (fun K hK => ?_) AllReadyH.nil)
          go_simp
          (refine (unary_any mb vm om sa ra wa sc rc wc M al rd wri op a hop1 hoa.1 hoa.2.1 hoa.2.2 wr.drew W0 HX.out HO.out hmb HW.out.drew HM.out HRS.out hl1 hl2 HLD.out).mono ?_; rw [HU1.out]; rintro er u1 ⟨rfl, hg2, rv, hx2, ho2⟩; simp only [endR])
          have ho2 := own_mono ho2 (show w.heap.size ≤ wr.heap.size from by omega)
          have HG2 := Lib.hid (HG.out.trans (grown_drew0 hg2)); have HX2 := Lib.hid hx2; have HO2 := Lib.hid ho2; have HR2 := Lib.hid (HRB.out.kept (grown_drew0 hg2) (by simp; omega)); have HG0 := Lib.hid hg2; clear hx2 ho2 hg2
          go_wp2
          exact ⟨(by first | exact True.intro | rfl), rfl, HG2.out, _, HX2.out, HO2.out⟩
        · skip
          have hs0 : ((fun w' => Bx w.heap.size #[.int .i64 op, .int .i64 0, .string ⟨#[]⟩, .slice aa 1 ac] 116 w' ∧ w'.cell? ⟨lb, lo, none⟩ = some (.int .i64 a.k) ∧ w'.cell? ⟨lb, lo + 1, none⟩ = some (.int .i64 a.n) ∧ w'.cell? ⟨lb, lo + 2, none⟩ = some (.string (bs a.s)))) wr.drew := ⟨HEE.out, c0, c1, c2⟩
          have HS0 := Lib.hid hs0; clear hs0
          go_wp2_with fail
          refine wp_region_held_drew (S := (fun w' => Bx w.heap.size #[.int .i64 op, .int .i64 0, .string ⟨#[]⟩, .slice aa 1 ac] 116 w' ∧ w'.cell? ⟨lb, lo, none⟩ = some (.int .i64 a.k) ∧ w'.cell? ⟨lb, lo + 1, none⟩ = some (.int .i64 a.n) ∧ w'.cell? ⟨lb, lo + 2, none⟩ = some (.string (bs a.s)))) (by kernel_rfl) ?_ (fun hHeld => ?_)
          · exact HS0.out
          refine tkY (i := 0) (v := ?vv24) 55 ?yy24 ?_
          case yy24 => intro w hSw; (try dsimp only at hSw); go_simp; (try with_reducible rfl)
          simp only [sA, sB, sC]
          refine tkY (i := 1) (v := ?vv25) 56 ?yy25 ?_
          case yy25 => intro w hSw; (try dsimp only at hSw); go_simp; (try with_reducible rfl)
          simp only [sA, sB, sC]
          refine tkY (i := 2) (v := ?vv26) 57 ?yy26 ?_
          case yy26 =>
            intro wq hSw
            obtain ⟨hE, c0, c1, c2⟩ := id hSw
            obtain ⟨e0, e1, e2, e3⟩ := hE.c4
            clear hSw
            go_simp
            (try with_reducible rfl)
          simp only [sA, sB, sC]
          refine tkY (i := 3) (v := ?vv27) 58 ?yy27 ?_
          case yy27 => intro w hSw; (try dsimp only at hSw); go_simp; (try with_reducible rfl)
          simp only [sA, sB, sC]
          refine tkY (i := 4) (v := ?vv28) 59 ?yy28 ?_
          case yy28 => intro w hSw; (try dsimp only at hSw); go_simp; (try with_reducible rfl)
          simp only [sA, sB, sC]
          refine tkY (i := 5) (v := ?vv29) 60 ?yy29 ?_
          case yy29 =>
            intro wq hSw
            obtain ⟨hE, c0, c1, c2⟩ := id hSw
            obtain ⟨e0, e1, e2, e3⟩ := hE.c4
            clear hSw
            go_simp
            (try with_reducible rfl)
          simp only [sA, sB, sC]
          refine wpAnyH_ready (rs := [6]) (by kernel_rfl) (by simp) ?_
          refine (AllReadyH.cons rfl (fun K hK => ?_) AllReadyH.nil)
          go_simp
          (refine (unary_any mb vm om sa ra wa sc rc wc M al rd wri op a hop1 hoa.1 hoa.2.1 hoa.2.2 wr.drew W0 HX.out HO.out hmb HW.out.drew HM.out HRS.out hl1 hl2 HLD.out).mono ?_; rw [HU1.out]; rintro er u1 ⟨rfl, hg2, rv, hx2, ho2⟩; simp only [endR])
          have ho2 := own_mono ho2 (show w.heap.size ≤ wr.heap.size from by omega)
          have HG2 := Lib.hid (HG.out.trans (grown_drew0 hg2)); have HX2 := Lib.hid hx2; have HO2 := Lib.hid ho2; have HR2 := Lib.hid (HRB.out.kept (grown_drew0 hg2) (by simp; omega)); have HG0 := Lib.hid hg2; clear hx2 ho2 hg2
          go_wp2
          exact ⟨(by first | exact True.intro | rfl), rfl, HG2.out, _, HX2.out, HO2.out⟩
      · simp only [List.length_cons, List.length_nil] at HOW HCL HE e0 e1 e2 e3 hvl ⊢
        obtain ⟨lb, lo, rfl, c0, c1, c2⟩ := vl_cells HCL.out (k := 0) (by simp)
        simp only [List.getElem_cons_zero, Nat.zero_mul, Nat.add_zero] at c0 c1 c2
        obtain ⟨lb2, lo2, hlbe, c3, c4, c5⟩ := vl_cells HCL.out (k := 1) (by simp)
        cases hlbe
        simp only [List.getElem_cons_succ, List.getElem_cons_zero, Nat.one_mul] at c3 c4 c5
        have hlbw : w.heap.size + 2 ≤ lb := (HOW.out.lt lb rfl).1
        have HEE := Lib.hid (show Bx w.heap.size #[.int .i64 op, .int .i64 0, .string ⟨#[]⟩, .slice aa 2 ac] 116 wr from HE.out)
        have hsw := HRB.out.lt
        have hnl2 : names.length = 2 := hnl
        have hop2 : 4 ≤ op ∧ op ≤ 19 ∧ op ≠ 9 ∧ op ≠ 18 := (HOP.out.resolve_left (by simp)).2
        have hoa := HOK.out a (by simp)
        have hoc := HOK.out c (by simp)
        have hUU := pair_eq (show (binS op a c, ([] : List (List UInt8))) = (R, ks) from HU.out)
        obtain ⟨hU1, rfl⟩ := hUU
        have HU1 := Lib.hid hU1; clear HU hU1
        rcases R with v | e | e
        · skip
          have hs0 : ((fun w' => Bx w.heap.size #[.int .i64 op, .int .i64 0, .string ⟨#[]⟩, .slice aa 2 ac] 116 w' ∧ w'.cell? ⟨lb, lo, none⟩ = some (.int .i64 a.k) ∧ w'.cell? ⟨lb, lo + 1, none⟩ = some (.int .i64 a.n) ∧ w'.cell? ⟨lb, lo + 2, none⟩ = some (.string (bs a.s)) ∧ w'.cell? ⟨lb, lo + 3, none⟩ = some (.int .i64 c.k) ∧ w'.cell? ⟨lb, lo + 3 + 1, none⟩ = some (.int .i64 c.n) ∧ w'.cell? ⟨lb, lo + 3 + 2, none⟩ = some (.string (bs c.s)))) wr.drew := ⟨HEE.out, c0, c1, c2, c3, c4, c5⟩
          have HS0 := Lib.hid hs0; clear hs0
          go_wp2_with fail
          refine wp_region_held_drew (S := (fun w' => Bx w.heap.size #[.int .i64 op, .int .i64 0, .string ⟨#[]⟩, .slice aa 2 ac] 116 w' ∧ w'.cell? ⟨lb, lo, none⟩ = some (.int .i64 a.k) ∧ w'.cell? ⟨lb, lo + 1, none⟩ = some (.int .i64 a.n) ∧ w'.cell? ⟨lb, lo + 2, none⟩ = some (.string (bs a.s)) ∧ w'.cell? ⟨lb, lo + 3, none⟩ = some (.int .i64 c.k) ∧ w'.cell? ⟨lb, lo + 3 + 1, none⟩ = some (.int .i64 c.n) ∧ w'.cell? ⟨lb, lo + 3 + 2, none⟩ = some (.string (bs c.s)))) (by kernel_rfl) ?_ (fun hHeld => ?_)
          · exact HS0.out
          refine tkY (i := 0) (v := ?vv30) 64 ?yy30 ?_
          case yy30 => intro w hSw; (try dsimp only at hSw); go_simp; (try with_reducible rfl)
          simp only [sA, sB, sC]
          refine tkY (i := 1) (v := ?vv31) 65 ?yy31 ?_
          case yy31 =>
            intro wq hSw
            obtain ⟨hE, c0, c1, c2, c3, c4, c5⟩ := id hSw
            obtain ⟨e0, e1, e2, e3⟩ := hE.c4
            clear hSw
            go_simp
            (try with_reducible rfl)
          simp only [sA, sB, sC]
          refine tkY (i := 2) (v := ?vv32) 66 ?yy32 ?_
          case yy32 => intro w hSw; (try dsimp only at hSw); go_simp; (try with_reducible rfl)
          simp only [sA, sB, sC]
          refine tkY (i := 3) (v := ?vv33) 67 ?yy33 ?_
          case yy33 => intro w hSw; (try dsimp only at hSw); go_simp; (try with_reducible rfl)
          simp only [sA, sB, sC]
          refine tkY (i := 4) (v := ?vv34) 68 ?yy34 ?_
          case yy34 =>
            intro wq hSw
            obtain ⟨hE, c0, c1, c2, c3, c4, c5⟩ := id hSw
            obtain ⟨e0, e1, e2, e3⟩ := hE.c4
            clear hSw
            go_simp
            (try with_reducible rfl)
          simp only [sA, sB, sC]
          refine tkY (i := 5) (v := ?vv35) 69 ?yy35 ?_
          case yy35 => intro w hSw; (try dsimp only at hSw); go_simp; (try with_reducible rfl)
          simp only [sA, sB, sC]
          refine tkY (i := 6) (v := ?vv36) 70 ?yy36 ?_
          case yy36 => intro w hSw; (try dsimp only at hSw); go_simp; (try with_reducible rfl)
          simp only [sA, sB, sC]
          refine tkY (i := 7) (v := ?vv37) 71 ?yy37 ?_
          case yy37 =>
            intro wq hSw
            obtain ⟨hE, c0, c1, c2, c3, c4, c5⟩ := id hSw
            obtain ⟨e0, e1, e2, e3⟩ := hE.c4
            clear hSw
            go_simp
            (try with_reducible rfl)
          simp only [sA, sB, sC]
          refine wpAnyH_ready (rs := [8]) (by kernel_rfl) (by simp) ?_
          refine (AllReadyH.cons rfl (fun K hK => ?_) AllReadyH.nil)
          go_simp
          (refine (ibinary_any op a c wr.drew hop2.1 hop2.2.1 hop2.2.2.1 hop2.2.2.2 hoa.1 hoa.2.1 hoc.1 hoc.2.1 hoa.2.2 hoc.2.2).mono ?_; rw [HU1.out]; rintro er u1 ⟨rfl, hbb⟩; simp only [endR, vV])
          have hg2 : wr.drew.grownBy u1 (some mb) := grown_below hbb _
          have hx2 := HX.out.call (show Below wr.heap.size wr u1 from ⟨hbb.os, hbb.tape, hbb.output, hbb.size, hbb.block⟩)
          have ho2 := own_nil u1 w.heap.size 9 1
          clear hbb
          have HG2 := Lib.hid (HG.out.trans (grown_drew0 hg2)); have HX2 := Lib.hid hx2; have HO2 := Lib.hid ho2; have HR2 := Lib.hid (HRB.out.kept (grown_drew0 hg2) (by simp; omega)); have HG0 := Lib.hid hg2; clear hx2 ho2 hg2
          refine hK.out _ _ ?_ (fun hHeld => ?_)
          · exact ⟨hHeld.1.kept HG0.out (by simp; omega), HG0.out.cell hHeld.2.1 (by simp; omega), HG0.out.cell hHeld.2.2.1 (by simp; omega), HG0.out.cell hHeld.2.2.2.1 (by simp; omega), HG0.out.cell hHeld.2.2.2.2.1 (by simp; omega), HG0.out.cell hHeld.2.2.2.2.2.1 (by simp; omega), HG0.out.cell hHeld.2.2.2.2.2.2 (by simp; omega)⟩
          clear hK K
          (try simp only [Act.put, sA, sB, sC])
          have r0 : u1.cell? ⟨(w.heap.size + 1), 0, none⟩ = some (.int .i64 0) := HR2.out.cell 0
          have r1 : u1.cell? ⟨(w.heap.size + 1), 1, none⟩ = some (.int .i64 0) := HR2.out.cell 1
          have r2 : u1.cell? ⟨(w.heap.size + 1), 2, none⟩ = some (.string ⟨#[]⟩) := HR2.out.cell 2
          have f0 := HR2.out.free 0
          have f1 := HR2.out.free 1
          have f2 := HR2.out.free 2
          have HKK := Lib.hid (show ((fun w' => Bx w.heap.size #[.int .i64 op, .int .i64 0, .string ⟨#[]⟩, .slice aa 2 ac] 116 w' ∧ w'.cell? ⟨lb, lo, none⟩ = some (.int .i64 a.k) ∧ w'.cell? ⟨lb, lo + 1, none⟩ = some (.int .i64 a.n) ∧ w'.cell? ⟨lb, lo + 2, none⟩ = some (.string (bs a.s)) ∧ w'.cell? ⟨lb, lo + 3, none⟩ = some (.int .i64 c.k) ∧ w'.cell? ⟨lb, lo + 3 + 1, none⟩ = some (.int .i64 c.n) ∧ w'.cell? ⟨lb, lo + 3 + 2, none⟩ = some (.string (bs c.s)))) (((u1.setCell ⟨w.heap.size + 1, 0, none⟩ (.int .i64 v.k)).setCell ⟨w.heap.size + 1, 1, none⟩ (.int .i64 v.n)).setCell ⟨w.heap.size + 1, 2, none⟩ (.string (bs v.s))) from ⟨hHeld.1.sets3_ne (c := w.heap.size + 1) (by omega) (.int .i64 v.k) (.int .i64 v.n) (.string (bs v.s)), cell1_set _ (by omega) (cell1_set _ (by omega) (cell1_set _ (by omega) hHeld.2.1)), cell1_set _ (by omega) (cell1_set _ (by omega) (cell1_set _ (by omega) hHeld.2.2.1)), cell1_set _ (by omega) (cell1_set _ (by omega) (cell1_set _ (by omega) hHeld.2.2.2.1)), cell1_set _ (by omega) (cell1_set _ (by omega) (cell1_set _ (by omega) hHeld.2.2.2.2.1)), cell1_set _ (by omega) (cell1_set _ (by omega) (cell1_set _ (by omega) hHeld.2.2.2.2.2.1)), cell1_set _ (by omega) (cell1_set _ (by omega) (cell1_set _ (by omega) hHeld.2.2.2.2.2.2))⟩)
          refine wpAnyH_ready (rs := [9]) (by kernel_rfl) (by simp) ?_
          refine (AllReadyH.cons rfl (fun K hK => ?_) AllReadyH.nil)
          go_simp
          refine hK.out _ _ ?_ (fun hHeld2 => ?_)
          · exact HKK.out
          clear hK K
          (try simp only [Act.put, sA, sB, sC])
          refine wpAnyH_done (by kernel_rfl) ?_ _
          have HK := Lib.hid (HR2.out.sets3 (.int .i64 v.k) (.int .i64 v.n) (.string (bs v.s)))
          have HFIN := Lib.hid (fin_sets3 HG2.out HX2.out HR2.out (by decide) (by omega) (by omega) HO2.out (.int .i64 v.k) (.int .i64 v.n) (.string (bs v.s)))
          clear r0 r1 r2 f0 f1 f2 hHeld hHeld2 HKK HS0
          generalize hWE : ((u1.setCell ⟨w.heap.size + 1, 0, none⟩ (.int .i64 v.k)).setCell ⟨w.heap.size + 1, 1, none⟩ (.int .i64 v.n)).setCell ⟨w.heap.size + 1, 2, none⟩ (.string (bs v.s)) = WE at HK HFIN ⊢
          clear hWE
          go_wp2
          have k0 := HK.out.cell 0
          have k1 := HK.out.cell 1
          have k2 := HK.out.cell 2
          simp only [List.getElem?_toArray, List.getElem?_cons_zero, List.getElem?_cons_succ] at k0 k1 k2
          refine bodyPost_ret (v := .agg #[.int .i64 v.k, .int .i64 v.n, .string (bs v.s)]) (by simp [results, Tryz.results119, go_sem, k0, k1, k2] <;> rfl) rfl ⟨rfl, HFIN.out.1, _, HFIN.out.2.1, HFIN.out.2.2⟩
        · skip
          have hs0 : ((fun w' => Bx w.heap.size #[.int .i64 op, .int .i64 0, .string ⟨#[]⟩, .slice aa 2 ac] 116 w' ∧ w'.cell? ⟨lb, lo, none⟩ = some (.int .i64 a.k) ∧ w'.cell? ⟨lb, lo + 1, none⟩ = some (.int .i64 a.n) ∧ w'.cell? ⟨lb, lo + 2, none⟩ = some (.string (bs a.s)) ∧ w'.cell? ⟨lb, lo + 3, none⟩ = some (.int .i64 c.k) ∧ w'.cell? ⟨lb, lo + 3 + 1, none⟩ = some (.int .i64 c.n) ∧ w'.cell? ⟨lb, lo + 3 + 2, none⟩ = some (.string (bs c.s)))) wr.drew := ⟨HEE.out, c0, c1, c2, c3, c4, c5⟩
          have HS0 := Lib.hid hs0; clear hs0
          go_wp2_with fail
          refine wp_region_held_drew (S := (fun w' => Bx w.heap.size #[.int .i64 op, .int .i64 0, .string ⟨#[]⟩, .slice aa 2 ac] 116 w' ∧ w'.cell? ⟨lb, lo, none⟩ = some (.int .i64 a.k) ∧ w'.cell? ⟨lb, lo + 1, none⟩ = some (.int .i64 a.n) ∧ w'.cell? ⟨lb, lo + 2, none⟩ = some (.string (bs a.s)) ∧ w'.cell? ⟨lb, lo + 3, none⟩ = some (.int .i64 c.k) ∧ w'.cell? ⟨lb, lo + 3 + 1, none⟩ = some (.int .i64 c.n) ∧ w'.cell? ⟨lb, lo + 3 + 2, none⟩ = some (.string (bs c.s)))) (by kernel_rfl) ?_ (fun hHeld => ?_)
          · exact HS0.out
          refine tkY (i := 0) (v := ?vv38) 64 ?yy38 ?_
          case yy38 => intro w hSw; (try dsimp only at hSw); go_simp; (try with_reducible rfl)
          simp only [sA, sB, sC]
          refine tkY (i := 1) (v := ?vv39) 65 ?yy39 ?_
          case yy39 =>
            intro wq hSw
            obtain ⟨hE, c0, c1, c2, c3, c4, c5⟩ := id hSw
            obtain ⟨e0, e1, e2, e3⟩ := hE.c4
            clear hSw
            go_simp
            (try with_reducible rfl)
          simp only [sA, sB, sC]
          refine tkY (i := 2) (v := ?vv40) 66 ?yy40 ?_
          case yy40 => intro w hSw; (try dsimp only at hSw); go_simp; (try with_reducible rfl)
          simp only [sA, sB, sC]
          refine tkY (i := 3) (v := ?vv41) 67 ?yy41 ?_
          case yy41 => intro w hSw; (try dsimp only at hSw); go_simp; (try with_reducible rfl)
          simp only [sA, sB, sC]
          refine tkY (i := 4) (v := ?vv42) 68 ?yy42 ?_
          case yy42 =>
            intro wq hSw
            obtain ⟨hE, c0, c1, c2, c3, c4, c5⟩ := id hSw
            obtain ⟨e0, e1, e2, e3⟩ := hE.c4
            clear hSw
            go_simp
            (try with_reducible rfl)
          simp only [sA, sB, sC]
          refine tkY (i := 5) (v := ?vv43) 69 ?yy43 ?_
          case yy43 => intro w hSw; (try dsimp only at hSw); go_simp; (try with_reducible rfl)
          simp only [sA, sB, sC]
          refine tkY (i := 6) (v := ?vv44) 70 ?yy44 ?_
          case yy44 => intro w hSw; (try dsimp only at hSw); go_simp; (try with_reducible rfl)
          simp only [sA, sB, sC]
          refine tkY (i := 7) (v := ?vv45) 71 ?yy45 ?_
          case yy45 =>
            intro wq hSw
            obtain ⟨hE, c0, c1, c2, c3, c4, c5⟩ := id hSw
            obtain ⟨e0, e1, e2, e3⟩ := hE.c4
            clear hSw
            go_simp
            (try with_reducible rfl)
          simp only [sA, sB, sC]
          refine wpAnyH_ready (rs := [8]) (by kernel_rfl) (by simp) ?_
          refine (AllReadyH.cons rfl (fun K hK => ?_) AllReadyH.nil)
          go_simp
          (refine (ibinary_any op a c wr.drew hop2.1 hop2.2.1 hop2.2.2.1 hop2.2.2.2 hoa.1 hoa.2.1 hoc.1 hoc.2.1 hoa.2.2 hoc.2.2).mono ?_; rw [HU1.out]; rintro er u1 ⟨rfl, hbb⟩; simp only [endR])
          have hg2 : wr.drew.grownBy u1 (some mb) := grown_below hbb _
          have hx2 := HX.out.call (show Below wr.heap.size wr u1 from ⟨hbb.os, hbb.tape, hbb.output, hbb.size, hbb.block⟩)
          have ho2 := own_nil u1 w.heap.size 9 1
          clear hbb
          have HG2 := Lib.hid (HG.out.trans (grown_drew0 hg2)); have HX2 := Lib.hid hx2; have HO2 := Lib.hid ho2; have HR2 := Lib.hid (HRB.out.kept (grown_drew0 hg2) (by simp; omega)); have HG0 := Lib.hid hg2; clear hx2 ho2 hg2
          go_wp2
          exact ⟨(by first | exact True.intro | rfl), rfl, HG2.out, _, HX2.out, HO2.out⟩
        · skip
          have hs0 : ((fun w' => Bx w.heap.size #[.int .i64 op, .int .i64 0, .string ⟨#[]⟩, .slice aa 2 ac] 116 w' ∧ w'.cell? ⟨lb, lo, none⟩ = some (.int .i64 a.k) ∧ w'.cell? ⟨lb, lo + 1, none⟩ = some (.int .i64 a.n) ∧ w'.cell? ⟨lb, lo + 2, none⟩ = some (.string (bs a.s)) ∧ w'.cell? ⟨lb, lo + 3, none⟩ = some (.int .i64 c.k) ∧ w'.cell? ⟨lb, lo + 3 + 1, none⟩ = some (.int .i64 c.n) ∧ w'.cell? ⟨lb, lo + 3 + 2, none⟩ = some (.string (bs c.s)))) wr.drew := ⟨HEE.out, c0, c1, c2, c3, c4, c5⟩
          have HS0 := Lib.hid hs0; clear hs0
          go_wp2_with fail
          refine wp_region_held_drew (S := (fun w' => Bx w.heap.size #[.int .i64 op, .int .i64 0, .string ⟨#[]⟩, .slice aa 2 ac] 116 w' ∧ w'.cell? ⟨lb, lo, none⟩ = some (.int .i64 a.k) ∧ w'.cell? ⟨lb, lo + 1, none⟩ = some (.int .i64 a.n) ∧ w'.cell? ⟨lb, lo + 2, none⟩ = some (.string (bs a.s)) ∧ w'.cell? ⟨lb, lo + 3, none⟩ = some (.int .i64 c.k) ∧ w'.cell? ⟨lb, lo + 3 + 1, none⟩ = some (.int .i64 c.n) ∧ w'.cell? ⟨lb, lo + 3 + 2, none⟩ = some (.string (bs c.s)))) (by kernel_rfl) ?_ (fun hHeld => ?_)
          · exact HS0.out
          refine tkY (i := 0) (v := ?vv46) 64 ?yy46 ?_
          case yy46 => intro w hSw; (try dsimp only at hSw); go_simp; (try with_reducible rfl)
          simp only [sA, sB, sC]
          refine tkY (i := 1) (v := ?vv47) 65 ?yy47 ?_
          case yy47 =>
            intro wq hSw
            obtain ⟨hE, c0, c1, c2, c3, c4, c5⟩ := id hSw
            obtain ⟨e0, e1, e2, e3⟩ := hE.c4
            clear hSw
            go_simp
            (try with_reducible rfl)
          simp only [sA, sB, sC]
          refine tkY (i := 2) (v := ?vv48) 66 ?yy48 ?_
          case yy48 => intro w hSw; (try dsimp only at hSw); go_simp; (try with_reducible rfl)
          simp only [sA, sB, sC]
          refine tkY (i := 3) (v := ?vv49) 67 ?yy49 ?_
          case yy49 => intro w hSw; (try dsimp only at hSw); go_simp; (try with_reducible rfl)
          simp only [sA, sB, sC]
          refine tkY (i := 4) (v := ?vv50) 68 ?yy50 ?_
          case yy50 =>
            intro wq hSw
            obtain ⟨hE, c0, c1, c2, c3, c4, c5⟩ := id hSw
            obtain ⟨e0, e1, e2, e3⟩ := hE.c4
            clear hSw
            go_simp
            (try with_reducible rfl)
          simp only [sA, sB, sC]
          refine tkY (i := 5) (v := ?vv51) 69 ?yy51 ?_
          case yy51 => intro w hSw; (try dsimp only at hSw); go_simp; (try with_reducible rfl)
          simp only [sA, sB, sC]
          refine tkY (i := 6) (v := ?vv52) 70 ?yy52 ?_
          case yy52 => intro w hSw; (try dsimp only at hSw); go_simp; (try with_reducible rfl)
          simp only [sA, sB, sC]
          refine tkY (i := 7) (v := ?vv53) 71 ?yy53 ?_
          case yy53 =>
            intro wq hSw
            obtain ⟨hE, c0, c1, c2, c3, c4, c5⟩ := id hSw
            obtain ⟨e0, e1, e2, e3⟩ := hE.c4
            clear hSw
            go_simp
            (try with_reducible rfl)
          simp only [sA, sB, sC]
          refine wpAnyH_ready (rs := [8]) (by kernel_rfl) (by simp) ?_
          refine (AllReadyH.cons rfl (fun K hK => ?_) AllReadyH.nil)
          go_simp
          (refine (ibinary_any op a c wr.drew hop2.1 hop2.2.1 hop2.2.2.1 hop2.2.2.2 hoa.1 hoa.2.1 hoc.1 hoc.2.1 hoa.2.2 hoc.2.2).mono ?_; rw [HU1.out]; rintro er u1 ⟨rfl, hbb⟩; simp only [endR])
          have hg2 : wr.drew.grownBy u1 (some mb) := grown_below hbb _
          have hx2 := HX.out.call (show Below wr.heap.size wr u1 from ⟨hbb.os, hbb.tape, hbb.output, hbb.size, hbb.block⟩)
          have ho2 := own_nil u1 w.heap.size 9 1
          clear hbb
          have HG2 := Lib.hid (HG.out.trans (grown_drew0 hg2)); have HX2 := Lib.hid hx2; have HO2 := Lib.hid ho2; have HR2 := Lib.hid (HRB.out.kept (grown_drew0 hg2) (by simp; omega)); have HG0 := Lib.hid hg2; clear hx2 ho2 hg2
          go_wp2
          exact ⟨(by first | exact True.intro | rfl), rfl, HG2.out, _, HX2.out, HO2.out⟩
end Go.Proofs.YtnglaegofhpleaaGreatDoor
namespace Go.Proofs.YtnglaegofhpleaaGreatDoor
open Go.RowKit

set_option maxRecDepth 100000 in
set_option maxHeartbeats 8000000 in
theorem nodeVar_any (x : List UInt8) (hx : isNm x = true) (hlx : x.length ≤ 1000000) (d : Int) (hd : d ≤ 12) (w : World) :
    Calls Tryz.prog 155 #[.agg #[.int .i64 3, .int .i64 0, .string (bs x), .slice none 0 0], .int .i64 d] w fun e w' => e = .returned (.int .i64 0) ∧ Below w.heap.size w w' := by
  have td : ¬ (12 < d) := by omega
  have hal := (Below.refl w.heap.size w).alloc (Nat.le_refl _) (.cells #[.int .i64 3, .int .i64 0, .string (bs x), .slice none 0 0] 116)
  have HX := Lib.hid (Bx.new w #[.int .i64 3, .int .i64 0, .string (bs x), .slice none 0 0] 116)
  have HB := Lib.hid hal; clear hal
  go_enter Tryz.func155, Tryz.ntmps155
  go_upto_region 1 with (fail)
  generalize hW : w.alloc (.cells #[.int .i64 3, .int .i64 0, .string (bs x), .slice none 0 0] 116) = v0 at HX HB ⊢
  clear hW
  obtain ⟨e0, e1, e2, e3⟩ := HX.out.c4
  go_wp2_with fail
  refine (Arity_any 3 _).mono ?_
  rw [show arS 3 = 0 from rfl]
  rintro er w1 ⟨rfl, rfl⟩
  go_wp2_with fail
  refine (IsName_any x hlx _).mono ?_
  rw [hx]
  rintro er w1 ⟨rfl, hb1⟩
  clear e0 e1 e2 e3
  have HX := Lib.hid (HX.out.call hb1); have HB := Lib.hid (btrans HB.out HB.out.size hb1); clear hb1
  obtain ⟨e0, e1, e2, e3⟩ := HX.out.c4
  go_wp2
  go_ret
  exact ⟨rfl, HB.out⟩
set_option maxRecDepth 100000 in
set_option maxHeartbeats 8000000 in
theorem nodeOp_any (op : Int) (n : Nat) (aa : Option Addr) (ac : Nat) (h4 : 4 ≤ op) (hn : arS op = (n : Int)) (w : World) :
    Calls Tryz.prog 155 #[.agg #[.int .i64 op, .int .i64 0, .string ⟨#[]⟩, .slice aa n ac], .int .i64 1] w fun e w' => e = .returned (.int .i64 0) ∧ Below w.heap.size w w' := by
  have q1 : (op == 1) = false := by rw [beq_eq_false_iff_ne]; omega
  have q2 : (op == 2) = false := by rw [beq_eq_false_iff_ne]; omega
  have q3 : (op == 3) = false := by rw [beq_eq_false_iff_ne]; omega
  have p1 : (op != 1) = true := by rw [bne_iff_ne]; omega
  have p2 : (op != 2) = true := by rw [bne_iff_ne]; omega
  have p3 : (op != 3) = true := by rw [bne_iff_ne]; omega
  have hal := (Below.refl w.heap.size w).alloc (Nat.le_refl _) (.cells #[.int .i64 op, .int .i64 0, .string ⟨#[]⟩, .slice aa n ac] 116)
  have HX := Lib.hid (Bx.new w #[.int .i64 op, .int .i64 0, .string ⟨#[]⟩, .slice aa n ac] 116)
  have HB := Lib.hid hal; clear hal
  go_enter Tryz.func155, Tryz.ntmps155
  go_upto_region 1 with (fail)
  generalize hW : w.alloc (.cells #[.int .i64 op, .int .i64 0, .string ⟨#[]⟩, .slice aa n ac] 116) = v0 at HX HB ⊢
  clear hW
  obtain ⟨e0, e1, e2, e3⟩ := HX.out.c4
  go_wp2_with fail
  refine (Arity_any op _).mono ?_
  rw [hn]
  rintro er w1 ⟨rfl, rfl⟩
  go_wp2
  go_ret
  exact ⟨rfl, HB.out⟩
set_option maxRecDepth 100000 in
set_option maxHeartbeats 8000000 in
theorem checkVar_any (x : List UInt8) (hx : isNm x = true) (hlx : x.length ≤ 1000000) (d : Int) (hd : d ≤ 12) (w : World) :
    Calls Tryz.prog 132 #[.agg #[.int .i64 3, .int .i64 0, .string (bs x), .slice none 0 0], .int .i64 d] w fun e w' => e = .returned (.int .i64 0) ∧ Below w.heap.size w w' := by
  have hal := (Below.refl w.heap.size w).alloc (Nat.le_refl _) (.cells #[.int .i64 3, .int .i64 0, .string (bs x), .slice none 0 0] 116)
  have HX := Lib.hid (Bx.new w #[.int .i64 3, .int .i64 0, .string (bs x), .slice none 0 0] 116)
  have HB := Lib.hid hal; clear hal
  go_enter Tryz.func132, Tryz.ntmps132
  go_upto_region 1 with (fail)
  generalize hW : w.alloc (.cells #[.int .i64 3, .int .i64 0, .string (bs x), .slice none 0 0] 116) = v0 at HX HB ⊢
  clear hW
  obtain ⟨e0, e1, e2, e3⟩ := HX.out.c4
  go_wp2_with fail
  refine (nodeVar_any x hx hlx d hd _).mono ?_
  rintro er w1 ⟨rfl, hb1⟩
  clear e0 e1 e2 e3
  have HX := Lib.hid (HX.out.call hb1); have HB := Lib.hid (btrans HB.out HB.out.size hb1); clear hb1
  obtain ⟨e0, e1, e2, e3⟩ := HX.out.c4
  go_wp2
  go_loopw [4, 18] (fun v i wr => i = .int .i64 0 ∧ Below w.heap.size w wr) (fun _ i _ => 0)
  case atStart => exact ⟨rfl, HB.out⟩
  case round =>
    obtain ⟨rfl, hb⟩ := hrel
    have HB := Lib.hid hb; clear hb HX e0 e1 e2 e3
    go_wp2
    go_ret
    exact ⟨rfl, HB.out⟩
set_option maxRecDepth 100000 in
set_option maxHeartbeats 16000000 in
theorem checkOp_any (op : Int) (n : Nat) (aa : Option Addr) (ac : Nat) (names : List (List UInt8)) (h4 : 4 ≤ op) (hn : arS op = (n : Int)) (hnl : names.length = n) (hnb : n ≤ 2) (hnm : ∀ x ∈ names, isNm x = true ∧ x.length ≤ 1000000) (w : World) (hA : CellsAt w (.slice aa n ac) n (exLs names)) :
    Calls Tryz.prog 132 #[.agg #[.int .i64 op, .int .i64 0, .string ⟨#[]⟩, .slice aa n ac], .int .i64 1] w fun e w' => e = .returned (.int .i64 0) ∧ Below w.heap.size w w' := by
  have HA := Lib.hid hA; have HNM := Lib.hid hnm; have HN := Lib.hid hn; clear hA hnm hn
  have hal := (Below.refl w.heap.size w).alloc (Nat.le_refl _) (.cells #[.int .i64 op, .int .i64 0, .string ⟨#[]⟩, .slice aa n ac] 116)
  have HX := Lib.hid (Bx.new w #[.int .i64 op, .int .i64 0, .string ⟨#[]⟩, .slice aa n ac] 116)
  have HB := Lib.hid hal; clear hal
  go_enter Tryz.func132, Tryz.ntmps132
  go_upto_region 1 with (fail)
  generalize hW : w.alloc (.cells #[.int .i64 op, .int .i64 0, .string ⟨#[]⟩, .slice aa n ac] 116) = v0 at HX HB ⊢
  clear hW
  obtain ⟨e0, e1, e2, e3⟩ := HX.out.c4
  go_wp2_with fail
  refine (nodeOp_any op n aa ac h4 HN.out _).mono ?_
  rintro er w1 ⟨rfl, hb1⟩
  clear e0 e1 e2 e3
  have HX := Lib.hid (HX.out.call hb1); have HB := Lib.hid (btrans HB.out HB.out.size hb1); clear hb1
  obtain ⟨e0, e1, e2, e3⟩ := HX.out.c4
  clear e0 e1 e2 e3
  obtain ⟨e0, e1, e2, e3⟩ := HX.out.c4
  go_wp2
  go_loopw [4, 18] (fun v i wr => ∃ k : Nat, k ≤ n ∧ i = .int .i64 k ∧ Below w.heap.size w wr) (fun _ i _ => n - (intOf i).toNat)
  case atStart => exact ⟨0, Nat.zero_le _, rfl, HB.out⟩
  case round =>
    clear e0 e1 e2 e3
    obtain ⟨k, hk, rfl, hb⟩ := hrel
    have HB := Lib.hid hb; clear hb HX
    by_cases hlt : k < n
    · have hlt' : (k : Int) < (n : Int) := by omega
      have hkb : (0 : Int) ≤ (k : Int) ∧ (k : Int) < (n : Int) := ⟨by omega, by omega⟩
      have hw1 : IntKind.i64.wrap ((k : Int) + 1) = (k : Int) + 1 := by rw [IntKind.wrap_i64]; omega
      have hln : k < names.length := by omega
      obtain ⟨b, off, rfl, p0, p1, p2, p3⟩ := ex_cells (HA.out.below HB.out) hln
      obtain ⟨x, hx⟩ : ∃ x, names[k] = x := ⟨_, rfl⟩
      have hxn := HNM.out x (hx ▸ List.getElem_mem _)
      have HXN := Lib.hid hxn; clear hxn
      rw [hx] at p2
      clear hx
      have hb1 := (Below.refl wr.heap.size wr).alloc (Nat.le_refl _) (.cells #[.int .i64 3, .int .i64 0, .string (bs x), .slice none 0 0] 116)
      have HXB := Lib.hid (Bx.new wr #[.int .i64 3, .int .i64 0, .string (bs x), .slice none 0 0] 116)
      have HB := Lib.hid (btrans HB.out HB.out.size hb1); clear hb1
      go_upto_region 7 with (fail)
      generalize hW : wr.alloc (.cells #[.int .i64 3, .int .i64 0, .string (bs x), .slice none 0 0] 116) = v1 at HXB HB ⊢
      clear hW p0 p1 p2 p3
      obtain ⟨x0, x1, x2, x3⟩ := HXB.out.c4
      go_wp2_with fail
      refine (checkVar_any x HXN.out.1 HXN.out.2 2 (by decide) _).mono ?_
      rintro er w2 ⟨rfl, hb2⟩
      have HB := Lib.hid (btrans HB.out HB.out.size hb2); clear hb2 x0 x1 x2 x3
      go_wp2
      go_roundw
      case rel => exact ⟨k + 1, by omega, by go_num, HB.out⟩
      case measure => simp [intOf]; omega
    · have hlt' : ¬ (k : Int) < (n : Int) := by omega
      go_wp2
      go_ret
      exact ⟨rfl, HB.out⟩
set_option maxRecDepth 100000 in
set_option maxHeartbeats 8000000 in
theorem ValidExpr_any (op : Int) (n : Nat) (aa : Option Addr) (ac : Nat) (names : List (List UInt8)) (h4 : 4 ≤ op) (hn : arS op = (n : Int)) (hnl : names.length = n) (hnb : n ≤ 2) (hnm : ∀ x ∈ names, isNm x = true ∧ x.length ≤ 1000000) (w : World) (hA : CellsAt w (.slice aa n ac) n (exLs names)) :
    Calls Tryz.prog 112 #[.agg #[.int .i64 op, .int .i64 0, .string ⟨#[]⟩, .slice aa n ac]] w fun e w' => e = .returned (.int .i64 0) ∧ Below w.heap.size w w' := by
  have hal := (Below.refl w.heap.size w).alloc (Nat.le_refl _) (.cells #[.int .i64 op, .int .i64 0, .string ⟨#[]⟩, .slice aa n ac] 116)
  have HA := Lib.hid (hA.below hal); have HNM := Lib.hid hnm; have HN := Lib.hid hn; clear hA hnm hn
  have HX := Lib.hid (Bx.new w #[.int .i64 op, .int .i64 0, .string ⟨#[]⟩, .slice aa n ac] 116)
  have HB := Lib.hid hal; clear hal
  go_enter Tryz.func112, Tryz.ntmps112
  go_upto_region 1 with (fail)
  generalize hW : w.alloc (.cells #[.int .i64 op, .int .i64 0, .string ⟨#[]⟩, .slice aa n ac] 116) = v0 at HX HB HA ⊢
  clear hW
  obtain ⟨e0, e1, e2, e3⟩ := HX.out.c4
  go_wp2_with fail
  refine (checkOp_any op n aa ac names h4 HN.out hnl hnb HNM.out _ HA.out).mono ?_
  rintro er w1 ⟨rfl, hb1⟩
  have HB := Lib.hid (btrans HB.out HB.out.size hb1); clear hb1 e0 e1 e2 e3 HX
  go_wp2
  go_ret
  exact ⟨rfl, HB.out⟩
end Go.Proofs.YtnglaegofhpleaaGreatDoor
namespace Go.Proofs.YtnglaegofhpleaaGreatDoor
open Go.RowKit


set_option maxRecDepth 100000 in
set_option maxHeartbeats 8000000 in
theorem evalC_any (tb eb vb : Nat) (mb vm om : Nat) (sa ra wa : Option Addr) (sc rc wc : Nat) (M : List Pr) (al : Bool) (rd wri : List (List UInt8)) (op : Int) (aa : Option Addr) (ac : Nat) (V : List Pr) (names : List (List UInt8)) (vals : List Vl) (hop : (vals.length = 1 ∧ (op = 9 ∨ op = 18 ∨ op = 20 ∨ op = 21 ∨ op = 22 ∨ op = 23 ∨ op = 24)) ∨ (vals.length = 2 ∧ 4 ≤ op ∧ op ≤ 19 ∧ op ≠ 9 ∧ op ≠ 18)) (hva : VarsAre V names vals) (hok : ∀ v ∈ vals, OkV v) (w W0 : World) (hX : Bx mb #[.slice sa M.length sc, .bool al, .slice ra rd.length rc, .slice wa wri.length wc, .map (some vm), .map (some om), .int .i64 0, .int .i64 0, .slice none 0 0, .slice none 0 0, .slice none 0 0, .slice none 0 0, .string ⟨#[]⟩, .int .i64 0] 143 w) (hO : Mp om [] w) (hmb : W0.heap.size ≤ mb) (hW0 : Below W0.heap.size W0 w) (hM : CellsAt W0 (.slice sa M.length sc) M.length (prLs M)) (hR : StrS W0 (.slice ra rd.length rc) rd) (hl1 : M.length ≤ 9000000000000) (hl2 : rd.length ≤ 9000000000000) (hV : Mp vm V w) (hA : CellsAt W0 (.slice aa vals.length ac) vals.length (exLs names)) (hLd : Laid W0) (hT : Bx tb #[.pointer (some ⟨mb, 0, none⟩)] 138 w) (hE : Bx eb #[.int .i64 op, .int .i64 0, .string ⟨#[]⟩, .slice aa vals.length ac] 116 w) (hB : Bx vb #[.int .i64 0, .int .i64 0, .string ⟨#[]⟩] 52 w) (hne : mb ≠ vb) :
    Calls Tryz.prog 118 #[.pointer (some ⟨tb, 0, none⟩), .pointer (some ⟨eb, 0, none⟩), .pointer (some ⟨vb, 0, none⟩)] w (EvP mb vb (fun rv => #[.slice sa M.length sc, .bool al, .slice ra rd.length rc, .slice wa wri.length wc, .map (some vm), .map (some om), .int .i64 0, .int .i64 0, .slice none 0 0, rv, .slice none 0 0, .slice none 0 0, .string ⟨#[]⟩, .int .i64 0]) (evS al rd M op vals).1 (evS al rd M op vals).2 w) := by
  have HC := Lib.hid (evalOp_any mb vm om sa ra wa sc rc wc M al rd wri op aa ac V names vals hop hva hok w W0 hX hO hmb hW0 hM hR hl1 hl2 hV hA hLd)
  obtain ⟨⟨R, ks⟩, hU⟩ : ∃ x, evS al rd M op vals = x := ⟨_, rfl⟩
  rw [hU] at HC ⊢
  simp only at HC ⊢
  have t0 : w.cell? ⟨tb, 0, none⟩ = some (.pointer (some ⟨mb, 0, none⟩)) := hT.cell 0
  obtain ⟨e0, e1, e2, e3⟩ := hE.c4
  have HB := Lib.hid hB
  have hlb := hB.lt
  have hlm := hX.lt
  clear hU hop hva hok hX hO hmb hW0 hM hR hl1 hl2 hV hA hLd hT hE hB
  go_enter Tryz.func118, Tryz.ntmps118
  go_wp2_with fail
  refine HC.out.mono ?_
  rintro er w1 ⟨rfl, hg, rv, hx, ho⟩
  have HG := Lib.hid hg; have HX := Lib.hid hx; have HO := Lib.hid ho; have HB := Lib.hid (HB.out.kept hg (by simp; omega)); clear hg hx ho HC e0 e1 e2 e3 t0
  rcases R with v | c | k
  · simp only [endR, vV]
    have r0 : w1.cell? ⟨vb, 0, none⟩ = some (.int .i64 0) := HB.out.cell 0
    have r1 : w1.cell? ⟨vb, 1, none⟩ = some (.int .i64 0) := HB.out.cell 1
    have r2 : w1.cell? ⟨vb, 2, none⟩ = some (.string ⟨#[]⟩) := HB.out.cell 2
    have f0 := HB.out.free 0
    have f1 := HB.out.free 1
    have f2 := HB.out.free 2
    have HB2 := Lib.hid (HB.out.sets3 (.int .i64 v.k) (.int .i64 v.n) (.string (bs v.s)))
    have HF := Lib.hid ((((K2.of_grown (b := vb) HG.out).set (i := 0) (.int .i64 v.k) (.inr (.inl rfl))).set (i := 1) (.int .i64 v.n) (.inr (.inl rfl))).set (i := 2) (.string (bs v.s)) (.inr (.inl rfl)))
    have HX2 := Lib.hid (((HX.out.other (i := 0) hne (.int .i64 v.k)).other (i := 1) hne (.int .i64 v.n)).other (i := 2) hne (.string (bs v.s)))
    have HO2 := Lib.hid (own_set (own_set (own_set HO.out vb 0 hlb (.int .i64 v.k)) vb 1 hlb (.int .i64 v.n)) vb 2 hlb (.string (bs v.s)))
    go_wp2
    exact ⟨rfl, .tuple #[], results_none rfl _ _ _, rfl, HF.out, HB2.out, rv, HX2.out, HO2.out⟩
  · simp only [endR]
    go_wp2
    exact ⟨(by first | exact True.intro | rfl), rfl, K2.of_grown HG.out, HB.out, rv, HX.out, HO.out⟩
  · simp only [endR]
    go_wp2
    exact ⟨(by first | exact True.intro | rfl), rfl, K2.of_grown HG.out, HB.out, rv, HX.out, HO.out⟩
theorem newM_mem (w v0 : World) (cs : Array Value) (h : Below w.heap.size w v0) (hs : w.heap.size ≤ v0.heap.size) : ∃ W, ((v0.alloc (.map #[] 0)).alloc (.map #[] 0)).alloc (.cells cs 143) = W ∧ Bx (v0.heap.size + 2) cs 143 W ∧ Mp v0.heap.size [] W ∧ Mp (v0.heap.size + 1) [] W ∧ Below w.heap.size w W := by
  have h1 := Mp.new v0
  have h2 := Mp.new (v0.alloc (.map #[] 0))
  rw [show (v0.alloc (.map #[] 0)).heap.size = v0.heap.size + 1 by simp] at h2
  have b2 := (Below.refl (v0.alloc (.map #[] 0)).heap.size (v0.alloc (.map #[] 0))).alloc (Nat.le_refl _) (.map #[] 0)
  have b3 := (Below.refl ((v0.alloc (.map #[] 0)).alloc (.map #[] 0)).heap.size ((v0.alloc (.map #[] 0)).alloc (.map #[] 0))).alloc (Nat.le_refl _) (.cells cs 143)
  have hx := Bx.new ((v0.alloc (.map #[] 0)).alloc (.map #[] 0)) cs 143
  rw [show ((v0.alloc (.map #[] 0)).alloc (.map #[] 0)).heap.size = v0.heap.size + 2 by simp] at hx
  exact ⟨_, rfl, hx, (h1.call b2).call b3, h2.call b3, ((h.alloc hs _).alloc (by simp; omega) _).alloc (by simp; omega) _⟩

set_option maxRecDepth 100000 in
set_option maxHeartbeats 8000000 in
theorem newM_any (sa ra wa : Option Addr) (sc rc wc : Nat) (M : List Pr) (al : Bool) (rd wri : List (List UInt8)) (w : World) :
    Calls Tryz.prog 115 #[.slice sa M.length sc, .agg #[.bool al, .slice ra rd.length rc, .slice wa wri.length wc]] w fun e w' => ∃ mb vm om, e = .returned (.pointer (some ⟨mb, 0, none⟩)) ∧ Below w.heap.size w w' ∧ Bx mb #[.slice sa M.length sc, .bool al, .slice ra rd.length rc, .slice wa wri.length wc, .map (some vm), .map (some om), .int .i64 0, .int .i64 0, .slice none 0 0, .slice none 0 0, .slice none 0 0, .slice none 0 0, .string ⟨#[]⟩, .int .i64 0] 143 w' ∧ Mp vm [] w' ∧ Mp om [] w' ∧ w.heap.size ≤ mb ∧ w.heap.size ≤ vm ∧ w.heap.size ≤ om ∧ vm ≠ om := by
  have hmm := @run_makeMap Tryz.prog
  have HF := Lib.hid (Bx.new w #[.bool al, .slice ra rd.length rc, .slice wa wri.length wc] 29)
  have hb0 := (Below.refl w.heap.size w).alloc (Nat.le_refl _) (.cells #[.bool al, .slice ra rd.length rc, .slice wa wri.length wc] 29)
  have HB := Lib.hid hb0; have hs0 : w.heap.size + 1 = (w.alloc (.cells #[.bool al, .slice ra rd.length rc, .slice wa wri.length wc] 29)).heap.size := by simp
  clear hb0
  go_enter Tryz.func115, Tryz.ntmps115
  go_upto_region 1 with (fail)
  generalize hW : w.alloc (.cells #[.bool al, .slice ra rd.length rc, .slice wa wri.length wc] 29) = v0 at HF HB hs0 ⊢
  clear hW
  have f0 : v0.cell? ⟨w.heap.size, 0, none⟩ = some (.bool al) := HF.out.cell 0
  have f1 : v0.cell? ⟨w.heap.size, 1, none⟩ = some (.slice ra rd.length rc) := HF.out.cell 1
  have f2 : v0.cell? ⟨w.heap.size, 2, none⟩ = some (.slice wa wri.length wc) := HF.out.cell 2
  go_wp2
  obtain ⟨WN, hWN, hx, h1, h2, hb⟩ := newM_mem w v0 #[.slice sa M.length sc, .bool al, .slice ra rd.length rc, .slice wa wri.length wc, .map (some v0.heap.size), .map (some (v0.heap.size + 1)), .int .i64 0, .int .i64 0, .slice none 0 0, .slice none 0 0, .slice none 0 0, .slice none 0 0, .string ⟨#[]⟩, .int .i64 0] HB.out (by omega)
  rw [hWN]
  clear hWN
  go_ret
  exact ⟨v0.heap.size + 2, v0.heap.size, v0.heap.size + 1, rfl, hb, hx, h1, h2, by omega, by omega, by omega, by omega⟩
def efA (R : Rs) (rv : Value) : Array Value := match R with
  | .ok _ => #[.int .i64 1, .int .i64 0, .slice none 0 0, rv, .slice none 0 0, .slice none 0 0, .string ⟨#[]⟩, .int .i64 0]
  | .ab c => #[.int .i64 2, .int .i64 c, .slice none 0 0, rv, .slice none 0 0, .slice none 0 0, .string (bs []), .int .i64 0]
  | .re k => #[.int .i64 3, .int .i64 0, .slice none 0 0, rv, .slice none 0 0, .slice none 0 0, .string (bs k), .int .i64 0]

set_option maxRecDepth 100000 in
set_option maxHeartbeats 16000000 in
theorem finish_any (mb vm om : Nat) (sa ra wa : Option Addr) (sc rc wc : Nat) (M : List Pr) (al : Bool) (rd wri : List (List UInt8)) (oa : Option Addr) (on oc : Nat) (R : Rs) (w : World) (hX : Bx mb #[.slice sa M.length sc, .bool al, .slice ra rd.length rc, .slice wa wri.length wc, .map (some vm), .map (some om), .int .i64 0, .int .i64 0, .slice none 0 0, .slice oa on oc, .slice none 0 0, .slice none 0 0, .string ⟨#[]⟩, .int .i64 0] 143 w) :
    Calls Tryz.prog 120 #[.pointer (some ⟨mb, 0, none⟩), .agg (stA R), .bool (stB2 R)] w fun e w' => e = .returned (.agg (efA R (.slice oa on oc))) ∧ Below w.heap.size w w' := by
  have hmw := hX.lt
  have HX := Lib.hid hX; clear hX
  rcases R with v | c | k
  · simp only [stA, stB2, efA]
    have hal := ((Below.refl w.heap.size w).alloc (Nat.le_refl _) (.cells #[.int .i64 0, .int .i64 0, .slice none 0 0, .string ⟨#[]⟩] 145)).alloc (by simp) (.cells #[.int .i64 0, .int .i64 0, .slice none 0 0, .slice none 0 0, .slice none 0 0, .slice none 0 0, .string ⟨#[]⟩, .int .i64 0] 37)
    have hr0 := Bx.new1 w (.cells #[.int .i64 0, .int .i64 0, .slice none 0 0, .string ⟨#[]⟩] 145) #[.int .i64 0, .int .i64 0, .slice none 0 0, .slice none 0 0, .slice none 0 0, .slice none 0 0, .string ⟨#[]⟩, .int .i64 0] 37
    have HS := Lib.hid ((Bx.new w #[.int .i64 0, .int .i64 0, .slice none 0 0, .string ⟨#[]⟩] 145).alloc (.cells #[.int .i64 0, .int .i64 0, .slice none 0 0, .slice none 0 0, .slice none 0 0, .slice none 0 0, .string ⟨#[]⟩, .int .i64 0] 37))
    have HRB := Lib.hid hr0; have HX := Lib.hid (HX.out.call hal); have HB := Lib.hid hal; clear hr0 hal
    go_enter Tryz.func120, Tryz.ntmps120
    go_upto_region 1 with (fail)
    generalize hW : (w.alloc (.cells #[.int .i64 0, .int .i64 0, .slice none 0 0, .string ⟨#[]⟩] 145)).alloc (.cells #[.int .i64 0, .int .i64 0, .slice none 0 0, .slice none 0 0, .slice none 0 0, .slice none 0 0, .string ⟨#[]⟩, .int .i64 0] 37) = v0 at HS HRB HX HB ⊢
    clear hW
    have hal := (Below.refl v0.heap.size v0).alloc (Nat.le_refl _) (.cells #[.int .i64 0, .int .i64 0, .slice none 0 0, .slice oa on oc, .slice none 0 0, .slice none 0 0, .string ⟨#[]⟩, .int .i64 0] 37)
    have HE := Lib.hid (Bx.new v0 #[.int .i64 0, .int .i64 0, .slice none 0 0, .slice oa on oc, .slice none 0 0, .slice none 0 0, .string ⟨#[]⟩, .int .i64 0] 37)
    have hvs := HRB.out.lt
    have HS := Lib.hid (HS.out.call hal); have HRB := Lib.hid (HRB.out.call hal); have HB := Lib.hid (btrans HB.out HB.out.size hal); clear hal
    have hxc := HX.out.c14
    obtain ⟨x0, x1, x2, x3, x4, x5, x6, x7, x8, x9, x10, x11, x12, x13⟩ := hxc
    clear HX
    go_upto_region 2 with (fail)
    generalize hW : v0.alloc (.cells #[.int .i64 0, .int .i64 0, .slice none 0 0, .slice oa on oc, .slice none 0 0, .slice none 0 0, .string ⟨#[]⟩, .int .i64 0] 37) = v1 at HS HRB HB HE ⊢
    clear hW x0 x1 x2 x3 x4 x5 x6 x7 x8 x9 x10 x11 x12 x13
    obtain ⟨s0, s1, s2, s3⟩ := HS.out.c4
    obtain ⟨e0, e1, e2, e3, e4, e5, e6, e7⟩ := HE.out.c8
    have f0 := HE.out.free 0
    have f1 := HE.out.free 1
    have f2 := HE.out.free 2
    have f6 := HE.out.free 6
    have HE2 := Lib.hid (show Bx v0.heap.size #[.int .i64 1, .int .i64 0, .slice none 0 0, .slice oa on oc, .slice none 0 0, .slice none 0 0, .string ⟨#[]⟩, .int .i64 0] 37 (v1.setCell ⟨v0.heap.size, 0, none⟩ (.int .i64 1)) from HE.out.set 0 (.int .i64 1))
    have HRB2 := Lib.hid (HRB.out.other (c := v0.heap.size) (i := 0) (by omega) (.int .i64 1))
    have HB2 := Lib.hid (below_set HB.out v0.heap.size 0 (by omega) (.int .i64 1))
    go_upto_region 6 with (fail)
    generalize hW : v1.setCell ⟨v0.heap.size, 0, none⟩ (.int .i64 1) = v2 at HE2 HRB2 HB2 ⊢
    clear hW
    clear HE HRB HB HS s0 s1 s2 s3 e0 e1 e2 e3 e4 e5 e6 e7 f0 f1 f2 f6
    have HE := HE2; have HRB := HRB2; have HB := HB2; clear HE2 HRB2 HB2
    obtain ⟨e0, e1, e2, e3, e4, e5, e6, e7⟩ := HE.out.c8
    go_wp2
    go_loop [27] (fun i => i = .int .i64 0) (fun _ => 0)
    case atStart => exact rfl
    case round =>
      obtain rfl := hrel
      have r0 : v2.cell? ⟨(w.heap.size + 1), 0, none⟩ = some (.int .i64 0) := HRB.out.cell 0
      have r1 : v2.cell? ⟨(w.heap.size + 1), 1, none⟩ = some (.int .i64 0) := HRB.out.cell 1
      have r2 : v2.cell? ⟨(w.heap.size + 1), 2, none⟩ = some (.slice none 0 0) := HRB.out.cell 2
      have r3 : v2.cell? ⟨(w.heap.size + 1), 3, none⟩ = some (.slice none 0 0) := HRB.out.cell 3
      have r4 : v2.cell? ⟨(w.heap.size + 1), 4, none⟩ = some (.slice none 0 0) := HRB.out.cell 4
      have r5 : v2.cell? ⟨(w.heap.size + 1), 5, none⟩ = some (.slice none 0 0) := HRB.out.cell 5
      have r6 : v2.cell? ⟨(w.heap.size + 1), 6, none⟩ = some (.string ⟨#[]⟩) := HRB.out.cell 6
      have r7 : v2.cell? ⟨(w.heap.size + 1), 7, none⟩ = some (.int .i64 0) := HRB.out.cell 7
      have f0 := HRB.out.free 0
      have f1 := HRB.out.free 1
      have f2 := HRB.out.free 2
      have f3 := HRB.out.free 3
      have f4 := HRB.out.free 4
      have f5 := HRB.out.free 5
      have f6 := HRB.out.free 6
      have f7 := HRB.out.free 7
      have HK := Lib.hid (HRB.out.sets8 (.int .i64 1) (.int .i64 0) (.slice none 0 0) (.slice oa on oc) (.slice none 0 0) (.slice none 0 0) (.string ⟨#[]⟩) (.int .i64 0))
      go_wp2
      have k0 := HK.out.cell 0
      have k1 := HK.out.cell 1
      have k2 := HK.out.cell 2
      have k3 := HK.out.cell 3
      have k4 := HK.out.cell 4
      have k5 := HK.out.cell 5
      have k6 := HK.out.cell 6
      have k7 := HK.out.cell 7
      simp only [List.getElem?_toArray, List.getElem?_cons_zero, List.getElem?_cons_succ] at k0 k1 k2 k3 k4 k5 k6 k7
      refine bodyPost_ret (v := .agg #[.int .i64 1, .int .i64 0, .slice none 0 0, .slice oa on oc, .slice none 0 0, .slice none 0 0, .string ⟨#[]⟩, .int .i64 0]) (by simp [results, Tryz.results120, go_sem, k0, k1, k2, k3, k4, k5, k6, k7] <;> rfl) rfl ⟨rfl, below_sets8 HB.out _ (by omega) _ _ _ _ _ _ _ _⟩
  · simp only [stA, stB2, efA]
    have hal := ((Below.refl w.heap.size w).alloc (Nat.le_refl _) (.cells #[.int .i64 2, .int .i64 c, .slice none 0 0, .string (bs [])] 145)).alloc (by simp) (.cells #[.int .i64 0, .int .i64 0, .slice none 0 0, .slice none 0 0, .slice none 0 0, .slice none 0 0, .string ⟨#[]⟩, .int .i64 0] 37)
    have hr0 := Bx.new1 w (.cells #[.int .i64 2, .int .i64 c, .slice none 0 0, .string (bs [])] 145) #[.int .i64 0, .int .i64 0, .slice none 0 0, .slice none 0 0, .slice none 0 0, .slice none 0 0, .string ⟨#[]⟩, .int .i64 0] 37
    have HS := Lib.hid ((Bx.new w #[.int .i64 2, .int .i64 c, .slice none 0 0, .string (bs [])] 145).alloc (.cells #[.int .i64 0, .int .i64 0, .slice none 0 0, .slice none 0 0, .slice none 0 0, .slice none 0 0, .string ⟨#[]⟩, .int .i64 0] 37))
    have HRB := Lib.hid hr0; have HX := Lib.hid (HX.out.call hal); have HB := Lib.hid hal; clear hr0 hal
    go_enter Tryz.func120, Tryz.ntmps120
    go_upto_region 1 with (fail)
    generalize hW : (w.alloc (.cells #[.int .i64 2, .int .i64 c, .slice none 0 0, .string (bs [])] 145)).alloc (.cells #[.int .i64 0, .int .i64 0, .slice none 0 0, .slice none 0 0, .slice none 0 0, .slice none 0 0, .string ⟨#[]⟩, .int .i64 0] 37) = v0 at HS HRB HX HB ⊢
    clear hW
    have hal := (Below.refl v0.heap.size v0).alloc (Nat.le_refl _) (.cells #[.int .i64 0, .int .i64 0, .slice none 0 0, .slice oa on oc, .slice none 0 0, .slice none 0 0, .string ⟨#[]⟩, .int .i64 0] 37)
    have HE := Lib.hid (Bx.new v0 #[.int .i64 0, .int .i64 0, .slice none 0 0, .slice oa on oc, .slice none 0 0, .slice none 0 0, .string ⟨#[]⟩, .int .i64 0] 37)
    have hvs := HRB.out.lt
    have HS := Lib.hid (HS.out.call hal); have HRB := Lib.hid (HRB.out.call hal); have HB := Lib.hid (btrans HB.out HB.out.size hal); clear hal
    have hxc := HX.out.c14
    obtain ⟨x0, x1, x2, x3, x4, x5, x6, x7, x8, x9, x10, x11, x12, x13⟩ := hxc
    clear HX
    go_upto_region 2 with (fail)
    generalize hW : v0.alloc (.cells #[.int .i64 0, .int .i64 0, .slice none 0 0, .slice oa on oc, .slice none 0 0, .slice none 0 0, .string ⟨#[]⟩, .int .i64 0] 37) = v1 at HS HRB HB HE ⊢
    clear hW x0 x1 x2 x3 x4 x5 x6 x7 x8 x9 x10 x11 x12 x13
    obtain ⟨s0, s1, s2, s3⟩ := HS.out.c4
    obtain ⟨e0, e1, e2, e3, e4, e5, e6, e7⟩ := HE.out.c8
    have f0 := HE.out.free 0
    have f1 := HE.out.free 1
    have f2 := HE.out.free 2
    have f6 := HE.out.free 6
    have HE2 := Lib.hid (show Bx v0.heap.size #[.int .i64 2, .int .i64 c, .slice none 0 0, .slice oa on oc, .slice none 0 0, .slice none 0 0, .string (bs []), .int .i64 0] 37 ((((v1.setCell ⟨v0.heap.size, 0, none⟩ (.int .i64 2)).setCell ⟨v0.heap.size, 1, none⟩ (.int .i64 c)).setCell ⟨v0.heap.size, 2, none⟩ (.slice none 0 0)).setCell ⟨v0.heap.size, 6, none⟩ (.string (bs []))).drew from ((((HE.out.set 0 (.int .i64 2)).set 1 (.int .i64 c)).set 2 (.slice none 0 0)).set 6 (.string (bs []))))
    have HRB2 := Lib.hid (Bx.drew ((((HRB.out.other (c := v0.heap.size) (i := 0) (by omega) (.int .i64 2)).other (c := v0.heap.size) (i := 1) (by omega) (.int .i64 c)).other (c := v0.heap.size) (i := 2) (by omega) (.slice none 0 0)).other (c := v0.heap.size) (i := 6) (by omega) (.string (bs []))))
    have HB2 := Lib.hid (Below.drew (below_set (below_set (below_set (below_set HB.out v0.heap.size 0 (by omega) (.int .i64 2)) v0.heap.size 1 (by omega) (.int .i64 c)) v0.heap.size 2 (by omega) (.slice none 0 0)) v0.heap.size 6 (by omega) (.string (bs []))))
    have HS0 := Lib.hid (show (fun w' => w'.cell? ⟨w.heap.size, 0, none⟩ = some (.int .i64 2) ∧ w'.cell? ⟨w.heap.size, 1, none⟩ = some (.int .i64 c) ∧ w'.cell? ⟨w.heap.size, 2, none⟩ = some (.slice none 0 0) ∧ w'.cell? ⟨w.heap.size, 3, none⟩ = some (.string (bs []))) v1.drew from ⟨s0, s1, s2, s3⟩)
    have HKA := Lib.hid (show (fun w' => w'.cell? ⟨w.heap.size, 0, none⟩ = some (.int .i64 2) ∧ w'.cell? ⟨w.heap.size, 1, none⟩ = some (.int .i64 c) ∧ w'.cell? ⟨w.heap.size, 2, none⟩ = some (.slice none 0 0) ∧ w'.cell? ⟨w.heap.size, 3, none⟩ = some (.string (bs []))) (((v1.setCell ⟨v0.heap.size, 0, none⟩ (.int .i64 2)).setCell ⟨v0.heap.size, 1, none⟩ (.int .i64 c)).setCell ⟨v0.heap.size, 2, none⟩ (.slice none 0 0)) from ⟨cell1_set _ (by omega) (cell1_set _ (by omega) (cell1_set _ (by omega) (s0))), cell1_set _ (by omega) (cell1_set _ (by omega) (cell1_set _ (by omega) (s1))), cell1_set _ (by omega) (cell1_set _ (by omega) (cell1_set _ (by omega) (s2))), cell1_set _ (by omega) (cell1_set _ (by omega) (cell1_set _ (by omega) (s3)))⟩)
    have HKB := Lib.hid (show (fun w' => w'.cell? ⟨w.heap.size, 0, none⟩ = some (.int .i64 2) ∧ w'.cell? ⟨w.heap.size, 1, none⟩ = some (.int .i64 c) ∧ w'.cell? ⟨w.heap.size, 2, none⟩ = some (.slice none 0 0) ∧ w'.cell? ⟨w.heap.size, 3, none⟩ = some (.string (bs []))) ((((v1.setCell ⟨v0.heap.size, 0, none⟩ (.int .i64 2)).setCell ⟨v0.heap.size, 1, none⟩ (.int .i64 c)).setCell ⟨v0.heap.size, 2, none⟩ (.slice none 0 0)).setCell ⟨v0.heap.size, 6, none⟩ (.string (bs []))) from ⟨cell1_set _ (by omega) (cell1_set _ (by omega) (cell1_set _ (by omega) (cell1_set _ (by omega) (s0)))), cell1_set _ (by omega) (cell1_set _ (by omega) (cell1_set _ (by omega) (cell1_set _ (by omega) (s1)))), cell1_set _ (by omega) (cell1_set _ (by omega) (cell1_set _ (by omega) (cell1_set _ (by omega) (s2)))), cell1_set _ (by omega) (cell1_set _ (by omega) (cell1_set _ (by omega) (cell1_set _ (by omega) (s3))))⟩)
    have g6 : (((v1.setCell ⟨v0.heap.size, 0, none⟩ (.int .i64 2)).setCell ⟨v0.heap.size, 1, none⟩ (.int .i64 c)).setCell ⟨v0.heap.size, 2, none⟩ (.slice none 0 0)).cell? ⟨v0.heap.size, 6, none⟩ = some (.string ⟨#[]⟩) := (((HE.out.set 0 (.int .i64 2)).set 1 (.int .i64 c)).set 2 (.slice none 0 0)).cell 6
    have h6 := (((HE.out.set 0 (.int .i64 2)).set 1 (.int .i64 c)).set 2 (.slice none 0 0)).free 6
    go_upto_region 3 with (fail)
    refine wp_region_held_drew (S := (fun w' => w'.cell? ⟨w.heap.size, 0, none⟩ = some (.int .i64 2) ∧ w'.cell? ⟨w.heap.size, 1, none⟩ = some (.int .i64 c) ∧ w'.cell? ⟨w.heap.size, 2, none⟩ = some (.slice none 0 0) ∧ w'.cell? ⟨w.heap.size, 3, none⟩ = some (.string (bs [])))) (by kernel_rfl) ?_ (fun hHeld => ?_)
    · exact HS0.out
    refine tkY (i := 0) (v := ?vv1) 15 ?yy1 ?_
    case yy1 => intro w hSw; (try dsimp only at hSw); go_simp; (try with_reducible rfl)
    simp only [sA, sB, sC]
    refine tkY (i := 1) (v := ?vv2) 16 ?yy2 ?_
    case yy2 => intro w hSw; (try dsimp only at hSw); go_simp; (try with_reducible rfl)
    simp only [sA, sB, sC]
    refine tkY (i := 2) (v := ?vv3) 17 ?yy3 ?_
    case yy3 => intro w hSw; (try dsimp only at hSw); go_simp; (try with_reducible rfl)
    simp only [sA, sB, sC]
    refine tkY (i := 3) (v := ?vv4) 18 ?yy4 ?_
    case yy4 => intro w hSw; (try dsimp only at hSw); go_simp; (try with_reducible rfl)
    simp only [sA, sB, sC]
    refine tkY (i := 4) (v := ?vv5) 19 ?yy5 ?_
    case yy5 => intro w hSw; (try dsimp only at hSw); go_simp; (try with_reducible rfl)
    simp only [sA, sB, sC]
    refine wpAnyH_ready (rs := [5]) (by kernel_rfl) (by simp) ?_
    refine (AllReadyH.cons rfl (fun K hK => ?_) AllReadyH.nil)
    go_simp
    refine hK.out _ _ ?_ (fun hHeld2 => ?_)
    · exact HKA.out
    clear hK K
    (try simp only [Act.put, sA, sB, sC])
    refine tkY (i := 6) (v := ?vv6) 20 ?yy6 ?_
    case yy6 => intro w hSw; (try dsimp only at hSw); go_simp; (try with_reducible rfl)
    simp only [sA, sB, sC]
    refine wpAnyH_ready (rs := [7]) (by kernel_rfl) (by simp) ?_
    refine (AllReadyH.cons rfl (fun K hK => ?_) AllReadyH.nil)
    go_simp
    refine hK.out _ _ ?_ (fun hHeld3 => ?_)
    · exact HKB.out
    clear hK K
    (try simp only [Act.put, sA, sB, sC])
    refine wpAnyH_done (by kernel_rfl) ?_ _
    generalize hW : ((((v1.setCell ⟨v0.heap.size, 0, none⟩ (.int .i64 2)).setCell ⟨v0.heap.size, 1, none⟩ (.int .i64 c)).setCell ⟨v0.heap.size, 2, none⟩ (.slice none 0 0)).setCell ⟨v0.heap.size, 6, none⟩ (.string (bs []))).drew = v2 at HE2 HRB2 HB2 ⊢
    clear hW hHeld hHeld2 hHeld3 HKA HKB HS0 g6 h6
    clear HE HRB HB HS s0 s1 s2 s3 e0 e1 e2 e3 e4 e5 e6 e7 f0 f1 f2 f6
    have HE := HE2; have HRB := HRB2; have HB := HB2; clear HE2 HRB2 HB2
    obtain ⟨e0, e1, e2, e3, e4, e5, e6, e7⟩ := HE.out.c8
    have r0 : v2.cell? ⟨(w.heap.size + 1), 0, none⟩ = some (.int .i64 0) := HRB.out.cell 0
    have r1 : v2.cell? ⟨(w.heap.size + 1), 1, none⟩ = some (.int .i64 0) := HRB.out.cell 1
    have r2 : v2.cell? ⟨(w.heap.size + 1), 2, none⟩ = some (.slice none 0 0) := HRB.out.cell 2
    have r3 : v2.cell? ⟨(w.heap.size + 1), 3, none⟩ = some (.slice none 0 0) := HRB.out.cell 3
    have r4 : v2.cell? ⟨(w.heap.size + 1), 4, none⟩ = some (.slice none 0 0) := HRB.out.cell 4
    have r5 : v2.cell? ⟨(w.heap.size + 1), 5, none⟩ = some (.slice none 0 0) := HRB.out.cell 5
    have r6 : v2.cell? ⟨(w.heap.size + 1), 6, none⟩ = some (.string ⟨#[]⟩) := HRB.out.cell 6
    have r7 : v2.cell? ⟨(w.heap.size + 1), 7, none⟩ = some (.int .i64 0) := HRB.out.cell 7
    have f0 := HRB.out.free 0
    have f1 := HRB.out.free 1
    have f2 := HRB.out.free 2
    have f3 := HRB.out.free 3
    have f4 := HRB.out.free 4
    have f5 := HRB.out.free 5
    have f6 := HRB.out.free 6
    have f7 := HRB.out.free 7
    have HK := Lib.hid (HRB.out.sets8 (.int .i64 2) (.int .i64 c) (.slice none 0 0) (.slice oa on oc) (.slice none 0 0) (.slice none 0 0) (.string (bs [])) (.int .i64 0))
    go_wp2
    have k0 := HK.out.cell 0
    have k1 := HK.out.cell 1
    have k2 := HK.out.cell 2
    have k3 := HK.out.cell 3
    have k4 := HK.out.cell 4
    have k5 := HK.out.cell 5
    have k6 := HK.out.cell 6
    have k7 := HK.out.cell 7
    simp only [List.getElem?_toArray, List.getElem?_cons_zero, List.getElem?_cons_succ] at k0 k1 k2 k3 k4 k5 k6 k7
    refine bodyPost_ret (v := .agg #[.int .i64 2, .int .i64 c, .slice none 0 0, .slice oa on oc, .slice none 0 0, .slice none 0 0, .string (bs []), .int .i64 0]) (by simp [results, Tryz.results120, go_sem, k0, k1, k2, k3, k4, k5, k6, k7] <;> rfl) rfl ⟨rfl, below_sets8 HB.out _ (by omega) _ _ _ _ _ _ _ _⟩
  · simp only [stA, stB2, efA]
    have hal := ((Below.refl w.heap.size w).alloc (Nat.le_refl _) (.cells #[.int .i64 3, .int .i64 0, .slice none 0 0, .string (bs k)] 145)).alloc (by simp) (.cells #[.int .i64 0, .int .i64 0, .slice none 0 0, .slice none 0 0, .slice none 0 0, .slice none 0 0, .string ⟨#[]⟩, .int .i64 0] 37)
    have hr0 := Bx.new1 w (.cells #[.int .i64 3, .int .i64 0, .slice none 0 0, .string (bs k)] 145) #[.int .i64 0, .int .i64 0, .slice none 0 0, .slice none 0 0, .slice none 0 0, .slice none 0 0, .string ⟨#[]⟩, .int .i64 0] 37
    have HS := Lib.hid ((Bx.new w #[.int .i64 3, .int .i64 0, .slice none 0 0, .string (bs k)] 145).alloc (.cells #[.int .i64 0, .int .i64 0, .slice none 0 0, .slice none 0 0, .slice none 0 0, .slice none 0 0, .string ⟨#[]⟩, .int .i64 0] 37))
    have HRB := Lib.hid hr0; have HX := Lib.hid (HX.out.call hal); have HB := Lib.hid hal; clear hr0 hal
    go_enter Tryz.func120, Tryz.ntmps120
    go_upto_region 1 with (fail)
    generalize hW : (w.alloc (.cells #[.int .i64 3, .int .i64 0, .slice none 0 0, .string (bs k)] 145)).alloc (.cells #[.int .i64 0, .int .i64 0, .slice none 0 0, .slice none 0 0, .slice none 0 0, .slice none 0 0, .string ⟨#[]⟩, .int .i64 0] 37) = v0 at HS HRB HX HB ⊢
    clear hW
    have hal := (Below.refl v0.heap.size v0).alloc (Nat.le_refl _) (.cells #[.int .i64 0, .int .i64 0, .slice none 0 0, .slice oa on oc, .slice none 0 0, .slice none 0 0, .string ⟨#[]⟩, .int .i64 0] 37)
    have HE := Lib.hid (Bx.new v0 #[.int .i64 0, .int .i64 0, .slice none 0 0, .slice oa on oc, .slice none 0 0, .slice none 0 0, .string ⟨#[]⟩, .int .i64 0] 37)
    have hvs := HRB.out.lt
    have HS := Lib.hid (HS.out.call hal); have HRB := Lib.hid (HRB.out.call hal); have HB := Lib.hid (btrans HB.out HB.out.size hal); clear hal
    have hxc := HX.out.c14
    obtain ⟨x0, x1, x2, x3, x4, x5, x6, x7, x8, x9, x10, x11, x12, x13⟩ := hxc
    clear HX
    go_upto_region 2 with (fail)
    generalize hW : v0.alloc (.cells #[.int .i64 0, .int .i64 0, .slice none 0 0, .slice oa on oc, .slice none 0 0, .slice none 0 0, .string ⟨#[]⟩, .int .i64 0] 37) = v1 at HS HRB HB HE ⊢
    clear hW x0 x1 x2 x3 x4 x5 x6 x7 x8 x9 x10 x11 x12 x13
    obtain ⟨s0, s1, s2, s3⟩ := HS.out.c4
    obtain ⟨e0, e1, e2, e3, e4, e5, e6, e7⟩ := HE.out.c8
    have f0 := HE.out.free 0
    have f1 := HE.out.free 1
    have f2 := HE.out.free 2
    have f6 := HE.out.free 6
    have HE2 := Lib.hid (show Bx v0.heap.size #[.int .i64 3, .int .i64 0, .slice none 0 0, .slice oa on oc, .slice none 0 0, .slice none 0 0, .string (bs k), .int .i64 0] 37 ((((v1.setCell ⟨v0.heap.size, 0, none⟩ (.int .i64 3)).setCell ⟨v0.heap.size, 1, none⟩ (.int .i64 0)).setCell ⟨v0.heap.size, 2, none⟩ (.slice none 0 0)).setCell ⟨v0.heap.size, 6, none⟩ (.string (bs k))).drew from ((((HE.out.set 0 (.int .i64 3)).set 1 (.int .i64 0)).set 2 (.slice none 0 0)).set 6 (.string (bs k))))
    have HRB2 := Lib.hid (Bx.drew ((((HRB.out.other (c := v0.heap.size) (i := 0) (by omega) (.int .i64 3)).other (c := v0.heap.size) (i := 1) (by omega) (.int .i64 0)).other (c := v0.heap.size) (i := 2) (by omega) (.slice none 0 0)).other (c := v0.heap.size) (i := 6) (by omega) (.string (bs k))))
    have HB2 := Lib.hid (Below.drew (below_set (below_set (below_set (below_set HB.out v0.heap.size 0 (by omega) (.int .i64 3)) v0.heap.size 1 (by omega) (.int .i64 0)) v0.heap.size 2 (by omega) (.slice none 0 0)) v0.heap.size 6 (by omega) (.string (bs k))))
    have HS0 := Lib.hid (show (fun w' => w'.cell? ⟨w.heap.size, 0, none⟩ = some (.int .i64 3) ∧ w'.cell? ⟨w.heap.size, 1, none⟩ = some (.int .i64 0) ∧ w'.cell? ⟨w.heap.size, 2, none⟩ = some (.slice none 0 0) ∧ w'.cell? ⟨w.heap.size, 3, none⟩ = some (.string (bs k))) v1.drew from ⟨s0, s1, s2, s3⟩)
    have HKA := Lib.hid (show (fun w' => w'.cell? ⟨w.heap.size, 0, none⟩ = some (.int .i64 3) ∧ w'.cell? ⟨w.heap.size, 1, none⟩ = some (.int .i64 0) ∧ w'.cell? ⟨w.heap.size, 2, none⟩ = some (.slice none 0 0) ∧ w'.cell? ⟨w.heap.size, 3, none⟩ = some (.string (bs k))) (((v1.setCell ⟨v0.heap.size, 0, none⟩ (.int .i64 3)).setCell ⟨v0.heap.size, 1, none⟩ (.int .i64 0)).setCell ⟨v0.heap.size, 2, none⟩ (.slice none 0 0)) from ⟨cell1_set _ (by omega) (cell1_set _ (by omega) (cell1_set _ (by omega) (s0))), cell1_set _ (by omega) (cell1_set _ (by omega) (cell1_set _ (by omega) (s1))), cell1_set _ (by omega) (cell1_set _ (by omega) (cell1_set _ (by omega) (s2))), cell1_set _ (by omega) (cell1_set _ (by omega) (cell1_set _ (by omega) (s3)))⟩)
    have HKB := Lib.hid (show (fun w' => w'.cell? ⟨w.heap.size, 0, none⟩ = some (.int .i64 3) ∧ w'.cell? ⟨w.heap.size, 1, none⟩ = some (.int .i64 0) ∧ w'.cell? ⟨w.heap.size, 2, none⟩ = some (.slice none 0 0) ∧ w'.cell? ⟨w.heap.size, 3, none⟩ = some (.string (bs k))) ((((v1.setCell ⟨v0.heap.size, 0, none⟩ (.int .i64 3)).setCell ⟨v0.heap.size, 1, none⟩ (.int .i64 0)).setCell ⟨v0.heap.size, 2, none⟩ (.slice none 0 0)).setCell ⟨v0.heap.size, 6, none⟩ (.string (bs k))) from ⟨cell1_set _ (by omega) (cell1_set _ (by omega) (cell1_set _ (by omega) (cell1_set _ (by omega) (s0)))), cell1_set _ (by omega) (cell1_set _ (by omega) (cell1_set _ (by omega) (cell1_set _ (by omega) (s1)))), cell1_set _ (by omega) (cell1_set _ (by omega) (cell1_set _ (by omega) (cell1_set _ (by omega) (s2)))), cell1_set _ (by omega) (cell1_set _ (by omega) (cell1_set _ (by omega) (cell1_set _ (by omega) (s3))))⟩)
    have g6 : (((v1.setCell ⟨v0.heap.size, 0, none⟩ (.int .i64 3)).setCell ⟨v0.heap.size, 1, none⟩ (.int .i64 0)).setCell ⟨v0.heap.size, 2, none⟩ (.slice none 0 0)).cell? ⟨v0.heap.size, 6, none⟩ = some (.string ⟨#[]⟩) := (((HE.out.set 0 (.int .i64 3)).set 1 (.int .i64 0)).set 2 (.slice none 0 0)).cell 6
    have h6 := (((HE.out.set 0 (.int .i64 3)).set 1 (.int .i64 0)).set 2 (.slice none 0 0)).free 6
    go_upto_region 3 with (fail)
    refine wp_region_held_drew (S := (fun w' => w'.cell? ⟨w.heap.size, 0, none⟩ = some (.int .i64 3) ∧ w'.cell? ⟨w.heap.size, 1, none⟩ = some (.int .i64 0) ∧ w'.cell? ⟨w.heap.size, 2, none⟩ = some (.slice none 0 0) ∧ w'.cell? ⟨w.heap.size, 3, none⟩ = some (.string (bs k)))) (by kernel_rfl) ?_ (fun hHeld => ?_)
    · exact HS0.out
    refine tkY (i := 0) (v := ?vv7) 15 ?yy7 ?_
    case yy7 => intro w hSw; (try dsimp only at hSw); go_simp; (try with_reducible rfl)
    simp only [sA, sB, sC]
    refine tkY (i := 1) (v := ?vv8) 16 ?yy8 ?_
    case yy8 => intro w hSw; (try dsimp only at hSw); go_simp; (try with_reducible rfl)
    simp only [sA, sB, sC]
    refine tkY (i := 2) (v := ?vv9) 17 ?yy9 ?_
    case yy9 => intro w hSw; (try dsimp only at hSw); go_simp; (try with_reducible rfl)
    simp only [sA, sB, sC]
    refine tkY (i := 3) (v := ?vv10) 18 ?yy10 ?_
    case yy10 => intro w hSw; (try dsimp only at hSw); go_simp; (try with_reducible rfl)
    simp only [sA, sB, sC]
    refine tkY (i := 4) (v := ?vv11) 19 ?yy11 ?_
    case yy11 => intro w hSw; (try dsimp only at hSw); go_simp; (try with_reducible rfl)
    simp only [sA, sB, sC]
    refine wpAnyH_ready (rs := [5]) (by kernel_rfl) (by simp) ?_
    refine (AllReadyH.cons rfl (fun K hK => ?_) AllReadyH.nil)
    go_simp
    refine hK.out _ _ ?_ (fun hHeld2 => ?_)
    · exact HKA.out
    clear hK K
    (try simp only [Act.put, sA, sB, sC])
    refine tkY (i := 6) (v := ?vv12) 20 ?yy12 ?_
    case yy12 => intro w hSw; (try dsimp only at hSw); go_simp; (try with_reducible rfl)
    simp only [sA, sB, sC]
    refine wpAnyH_ready (rs := [7]) (by kernel_rfl) (by simp) ?_
    refine (AllReadyH.cons rfl (fun K hK => ?_) AllReadyH.nil)
    go_simp
    refine hK.out _ _ ?_ (fun hHeld3 => ?_)
    · exact HKB.out
    clear hK K
    (try simp only [Act.put, sA, sB, sC])
    refine wpAnyH_done (by kernel_rfl) ?_ _
    generalize hW : ((((v1.setCell ⟨v0.heap.size, 0, none⟩ (.int .i64 3)).setCell ⟨v0.heap.size, 1, none⟩ (.int .i64 0)).setCell ⟨v0.heap.size, 2, none⟩ (.slice none 0 0)).setCell ⟨v0.heap.size, 6, none⟩ (.string (bs k))).drew = v2 at HE2 HRB2 HB2 ⊢
    clear hW hHeld hHeld2 hHeld3 HKA HKB HS0 g6 h6
    clear HE HRB HB HS s0 s1 s2 s3 e0 e1 e2 e3 e4 e5 e6 e7 f0 f1 f2 f6
    have HE := HE2; have HRB := HRB2; have HB := HB2; clear HE2 HRB2 HB2
    obtain ⟨e0, e1, e2, e3, e4, e5, e6, e7⟩ := HE.out.c8
    have r0 : v2.cell? ⟨(w.heap.size + 1), 0, none⟩ = some (.int .i64 0) := HRB.out.cell 0
    have r1 : v2.cell? ⟨(w.heap.size + 1), 1, none⟩ = some (.int .i64 0) := HRB.out.cell 1
    have r2 : v2.cell? ⟨(w.heap.size + 1), 2, none⟩ = some (.slice none 0 0) := HRB.out.cell 2
    have r3 : v2.cell? ⟨(w.heap.size + 1), 3, none⟩ = some (.slice none 0 0) := HRB.out.cell 3
    have r4 : v2.cell? ⟨(w.heap.size + 1), 4, none⟩ = some (.slice none 0 0) := HRB.out.cell 4
    have r5 : v2.cell? ⟨(w.heap.size + 1), 5, none⟩ = some (.slice none 0 0) := HRB.out.cell 5
    have r6 : v2.cell? ⟨(w.heap.size + 1), 6, none⟩ = some (.string ⟨#[]⟩) := HRB.out.cell 6
    have r7 : v2.cell? ⟨(w.heap.size + 1), 7, none⟩ = some (.int .i64 0) := HRB.out.cell 7
    have f0 := HRB.out.free 0
    have f1 := HRB.out.free 1
    have f2 := HRB.out.free 2
    have f3 := HRB.out.free 3
    have f4 := HRB.out.free 4
    have f5 := HRB.out.free 5
    have f6 := HRB.out.free 6
    have f7 := HRB.out.free 7
    have HK := Lib.hid (HRB.out.sets8 (.int .i64 3) (.int .i64 0) (.slice none 0 0) (.slice oa on oc) (.slice none 0 0) (.slice none 0 0) (.string (bs k)) (.int .i64 0))
    go_wp2
    have k0 := HK.out.cell 0
    have k1 := HK.out.cell 1
    have k2 := HK.out.cell 2
    have k3 := HK.out.cell 3
    have k4 := HK.out.cell 4
    have k5 := HK.out.cell 5
    have k6 := HK.out.cell 6
    have k7 := HK.out.cell 7
    simp only [List.getElem?_toArray, List.getElem?_cons_zero, List.getElem?_cons_succ] at k0 k1 k2 k3 k4 k5 k6 k7
    refine bodyPost_ret (v := .agg #[.int .i64 3, .int .i64 0, .slice none 0 0, .slice oa on oc, .slice none 0 0, .slice none 0 0, .string (bs k), .int .i64 0]) (by simp [results, Tryz.results120, go_sem, k0, k1, k2, k3, k4, k5, k6, k7] <;> rfl) rfl ⟨rfl, below_sets8 HB.out _ (by omega) _ _ _ _ _ _ _ _⟩
end Go.Proofs.YtnglaegofhpleaaGreatDoor
namespace Go.Proofs.YtnglaegofhpleaaGreatDoor
open Go.RowKit

def evE (al : Bool) (rd wri : List (List UInt8)) (M : List Pr) (op : Int) (l : List Vl) : Rs × List (List UInt8) :=
  if (stB M && (ftB ⟨al, rd, wri⟩ && l.all varB)) = true then evS al rd M op l else (.ab 1009, [])
theorem vars_are : ∀ (V : List Pr), (V.map Pr.key).Nodup → ∀ i (h : i < V.length), getP V V[i].key = V[i].v
  | [], _, i, h => absurd h (Nat.not_lt_zero _)
  | p :: L, hn, 0, _ => by rw [getP_cons]; simp
  | p :: L, hn, i + 1, h => by
    rw [List.map_cons, List.nodup_cons] at hn
    have hi : i < L.length := by simpa using h
    rw [getP_cons, List.getElem_cons_succ, if_neg, vars_are L hn.2 i hi]
    intro e
    have e2 : p.key = L[i].key := by simpa using e
    exact hn.1 (e2 ▸ List.mem_map.2 ⟨L[i], List.getElem_mem hi, rfl⟩)
theorem take_notin {V : List Pr} (hn : (V.map Pr.key).Nodup) {k : Nat} (hk : k < V.length) : V[k].key ∉ (V.take k).map Pr.key := by
  intro hm
  rw [List.mem_map] at hm
  obtain ⟨p, hp, he⟩ := hm
  obtain ⟨j, hj, hpj⟩ := List.mem_iff_getElem.1 hp
  rw [List.length_take] at hj
  rw [List.getElem_take] at hpj
  have hj2 : j < V.length := by omega
  have h3 : (V.map Pr.key)[j]'(by simpa using hj2) = (V.map Pr.key)[k]'(by simpa using hk) := by rw [List.getElem_map, List.getElem_map, hpj, he]
  exact (List.pairwise_iff_getElem.1 hn) j k (by simpa using hj2) (by simpa using hk) (by omega) h3
theorem allv_bad {V : List Pr} {k : Nat} (hk : k < V.length) {p : Pr} (hp : V[k] = p) (hb : varB p.v = false) : V.all (fun p => varB p.v) = false := by
  rw [List.all_eq_false]; exact ⟨V[k], List.getElem_mem hk, by rw [hp, hb]; simp⟩
theorem allv_next {V : List Pr} {k : Nat} (hk : k < V.length) {p : Pr} (hp : V[k] = p) (hb : varB p.v = true) (h : (V.take k).all (fun p => varB p.v) = true) : (V.take (k + 1)).all (fun p => varB p.v) = true := by
  rw [List.take_succ_eq_append_getElem hk, List.all_append, h, hp]; simp [hb]
theorem Mp.ne {m b : Nat} {L : List Pr} {cs : Array Value} {T : TypeId} {W : World} (h : Mp m L W) (hb : Bx b cs T W) : m ≠ b := by
  intro e; subst e
  obtain ⟨_, _, h1, _⟩ := h
  exact absurd (h1.symm.trans hb) (by intro h; cases h)
theorem boxes4 (w : World) (A B C D : Array Value) (S T U X : TypeId) : ∃ v0, (((w.alloc (.cells A S)).alloc (.cells B T)).alloc (.cells C U)).alloc (.cells D X) = v0 ∧ Below w.heap.size w v0 ∧ Bx w.heap.size A S v0 ∧ Bx (w.heap.size + 1) B T v0 ∧ Bx (w.heap.size + 2) C U v0 ∧ Bx (w.heap.size + 3) D X v0 := by
  have h2 := Bx.new1 w (.cells A S) B T
  have h3 := Bx.new2 w (.cells A S) (.cells B T) C U
  have h4 := Bx.new (((w.alloc (.cells A S)).alloc (.cells B T)).alloc (.cells C U)) D X
  rw [show (((w.alloc (.cells A S)).alloc (.cells B T)).alloc (.cells C U)).heap.size = w.heap.size + 3 by simp] at h4
  exact ⟨_, rfl, ((((Below.refl w.heap.size w).alloc (Nat.le_refl _) _).alloc (by simp) _).alloc (by simp; omega) _).alloc (by simp; omega) _, (((Bx.new w A S).alloc _).alloc _).alloc _, (h2.alloc _).alloc _, h3.alloc _, h4⟩

set_option maxRecDepth 100000 in
set_option maxHeartbeats 32000000 in
theorem Eval_any (sa ra wa va aa : Option Addr) (sc rc wc vc ac : Nat) (M : List Pr) (al : Bool) (rd wri : List (List UInt8)) (op : Int) (V : List Pr) (names : List (List UInt8)) (vals : List Vl) (hnk : V.map Pr.key = names) (hvv : V.map Pr.v = vals) (hnd : names.Nodup) (hnm : ∀ x ∈ names, isNm x = true ∧ x.length ≤ 1000000) (hop : (vals.length = 1 ∧ (op = 9 ∨ op = 18 ∨ op = 20 ∨ op = 21 ∨ op = 22 ∨ op = 23 ∨ op = 24)) ∨ (vals.length = 2 ∧ 4 ≤ op ∧ op ≤ 19 ∧ op ≠ 9 ∧ op ≠ 18)) (hok : ∀ v ∈ vals, OkV v) (hML : ∀ p ∈ M, p.key.length ≤ 9223372036854775807 ∧ p.v.s.length ≤ 9223372036854775807) (hRL : ∀ q ∈ rd ++ wri, q.length ≤ 9223372036854775807) (hl1 : M.length ≤ 9000000000000) (hl2 : rd.length ≤ 9000000000000) (hl3 : wri.length ≤ 9000000000000) (w : World) (hM : CellsAt w (.slice sa M.length sc) M.length (prLs M)) (hR : StrS w (.slice ra rd.length rc) rd) (hWr : StrS w (.slice wa wri.length wc) wri) (hVs : CellsAt w (.slice va V.length vc) V.length (prLs V)) (hA : CellsAt w (.slice aa vals.length ac) vals.length (exLs names)) (hLd : Laid w) :
    Calls Tryz.prog 93 #[.agg #[.int .i64 op, .int .i64 0, .string ⟨#[]⟩, .slice aa vals.length ac], .slice va V.length vc, .slice sa M.length sc, .agg #[.bool al, .slice ra rd.length rc, .slice wa wri.length wc]] w fun e w' => ∃ rv, e = .returned (.tuple #[.agg (vEnd (evE al rd wri M op vals).1), .agg (efA (evE al rd wri M op vals).1 rv)]) ∧ w'.ownsRow w.heap.size 9 1 rv (evE al rd wri M op vals).2.length ((evE al rd wri M op vals).2.map strV) ∧ Below w.heap.size w w' := by
  obtain ⟨⟨R, ks⟩, hU⟩ : ∃ x, evE al rd wri M op vals = x := ⟨_, rfl⟩
  rw [hU]
  simp only
  have hall : vals.all varB = V.all (fun p => varB p.v) := by rw [← hvv, List.all_map]; rfl
  have hvl : vals.length = V.length := by rw [← hvv, List.length_map]
  have hnl : names.length = V.length := by rw [← hnk, List.length_map]
  have hva : VarsAre V names vals := by
    refine ⟨by omega, fun k h h2 => ?_⟩
    have hk : k < V.length := by omega
    have e1 : names[k] = V[k].key := by subst hnk; exact List.getElem_map _
    have e2 : vals[k] = V[k].v := by subst hvv; exact List.getElem_map _
    rw [e1, e2]
    exact ⟨hasK_at hk rfl, vars_are V (hnk ▸ hnd) k hk⟩
  have hndV : (V.map Pr.key).Nodup := hnk ▸ hnd
  have har : arS op = (vals.length : Int) := by rcases hop with ⟨h, h1⟩ | ⟨h, h1⟩ <;> rw [h] <;> unfold arS <;> simp <;> omega
  have h4 : 4 ≤ op := by omega
  have hvb : vals.length ≤ 2 := by omega
  have hlv : V.length ≤ 2 := by omega
  have hokv : ∀ p ∈ V, OkV p.v := fun p hp => hok p.v (hvv ▸ List.mem_map.2 ⟨p, hp, rfl⟩)
  have HOV := Lib.hid hokv; clear hokv
  have HU := Lib.hid hU; have HALL := Lib.hid hall; have HVA := Lib.hid hva; have HND := Lib.hid hndV; have HAR := Lib.hid har; have HOP := Lib.hid hop; have HOK := Lib.hid hok; have HML := Lib.hid hML; have HRL := Lib.hid hRL; have HM := Lib.hid hM; have HRS := Lib.hid hR; have HWR := Lib.hid hWr; have HVS := Lib.hid hVs; have HA := Lib.hid hA; have HLD := Lib.hid hLd; have HNM := Lib.hid hnm; have HVL := Lib.hid hvl; have HNL := Lib.hid hnl; clear hU hall hva hndV har hop hok hML hRL hM hR hWr hVs hA hLd hnm hnd hnk hvv hvl hnl
  obtain ⟨v0, hW0, hb, hE, hF, h1, h2⟩ := boxes4 w #[.int .i64 op, .int .i64 0, .string ⟨#[]⟩, .slice aa vals.length ac] #[.bool al, .slice ra rd.length rc, .slice wa wri.length wc] #[.int .i64 0, .int .i64 0, .string ⟨#[]⟩] #[.int .i64 0, .int .i64 0, .slice none 0 0, .slice none 0 0, .slice none 0 0, .slice none 0 0, .string ⟨#[]⟩, .int .i64 0] 116 29 52 37
  have HW0 := Lib.hid hW0; have HW := Lib.hid hb; have HE := Lib.hid hE; have HF := Lib.hid hF; have HR1 := Lib.hid h1; have HR2 := Lib.hid h2; clear hW0 hb hE hF h1 h2
  go_enter Tryz.func93, Tryz.ntmps93
  go_upto_region 1 with (fail)
  rw [HW0.out]
  clear HW0
  obtain ⟨e0, e1, e2, e3⟩ := HE.out.c4
  obtain ⟨g0, g1, g2⟩ := HF.out.c3
  go_wp2_with fail
  refine (ValidExpr_any op vals.length aa ac names h4 HAR.out (by have := HVL.out; have := HNL.out; omega) hvb HNM.out _ (HA.out.below HW.out)).mono ?_
  rintro er w1 ⟨rfl, hb1⟩
  clear e0 e1 e2 e3 g0 g1 g2
  have HE := Lib.hid (HE.out.call hb1); have HF := Lib.hid (HF.out.call hb1); have HR1 := Lib.hid (HR1.out.call hb1); have HR2 := Lib.hid (HR2.out.call hb1); have HW := Lib.hid (btrans HW.out HW.out.size hb1); clear hb1
  obtain ⟨g0, g1, g2⟩ := HF.out.c3
  go_wp2_with fail
  refine (SValid_any sa sc M _ hl1 HML.out (HM.out.below HW.out)).mono ?_
  obtain ⟨sb, hsb⟩ : ∃ b, stB M = b := ⟨_, rfl⟩
  rw [hsb]
  rintro er w2 ⟨rfl, hb2⟩
  have HSB := Lib.hid hsb
  clear hsb g0 g1 g2
  have HE := Lib.hid (HE.out.call hb2); have HF := Lib.hid (HF.out.call hb2); have HR1 := Lib.hid (HR1.out.call hb2); have HR2 := Lib.hid (HR2.out.call hb2); have HW := Lib.hid (btrans HW.out HW.out.size hb2); clear hb2
  cases sb with
  | false =>
    have hUU : (R, ks) = (Rs.ab 1009, []) := HU.out.symm.trans (if_neg (by rw [HSB.out]; simp))
    obtain ⟨rfl, rfl⟩ := pair_eq hUU
    clear hUU
    go_wp2_with fail
    refine (iwrong_any _).mono ?_
    rintro er w9 ⟨rfl, hb9⟩
    have HR1 := Lib.hid (HR1.out.call hb9); have HR2 := Lib.hid (HR2.out.call hb9); have HW := Lib.hid (btrans HW.out HW.out.size hb9); clear hb9
    obtain ⟨r0, r1, r2⟩ := HR1.out.c3
    have f0 := HR1.out.free 0
    have f1 := HR1.out.free 1
    have f2 := HR1.out.free 2
    have HA1 := Lib.hid (HR1.out.sets3 (.int .i64 0) (.int .i64 0) (.string ⟨#[]⟩))
    have HA2 := Lib.hid (HR2.out.sets3_ne (c := w.heap.size + 2) (by omega) (.int .i64 0) (.int .i64 0) (.string ⟨#[]⟩))
    have HAW := Lib.hid (below_sets3 HW.out (w.heap.size + 2) (by omega) (.int .i64 0) (.int .i64 0) (.string ⟨#[]⟩))
    obtain ⟨s0, s1, s2, s3, s4, s5, s6, s7⟩ := HA2.out.c8
    have z0 := HA2.out.free 0
    have z1 := HA2.out.free 1
    have z2 := HA2.out.free 2
    have z3 := HA2.out.free 3
    have z4 := HA2.out.free 4
    have z5 := HA2.out.free 5
    have z6 := HA2.out.free 6
    have z7 := HA2.out.free 7
    have HB1 := Lib.hid ((((((((HA1.out.other (c := w.heap.size + 3) (i := 0) (by omega) (.int .i64 2)).other (c := w.heap.size + 3) (i := 1) (by omega) (.int .i64 1009)).other (c := w.heap.size + 3) (i := 2) (by omega) (.slice none 0 0)).other (c := w.heap.size + 3) (i := 3) (by omega) (.slice none 0 0)).other (c := w.heap.size + 3) (i := 4) (by omega) (.slice none 0 0)).other (c := w.heap.size + 3) (i := 5) (by omega) (.slice none 0 0)).other (c := w.heap.size + 3) (i := 6) (by omega) (.string ⟨#[]⟩)).other (c := w.heap.size + 3) (i := 7) (by omega) (.int .i64 0))
    have HB2 := Lib.hid (HA2.out.sets8 (.int .i64 2) (.int .i64 1009) (.slice none 0 0) (.slice none 0 0) (.slice none 0 0) (.slice none 0 0) (.string ⟨#[]⟩) (.int .i64 0))
    have HBW := Lib.hid (below_sets8 HAW.out (w.heap.size + 3) (by omega) (.int .i64 2) (.int .i64 1009) (.slice none 0 0) (.slice none 0 0) (.slice none 0 0) (.slice none 0 0) (.string ⟨#[]⟩) (.int .i64 0))
    go_wp2
    obtain ⟨k0, k1, k2⟩ := HB1.out.c3
    obtain ⟨l0, l1, l2, l3, l4, l5, l6, l7⟩ := HB2.out.c8
    refine bodyPost_ret (v := .tuple #[.agg #[.int .i64 0, .int .i64 0, .string ⟨#[]⟩], .agg #[.int .i64 2, .int .i64 1009, .slice none 0 0, .slice none 0 0, .slice none 0 0, .slice none 0 0, .string ⟨#[]⟩, .int .i64 0]]) (by simp [results, Tryz.results93, go_sem, k0, k1, k2, l0, l1, l2, l3, l4, l5, l6, l7] <;> rfl) rfl ⟨(.slice none 0 0), rfl, own_nil _ _ _ _, HBW.out⟩
  | true =>
    obtain ⟨g0, g1, g2⟩ := HF.out.c3
    go_wp2_with fail
    refine (ivalid_any al ra wa rc wc rd wri _ (HRS.out.below HW.out) (HWR.out.below HW.out) ⟨hl2, hl3⟩ HRL.out).mono ?_
    obtain ⟨fb, hfb⟩ : ∃ b, ftB ⟨al, rd, wri⟩ = b := ⟨_, rfl⟩
    rw [hfb]
    rintro er w3 ⟨rfl, hb3⟩
    have HFB := Lib.hid hfb
    clear hfb g0 g1 g2
    have HE := Lib.hid (HE.out.call hb3); have HF := Lib.hid (HF.out.call hb3); have HR1 := Lib.hid (HR1.out.call hb3); have HR2 := Lib.hid (HR2.out.call hb3); have HW := Lib.hid (btrans HW.out HW.out.size hb3); clear hb3
    cases fb with
    | false =>
      have hUU : (R, ks) = (Rs.ab 1009, []) := HU.out.symm.trans (if_neg (by rw [HFB.out]; simp))
      obtain ⟨rfl, rfl⟩ := pair_eq hUU
      clear hUU
      go_wp2_with fail
      refine (iwrong_any _).mono ?_
      rintro er w9 ⟨rfl, hb9⟩
      have HR1 := Lib.hid (HR1.out.call hb9); have HR2 := Lib.hid (HR2.out.call hb9); have HW := Lib.hid (btrans HW.out HW.out.size hb9); clear hb9
      obtain ⟨r0, r1, r2⟩ := HR1.out.c3
      have f0 := HR1.out.free 0
      have f1 := HR1.out.free 1
      have f2 := HR1.out.free 2
      have HA1 := Lib.hid (HR1.out.sets3 (.int .i64 0) (.int .i64 0) (.string ⟨#[]⟩))
      have HA2 := Lib.hid (HR2.out.sets3_ne (c := w.heap.size + 2) (by omega) (.int .i64 0) (.int .i64 0) (.string ⟨#[]⟩))
      have HAW := Lib.hid (below_sets3 HW.out (w.heap.size + 2) (by omega) (.int .i64 0) (.int .i64 0) (.string ⟨#[]⟩))
      obtain ⟨s0, s1, s2, s3, s4, s5, s6, s7⟩ := HA2.out.c8
      have z0 := HA2.out.free 0
      have z1 := HA2.out.free 1
      have z2 := HA2.out.free 2
      have z3 := HA2.out.free 3
      have z4 := HA2.out.free 4
      have z5 := HA2.out.free 5
      have z6 := HA2.out.free 6
      have z7 := HA2.out.free 7
      have HB1 := Lib.hid ((((((((HA1.out.other (c := w.heap.size + 3) (i := 0) (by omega) (.int .i64 2)).other (c := w.heap.size + 3) (i := 1) (by omega) (.int .i64 1009)).other (c := w.heap.size + 3) (i := 2) (by omega) (.slice none 0 0)).other (c := w.heap.size + 3) (i := 3) (by omega) (.slice none 0 0)).other (c := w.heap.size + 3) (i := 4) (by omega) (.slice none 0 0)).other (c := w.heap.size + 3) (i := 5) (by omega) (.slice none 0 0)).other (c := w.heap.size + 3) (i := 6) (by omega) (.string ⟨#[]⟩)).other (c := w.heap.size + 3) (i := 7) (by omega) (.int .i64 0))
      have HB2 := Lib.hid (HA2.out.sets8 (.int .i64 2) (.int .i64 1009) (.slice none 0 0) (.slice none 0 0) (.slice none 0 0) (.slice none 0 0) (.string ⟨#[]⟩) (.int .i64 0))
      have HBW := Lib.hid (below_sets8 HAW.out (w.heap.size + 3) (by omega) (.int .i64 2) (.int .i64 1009) (.slice none 0 0) (.slice none 0 0) (.slice none 0 0) (.slice none 0 0) (.string ⟨#[]⟩) (.int .i64 0))
      go_wp2
      obtain ⟨k0, k1, k2⟩ := HB1.out.c3
      obtain ⟨l0, l1, l2, l3, l4, l5, l6, l7⟩ := HB2.out.c8
      refine bodyPost_ret (v := .tuple #[.agg #[.int .i64 0, .int .i64 0, .string ⟨#[]⟩], .agg #[.int .i64 2, .int .i64 1009, .slice none 0 0, .slice none 0 0, .slice none 0 0, .slice none 0 0, .string ⟨#[]⟩, .int .i64 0]]) (by simp [results, Tryz.results93, go_sem, k0, k1, k2, l0, l1, l2, l3, l4, l5, l6, l7] <;> rfl) rfl ⟨(.slice none 0 0), rfl, own_nil _ _ _ _, HBW.out⟩
    | true =>
      obtain ⟨g0, g1, g2⟩ := HF.out.c3
      go_wp2_with fail
      refine (newM_any sa ra wa sc rc wc M al rd wri _).mono ?_
      rintro er w4 ⟨mb, vm, om, rfl, hb4, hx, hv, ho, hmb, hvm, hom, hvo⟩
      have hw3 := HR2.out.lt
      clear g0 g1 g2
      have HX := Lib.hid hx; have HV := Lib.hid hv; have HO := Lib.hid ho; clear hx hv ho
      have HE := Lib.hid (HE.out.call hb4); have HF := Lib.hid (HF.out.call hb4); have HR1 := Lib.hid (HR1.out.call hb4); have HR2 := Lib.hid (HR2.out.call hb4); have HW := Lib.hid (btrans HW.out HW.out.size hb4); clear hb4
      obtain ⟨tb, htb⟩ : ∃ n, w4.heap.size = n := ⟨_, rfl⟩
      have hxl := HX.out.lt; have hvl := HV.out.lt; have hol := HO.out.lt
      have hb5 := (Below.refl w4.heap.size w4).alloc (Nat.le_refl _) (.cells #[.pointer (some ⟨mb, 0, none⟩)] 138)
      have hT := Bx.new w4 #[.pointer (some ⟨mb, 0, none⟩)] 138
      rw [htb] at hT
      have HT := Lib.hid hT; clear hT
      have HX := Lib.hid (HX.out.call hb5); have HV := Lib.hid (HV.out.call hb5); have HO := Lib.hid (HO.out.call hb5)
      clear HF
      have HE := Lib.hid (HE.out.call hb5); have HR1 := Lib.hid (HR1.out.call hb5); have HR2 := Lib.hid (HR2.out.call hb5); have HW := Lib.hid (btrans HW.out HW.out.size hb5); clear hb5
      rw [htb] at hxl hvl hol
      go_upto_region 4 with (fail)
      generalize hW : w4.alloc (.cells #[.pointer (some ⟨mb, 0, none⟩)] 138) = v1 at HE HR1 HR2 HT HX HV HO HW ⊢
      clear hW
      (try rw [htb])
      clear htb
      go_wp2
      go_loopw [38] (fun i wr => ∃ k : Nat, k ≤ V.length ∧ i = .int .i64 k ∧ Hid ((V.take k).all (fun p => varB p.v) = true) ∧ Hid (Bx w.heap.size #[.int .i64 op, .int .i64 0, .string ⟨#[]⟩, .slice aa vals.length ac] 116 wr) ∧ Hid (Bx (w.heap.size + 2) #[.int .i64 0, .int .i64 0, .string ⟨#[]⟩] 52 wr) ∧ Hid (Bx (w.heap.size + 3) #[.int .i64 0, .int .i64 0, .slice none 0 0, .slice none 0 0, .slice none 0 0, .slice none 0 0, .string ⟨#[]⟩, .int .i64 0] 37 wr) ∧ Hid (Bx tb #[.pointer (some ⟨mb, 0, none⟩)] 138 wr) ∧ Hid (Bx mb #[.slice sa M.length sc, .bool al, .slice ra rd.length rc, .slice wa wri.length wc, .map (some vm), .map (some om), .int .i64 0, .int .i64 0, .slice none 0 0, .slice none 0 0, .slice none 0 0, .slice none 0 0, .string ⟨#[]⟩, .int .i64 0] 143 wr) ∧ Hid (Mp vm (V.take k) wr) ∧ Hid (Mp om [] wr) ∧ Below w.heap.size w wr) (fun i _ => V.length - (intOf i).toNat)
      case atStart => exact ⟨0, Nat.zero_le _, by first | exact True.intro | rfl, Lib.hid rfl, HE, HR1, HR2, HT, HX, HV, HO, HW.out⟩
      case round =>
        clear HE HR1 HR2 HT HX HV HO HW
        obtain ⟨k, hk, rfl, HQ, HE, HR1, HR2, HT, HX, HV, HO, hW⟩ := hrel
        have HW := Lib.hid hW; clear hW
        by_cases hlt : k < V.length
        · have hlt' : (k : Int) < (V.length : Int) := by omega
          have hkb : (0 : Int) ≤ (k : Int) ∧ (k : Int) < (V.length : Int) := ⟨by omega, by omega⟩
          have hw1 : IntKind.i64.wrap ((k : Int) + 1) = (k : Int) + 1 := by rw [IntKind.wrap_i64]; omega
          obtain ⟨b, off, rfl, p0, p1, p2, p3⟩ := pr_cells (HVS.out.below HW.out) hlt
          obtain ⟨p, hp⟩ : ∃ p, V[k] = p := ⟨_, rfl⟩
          rw [hp] at p0 p1 p2 p3
          have HP := Lib.hid hp; clear hp
          have hb1 := (Below.refl wr.heap.size wr).alloc (Nat.le_refl _) (.cells #[.string (bs p.key), .int .i64 p.v.k, .int .i64 p.v.n, .string (bs p.v.s)] 55)
          have HPB := Lib.hid (Bx.new wr #[.string (bs p.key), .int .i64 p.v.k, .int .i64 p.v.n, .string (bs p.v.s)] 55)
          have hpl := HT.out.lt; have hpx := HX.out.lt; have hpv := HV.out.lt; have hpo := HO.out.lt
          have HE := Lib.hid (HE.out.call hb1); have HR1 := Lib.hid (HR1.out.call hb1); have HR2 := Lib.hid (HR2.out.call hb1); have HT := Lib.hid (HT.out.call hb1); have HX := Lib.hid (HX.out.call hb1); have HV := Lib.hid (HV.out.call hb1); have HO := Lib.hid (HO.out.call hb1); have HW := Lib.hid (btrans HW.out HW.out.size hb1); clear hb1
          go_upto_region 7 with (fail)
          obtain ⟨pb, hpb⟩ : ∃ n, wr.heap.size = n := ⟨_, rfl⟩
          rw [hpb] at HPB hpl hpx hpv hpo
          generalize hW : wr.alloc (.cells #[.string (bs p.key), .int .i64 p.v.k, .int .i64 p.v.n, .string (bs p.v.s)] 55) = v2 at HE HR1 HR2 HT HX HV HO HW HPB ⊢
          clear hW p0 p1 p2 p3
          (try rw [hpb])
          clear hpb
          obtain ⟨p0, p1, p2, p3⟩ := HPB.out.c4
          obtain ⟨vb2, hvb2⟩ : ∃ b, varB p.v = b := ⟨_, rfl⟩
          have HVB := Lib.hid hvb2; clear hvb2
          have hps : p.v.s.length ≤ 9223372036854775807 := by have := (HOV.out p (HP.out ▸ List.getElem_mem _)).2.2; omega
          go_wp2_with fail
          refine (ivariable_any p.v _ hps).mono ?_
          rw [HVB.out]
          rintro er w5 ⟨rfl, hb5⟩
          clear p0 p1 p2 p3
          have HE := Lib.hid (HE.out.call hb5); have HR1 := Lib.hid (HR1.out.call hb5); have HR2 := Lib.hid (HR2.out.call hb5); have HT := Lib.hid (HT.out.call hb5); have HX := Lib.hid (HX.out.call hb5); have HV := Lib.hid (HV.out.call hb5); have HO := Lib.hid (HO.out.call hb5); have HPB := Lib.hid (HPB.out.call hb5); have HW := Lib.hid (btrans HW.out HW.out.size hb5); clear hb5
          cases vb2 with
          | false =>
            have hUU : (R, ks) = (Rs.ab 1009, []) := HU.out.symm.trans (if_neg (by rw [HALL.out, allv_bad hlt HP.out HVB.out]; simp))
            obtain ⟨rfl, rfl⟩ := pair_eq hUU
            clear hUU
            go_wp2_with fail
            refine (iwrong_any _).mono ?_
            rintro er w9 ⟨rfl, hb9⟩
            have HR1 := Lib.hid (HR1.out.call hb9); have HR2 := Lib.hid (HR2.out.call hb9); have HW := Lib.hid (btrans HW.out HW.out.size hb9); clear hb9
            obtain ⟨r0, r1, r2⟩ := HR1.out.c3
            have f0 := HR1.out.free 0
            have f1 := HR1.out.free 1
            have f2 := HR1.out.free 2
            have HA1 := Lib.hid (HR1.out.sets3 (.int .i64 0) (.int .i64 0) (.string ⟨#[]⟩))
            have HA2 := Lib.hid (HR2.out.sets3_ne (c := w.heap.size + 2) (by omega) (.int .i64 0) (.int .i64 0) (.string ⟨#[]⟩))
            have HAW := Lib.hid (below_sets3 HW.out (w.heap.size + 2) (by omega) (.int .i64 0) (.int .i64 0) (.string ⟨#[]⟩))
            obtain ⟨s0, s1, s2, s3, s4, s5, s6, s7⟩ := HA2.out.c8
            have z0 := HA2.out.free 0
            have z1 := HA2.out.free 1
            have z2 := HA2.out.free 2
            have z3 := HA2.out.free 3
            have z4 := HA2.out.free 4
            have z5 := HA2.out.free 5
            have z6 := HA2.out.free 6
            have z7 := HA2.out.free 7
            have HB1 := Lib.hid ((((((((HA1.out.other (c := w.heap.size + 3) (i := 0) (by omega) (.int .i64 2)).other (c := w.heap.size + 3) (i := 1) (by omega) (.int .i64 1009)).other (c := w.heap.size + 3) (i := 2) (by omega) (.slice none 0 0)).other (c := w.heap.size + 3) (i := 3) (by omega) (.slice none 0 0)).other (c := w.heap.size + 3) (i := 4) (by omega) (.slice none 0 0)).other (c := w.heap.size + 3) (i := 5) (by omega) (.slice none 0 0)).other (c := w.heap.size + 3) (i := 6) (by omega) (.string ⟨#[]⟩)).other (c := w.heap.size + 3) (i := 7) (by omega) (.int .i64 0))
            have HB2 := Lib.hid (HA2.out.sets8 (.int .i64 2) (.int .i64 1009) (.slice none 0 0) (.slice none 0 0) (.slice none 0 0) (.slice none 0 0) (.string ⟨#[]⟩) (.int .i64 0))
            have HBW := Lib.hid (below_sets8 HAW.out (w.heap.size + 3) (by omega) (.int .i64 2) (.int .i64 1009) (.slice none 0 0) (.slice none 0 0) (.slice none 0 0) (.slice none 0 0) (.string ⟨#[]⟩) (.int .i64 0))
            go_wp2
            obtain ⟨k0, k1, k2⟩ := HB1.out.c3
            obtain ⟨l0, l1, l2, l3, l4, l5, l6, l7⟩ := HB2.out.c8
            refine bodyPost_ret (v := .tuple #[.agg #[.int .i64 0, .int .i64 0, .string ⟨#[]⟩], .agg #[.int .i64 2, .int .i64 1009, .slice none 0 0, .slice none 0 0, .slice none 0 0, .slice none 0 0, .string ⟨#[]⟩, .int .i64 0]]) (by simp [results, Tryz.results93, go_sem, k0, k1, k2, l0, l1, l2, l3, l4, l5, l6, l7] <;> rfl) rfl ⟨(.slice none 0 0), rfl, own_nil _ _ _ _, HBW.out⟩
          | true =>
            have hni : hasK (V.take k) p.key = false := hasK_none (HP.out ▸ take_notin HND.out hlt)
            have hgn : getP (V.take k) p.key = v00 := getP_none _ (HP.out ▸ take_notin HND.out hlt)
            have HNI := Lib.hid hni; have HGN := Lib.hid hgn; clear hni hgn
            go_wp2_with fail
            have hs0 : ((fun w' => Bx tb #[.pointer (some ⟨mb, 0, none⟩)] 138 w' ∧ Bx mb #[.slice sa M.length sc, .bool al, .slice ra rd.length rc, .slice wa wri.length wc, .map (some vm), .map (some om), .int .i64 0, .int .i64 0, .slice none 0 0, .slice none 0 0, .slice none 0 0, .slice none 0 0, .string ⟨#[]⟩, .int .i64 0] 143 w' ∧ Bx pb #[.string (bs p.key), .int .i64 p.v.k, .int .i64 p.v.n, .string (bs p.v.s)] 55 w' ∧ Mp vm (V.take k) w')) w5.drew := ⟨HT.out, HX.out, HPB.out, HV.out⟩
            have HS0 := Lib.hid hs0; clear hs0
            refine wp_region_held_drew (S := (fun w' => Bx tb #[.pointer (some ⟨mb, 0, none⟩)] 138 w' ∧ Bx mb #[.slice sa M.length sc, .bool al, .slice ra rd.length rc, .slice wa wri.length wc, .map (some vm), .map (some om), .int .i64 0, .int .i64 0, .slice none 0 0, .slice none 0 0, .slice none 0 0, .slice none 0 0, .string ⟨#[]⟩, .int .i64 0] 143 w' ∧ Bx pb #[.string (bs p.key), .int .i64 p.v.k, .int .i64 p.v.n, .string (bs p.v.s)] 55 w' ∧ Mp vm (V.take k) w')) (by kernel_rfl) ?_ (fun hHeld => ?_)
            · exact HS0.out
            refine tkY (i := 0) (v := ?vv1) 49 ?yy1 ?_
            case yy1 =>
              intro wq hSw
              have t0 : wq.cell? ⟨tb, 0, none⟩ = some (.pointer (some ⟨mb, 0, none⟩)) := hSw.1.cell 0
              clear hSw
              go_simp
              (try with_reducible rfl)
            simp only [sA, sB, sC]
            refine tkY (i := 1) (v := ?vv2) 50 ?yy2 ?_
            case yy2 => intro w hSw; (try dsimp only at hSw); go_simp; (try with_reducible rfl)
            simp only [sA, sB, sC]
            refine tkY (i := 2) (v := ?vv3) 51 ?yy3 ?_
            case yy3 => intro w hSw; (try dsimp only at hSw); go_simp; (try with_reducible rfl)
            simp only [sA, sB, sC]
            refine tkY (i := 3) (v := ?vv4) 52 ?yy4 ?_
            case yy4 =>
              intro wq hSw
              obtain ⟨m0, m1, m2, m3, m4, -⟩ := hSw.2.1.c14
              clear hSw
              go_simp
              (try with_reducible rfl)
            simp only [sA, sB, sC]
            refine tkY (i := 4) (v := ?vv5) 53 ?yy5 ?_
            case yy5 => intro w hSw; (try dsimp only at hSw); go_simp; (try with_reducible rfl)
            simp only [sA, sB, sC]
            refine tkY (i := 5) (v := ?vv6) 54 ?yy6 ?_
            case yy6 =>
              intro wq hSw
              obtain ⟨p0, p1, p2, p3⟩ := hSw.2.2.1.c4
              clear hSw
              go_simp
              (try with_reducible rfl)
            simp only [sA, sB, sC]
            refine tkY (i := 6) (v := ?vv7) 55 ?yy7 ?_
            case yy7 =>
              intro wq hSw
              have hlk := run_look hSw.2.2.2 p.key
              rw [HGN.out, HNI.out] at hlk
              simp only [vV, v00] at hlk
              clear hSw
              go_simp
              (try with_reducible rfl)
            simp only [sA, sB, sC]
            refine tkY (i := 7) (v := ?vv8) 48 ?yy8 ?_
            case yy8 => intro w hSw; (try dsimp only at hSw); go_simp; (try with_reducible rfl)
            simp only [sA, sB, sC]
            refine tkY (i := 8) (v := ?vv9) 56 ?yy9 ?_
            case yy9 => intro w hSw; (try dsimp only at hSw); go_simp; (try with_reducible rfl)
            simp only [sA, sB, sC]
            refine tkY (i := 9) (v := ?vv10) 57 ?yy10 ?_
            case yy10 => intro w hSw; (try dsimp only at hSw); go_simp; (try with_reducible rfl)
            simp only [sA, sB, sC]
            refine wpAnyH_ready (rs := [10]) (by kernel_rfl) (by simp) ?_
            refine (AllReadyH.cons rfl (fun K hK => ?_) AllReadyH.nil)
            go_simp
            skip
            focus (try go_wp2_with fail)
            refine hK.out _ _ ?_ (fun hHeld => ?_)
            · exact ⟨hHeld.1.alloc _, hHeld.2.1.alloc _, hHeld.2.2.1.alloc _, hHeld.2.2.2.call ((Below.refl _ _).alloc (Nat.le_refl _) _)⟩
            clear hK K
            (try simp only [Act.put, sA, sB, sC])
            have hszw := HPB.out.lt
            have hb6 := (Below.refl w5.heap.size w5).drew.alloc (Nat.le_refl _) (.cells #[.int .i64 0, .int .i64 0, .string ⟨#[]⟩] 52)
            have HN := Lib.hid (show Bx w5.heap.size #[.int .i64 0, .int .i64 0, .string ⟨#[]⟩] 52 (w5.drew.alloc (.cells #[.int .i64 0, .int .i64 0, .string ⟨#[]⟩] 52)) from Bx.new w5.drew #[.int .i64 0, .int .i64 0, .string ⟨#[]⟩] 52)
            have HE := Lib.hid (HE.out.call hb6); have HR1 := Lib.hid (HR1.out.call hb6); have HR2 := Lib.hid (HR2.out.call hb6); have HT := Lib.hid (HT.out.call hb6); have HX := Lib.hid (HX.out.call hb6); have HV := Lib.hid (HV.out.call hb6); have HO := Lib.hid (HO.out.call hb6); have HPB := Lib.hid (HPB.out.call hb6); have HW := Lib.hid (btrans HW.out HW.out.size hb6); clear hb6
            clear hHeld HS0
            (try rw [show (w5.alloc (.cells #[.int .i64 0, .int .i64 0, .string ⟨#[]⟩] 52)).drew = w5.drew.alloc (.cells #[.int .i64 0, .int .i64 0, .string ⟨#[]⟩] 52) from rfl])
            generalize hW : w5.drew.alloc (.cells #[.int .i64 0, .int .i64 0, .string ⟨#[]⟩] 52) = v3 at HE HR1 HR2 HT HX HV HO HW HPB HN ⊢
            clear hW
            obtain ⟨nb, hnb⟩ : ∃ n, w5.heap.size = n := ⟨_, rfl⟩
            rw [hnb] at HN hszw
            (try rw [hnb])
            skip
            have hvx := HV.out.ne HX.out; have hox := HO.out.ne HX.out
            obtain ⟨n0, n1, n2⟩ := HN.out.c3
            have y0 := HN.out.free 0
            have y1 := HN.out.free 1
            have y2 := HN.out.free 2
            have hbig : w.heap.size + 3 < nb := by omega
            have HKK := Lib.hid (show ((fun w' => Bx tb #[.pointer (some ⟨mb, 0, none⟩)] 138 w' ∧ Bx mb #[.slice sa M.length sc, .bool al, .slice ra rd.length rc, .slice wa wri.length wc, .map (some vm), .map (some om), .int .i64 0, .int .i64 0, .slice none 0 0, .slice none 0 0, .slice none 0 0, .slice none 0 0, .string ⟨#[]⟩, .int .i64 0] 143 w' ∧ Bx pb #[.string (bs p.key), .int .i64 p.v.k, .int .i64 p.v.n, .string (bs p.v.s)] 55 w' ∧ Mp vm (V.take k) w')) (((v3.setCell ⟨nb, 0, none⟩ (.int .i64 0)).setCell ⟨nb, 1, none⟩ (.int .i64 0)).setCell ⟨nb, 2, none⟩ (.string (bs []))) from ⟨HT.out.sets3_ne (c := nb) (by omega) (.int .i64 0) (.int .i64 0) (.string (bs [])), HX.out.sets3_ne (c := nb) (by omega) (.int .i64 0) (.int .i64 0) (.string (bs [])), HPB.out.sets3_ne (c := nb) (by omega) (.int .i64 0) (.int .i64 0) (.string (bs [])), HV.out.sets3 (b := nb) (by omega) (.int .i64 0) (.int .i64 0) (.string (bs []))⟩)
            refine wpAnyH_ready (rs := [11]) (by kernel_rfl) (by simp) ?_
            refine (AllReadyH.cons rfl (fun K hK => ?_) AllReadyH.nil)
            go_simp
            focus (try go_wp2_with fail)
            refine hK.out _ _ ?_ (fun hHeld => ?_)
            · exact HKK.out
            clear hK K
            (try simp only [Act.put, sA, sB, sC])
            refine tkY (i := 12) (v := ?vv11) 14 ?yy11 ?_
            case yy11 => intro w hSw; (try dsimp only at hSw); go_simp; (try with_reducible rfl)
            simp only [sA, sB, sC]
            refine wpAnyH_done (by kernel_rfl) ?_ _
            have HE2 := Lib.hid (HE.out.sets3_ne (c := nb) (by omega) (.int .i64 0) (.int .i64 0) (.string (bs []))); have HR12 := Lib.hid (HR1.out.sets3_ne (c := nb) (by omega) (.int .i64 0) (.int .i64 0) (.string (bs []))); have HR22 := Lib.hid (HR2.out.sets3_ne (c := nb) (by omega) (.int .i64 0) (.int .i64 0) (.string (bs [])))
            have HT2 := Lib.hid HKK.out.1; have HX2 := Lib.hid HKK.out.2.1; have HPB2 := Lib.hid HKK.out.2.2.1; have HV2 := Lib.hid HKK.out.2.2.2; have HO2 := Lib.hid (HO.out.sets3 (b := nb) (by omega) (.int .i64 0) (.int .i64 0) (.string (bs []))); have HW2 := Lib.hid (below_sets3 HW.out nb (by omega) (.int .i64 0) (.int .i64 0) (.string (bs [])))
            clear HE HR1 HR2 HT HX HPB HV HO HW HN n0 n1 n2 y0 y1 y2 hHeld HKK
            generalize hW : ((v3.setCell ⟨nb, 0, none⟩ (.int .i64 0)).setCell ⟨nb, 1, none⟩ (.int .i64 0)).setCell ⟨nb, 2, none⟩ (.string (bs [])) = v4 at HE2 HR12 HR22 HT2 HX2 HPB2 HV2 HO2 HW2 ⊢
            clear hW
            go_wp2_with fail
            have hs1 : ((fun w' => Bx tb #[.pointer (some ⟨mb, 0, none⟩)] 138 w' ∧ Bx mb #[.slice sa M.length sc, .bool al, .slice ra rd.length rc, .slice wa wri.length wc, .map (some vm), .map (some om), .int .i64 0, .int .i64 0, .slice none 0 0, .slice none 0 0, .slice none 0 0, .slice none 0 0, .string ⟨#[]⟩, .int .i64 0] 143 w' ∧ Bx pb #[.string (bs p.key), .int .i64 p.v.k, .int .i64 p.v.n, .string (bs p.v.s)] 55 w')) v4.drew := ⟨HT2.out, HX2.out, HPB2.out⟩
            have HS1 := Lib.hid hs1; clear hs1
            obtain ⟨W6, hup, hmp, hgw⟩ := run_put (show Mp vm (V.take k) v4.drew from HV2.out) p HNI.out
            have HGW := Lib.hid hgw; have HMP := Lib.hid hmp; clear hgw hmp
            simp only [vV] at hup
            refine wp_region_held_drew (S := (fun w' => Bx tb #[.pointer (some ⟨mb, 0, none⟩)] 138 w' ∧ Bx mb #[.slice sa M.length sc, .bool al, .slice ra rd.length rc, .slice wa wri.length wc, .map (some vm), .map (some om), .int .i64 0, .int .i64 0, .slice none 0 0, .slice none 0 0, .slice none 0 0, .slice none 0 0, .string ⟨#[]⟩, .int .i64 0] 143 w' ∧ Bx pb #[.string (bs p.key), .int .i64 p.v.k, .int .i64 p.v.n, .string (bs p.v.s)] 55 w')) (by kernel_rfl) ?_ (fun hHeld => ?_)
            · exact HS1.out
            refine tkY (i := 0) (v := ?vv12) 60 ?yy12 ?_
            case yy12 =>
              intro wq hSw
              have t0 : wq.cell? ⟨tb, 0, none⟩ = some (.pointer (some ⟨mb, 0, none⟩)) := hSw.1.cell 0
              clear hSw
              go_simp
              (try with_reducible rfl)
            simp only [sA, sB, sC]
            refine tkY (i := 1) (v := ?vv13) 61 ?yy13 ?_
            case yy13 => intro w hSw; (try dsimp only at hSw); go_simp; (try with_reducible rfl)
            simp only [sA, sB, sC]
            refine tkY (i := 2) (v := ?vv14) 62 ?yy14 ?_
            case yy14 => intro w hSw; (try dsimp only at hSw); go_simp; (try with_reducible rfl)
            simp only [sA, sB, sC]
            refine tkY (i := 3) (v := ?vv15) 63 ?yy15 ?_
            case yy15 =>
              intro wq hSw
              obtain ⟨m0, m1, m2, m3, m4, -⟩ := hSw.2.1.c14
              clear hSw
              go_simp
              (try with_reducible rfl)
            simp only [sA, sB, sC]
            refine tkY (i := 4) (v := ?vv16) 64 ?yy16 ?_
            case yy16 => intro w hSw; (try dsimp only at hSw); go_simp; (try with_reducible rfl)
            simp only [sA, sB, sC]
            refine tkY (i := 5) (v := ?vv17) 65 ?yy17 ?_
            case yy17 =>
              intro wq hSw
              obtain ⟨p0, p1, p2, p3⟩ := hSw.2.2.c4
              clear hSw
              go_simp
              (try with_reducible rfl)
            simp only [sA, sB, sC]
            refine tkY (i := 6) (v := ?vv18) 66 ?yy18 ?_
            case yy18 => intro w hSw; (try dsimp only at hSw); go_simp; (try with_reducible rfl)
            simp only [sA, sB, sC]
            refine tkY (i := 7) (v := ?vv19) 67 ?yy19 ?_
            case yy19 =>
              intro wq hSw
              obtain ⟨p0, p1, p2, p3⟩ := hSw.2.2.c4
              clear hSw
              go_simp
              (try with_reducible rfl)
            simp only [sA, sB, sC]
            refine wpAnyH_ready (rs := [8]) (by kernel_rfl) (by simp) ?_
            refine (AllReadyH.cons rfl (fun K hK => ?_) AllReadyH.nil)
            go_simp
            refine hK.out _ _ ?_ (fun hHeld => ?_)
            · exact ⟨HT2.out.drew.kept HGW.out (by simp; omega), HX2.out.drew.kept HGW.out (by simp; omega), HPB2.out.drew.kept HGW.out (by simp; omega)⟩
            clear hK K
            (try simp only [Act.put, sA, sB, sC])
            refine wpAnyH_done (by kernel_rfl) ?_ _
            have HE := Lib.hid (HE2.out.drew.kept HGW.out (by simp; omega)); have HR1 := Lib.hid (HR12.out.drew.kept HGW.out (by simp; omega)); have HR2 := Lib.hid (HR22.out.drew.kept HGW.out (by simp; omega)); have HT := Lib.hid (HT2.out.drew.kept HGW.out (by simp; omega)); have HX := Lib.hid (HX2.out.drew.kept HGW.out (by simp; omega)); have HO := Lib.hid ((show Mp om [] v4.drew from HO2.out).kept HGW.out (by simp; omega)); have HW := Lib.hid (below_grown HW2.out.drew HGW.out (by omega) (by have := HW2.out.size; exact this)); have HV := Lib.hid (show Mp vm (V.take (k + 1)) W6 from by rw [List.take_succ_eq_append_getElem hlt, HP.out]; exact HMP.out)
            clear hup HGW HMP HE2 HR12 HR22 HT2 HX2 HPB2 HV2 HO2 HW2 HS1 hHeld
            have HN := Lib.hid (allv_next hlt HP.out HVB.out HQ.out)
            go_wp2
            go_roundw
            case rel => exact ⟨k + 1, by omega, by go_num, HN, HE, HR1, HR2, HT, HX, HV, HO, HW.out⟩
            case measure => simp [intOf]; omega
        · have hlt' : ¬ (k : Int) < (V.length : Int) := by omega
          have hkV : k = V.length := by omega
          subst hkV
          rw [List.take_length] at HQ HV
          have hUU : evS al rd M op vals = (R, ks) := (if_pos (by rw [HSB.out, HFB.out, HALL.out, HQ.out]; rfl)).symm.trans HU.out
          have HUU := Lib.hid hUU; clear hUU HQ
          have hmf : ∀ (fn : Fn) (first cap : Array Value) (w : World), (Instr.makeFunc fn first cap).run Tryz.prog w = .ok (.func fn first cap) w := fun _ _ _ _ => rfl
          have hpl := HT.out.lt; have hpx := HX.out.lt; have hpv := HV.out.lt; have hpo := HO.out.lt
          have hb7 := (Below.refl wr.heap.size wr).alloc (Nat.le_refl _) (.cells #[.int .i64 0, .int .i64 0, .string ⟨#[]⟩] 52)
          have HB := Lib.hid (Bx.new wr #[.int .i64 0, .int .i64 0, .string ⟨#[]⟩] 52)
          have HE := Lib.hid (HE.out.call hb7); have HR1 := Lib.hid (HR1.out.call hb7); have HR2 := Lib.hid (HR2.out.call hb7); have HT := Lib.hid (HT.out.call hb7); have HX := Lib.hid (HX.out.call hb7); have HV := Lib.hid (HV.out.call hb7); have HO := Lib.hid (HO.out.call hb7); have HW := Lib.hid (btrans HW.out HW.out.size hb7); clear hb7
          obtain ⟨vb, hvb3⟩ : ∃ n, wr.heap.size = n := ⟨_, rfl⟩
          rw [hvb3] at HB hpl hpx hpv hpo
          go_upto_region 14 with (fail)
          generalize hW : wr.alloc (.cells #[.int .i64 0, .int .i64 0, .string ⟨#[]⟩] 52) = v7 at HE HR1 HR2 HT HX HV HO HW HB ⊢
          clear hW
          (try rw [hvb3])
          clear hvb3
          obtain ⟨y1, hy1⟩ : ∃ x, x = (v7.alloc (.cells #[.int .i64 0, .int .i64 0, .slice none 0 0, .string ⟨#[]⟩] 145)).alloc (.cells #[.bool false] 4) := ⟨_, rfl⟩
          have hb8 := ((Below.refl v7.heap.size v7).alloc (Nat.le_refl _) (.cells #[.int .i64 0, .int .i64 0, .slice none 0 0, .string ⟨#[]⟩] 145)).alloc (by simp) (.cells #[.bool false] 4)
          rw [← hy1] at hb8
          have hC := evalC_any tb w.heap.size vb mb vm om sa ra wa sc rc wc M al rd wri op aa ac V names vals HOP.out HVA.out HOK.out y1 w (HX.out.call hb8) (HO.out.call hb8) (by omega) (btrans HW.out HW.out.size hb8) HM.out HRS.out hl1 hl2 (HV.out.call hb8) HA.out HLD.out (HT.out.call hb8) (HE.out.call hb8) (HB.out.call hb8) (by omega)
          rw [HUU.out] at hC
          have HC := Lib.hid hC; have HY1 := Lib.hid hy1; clear hC hy1 hb8
          have hm7 := HX.out.lt; have hv7 := HB.out.lt
          have t0 : v7.cell? ⟨tb, 0, none⟩ = some (.pointer (some ⟨mb, 0, none⟩)) := HT.out.cell 0
          go_wp2_with fail
          clear t0
          refine (irun_any _ _ mb mb vb (fun rv => #[.slice sa M.length sc, .bool al, .slice ra rd.length rc, .slice wa wri.length wc, .map (some vm), .map (some om), .int .i64 0, .int .i64 0, .slice none 0 0, rv, .slice none 0 0, .slice none 0 0, .string ⟨#[]⟩, .int .i64 0]) R ks _ y1 HY1.out (fun w => by simp [go_sem]) hm7 hv7 HC.out).mono ?_
          rintro E w8 ⟨rfl, hk2, hvb4, rv, hx8, ho8⟩
          obtain ⟨oa, oc, rfl⟩ := own_sl ho8
          have hsz8 := HW.out.size
          have HO8 := Lib.hid (own_mono ho8 hsz8); have HX := Lib.hid hx8; have HB := Lib.hid hvb4; have HR1 := Lib.hid (HR1.out.k2 hk2 (by omega) (by omega)); have HR2 := Lib.hid (HR2.out.k2 hk2 (by omega) (by omega)); have HT := Lib.hid (HT.out.k2 hk2 (by omega) (by omega)); have HW := Lib.hid (show Below w.heap.size w w8 from HW.out.trans (hk2.below hsz8 (by omega) (by omega)))
          clear hk2 hvb4 hx8 ho8 HE HV HO HC HY1
          rcases R with v | c | x
          · simp only [stA, stB2, vEnd, vV] at HB HX ⊢
            have hwl8 := HW.out.size
            have hx9 := HB.out.lt; have hxt := HT.out.lt; have hxr := HR2.out.lt; have hxm := HX.out.lt
            have hb9 := (Below.refl w8.heap.size w8).alloc (Nat.le_refl _) (.cells #[.int .i64 0, .int .i64 0, .slice none 0 0, .string ⟨#[]⟩] 145)
            have HS := Lib.hid (Bx.new w8 #[.int .i64 0, .int .i64 0, .slice none 0 0, .string ⟨#[]⟩] 145)
            have HX := Lib.hid (HX.out.call hb9); have HB := Lib.hid (HB.out.call hb9); have HR1 := Lib.hid (HR1.out.call hb9); have HR2 := Lib.hid (HR2.out.call hb9); have HT := Lib.hid (HT.out.call hb9); have HO8 := Lib.hid (own_below HO8.out hb9); have HW := Lib.hid (btrans HW.out HW.out.size hb9); clear hb9
            go_upto_region 15 with (fail)
            obtain ⟨sb, hsb⟩ : ∃ n, w8.heap.size = n := ⟨_, rfl⟩
            rw [hsb] at HS hx9 hxt hxr hxm
            generalize hW : w8.alloc (.cells #[.int .i64 0, .int .i64 0, .slice none 0 0, .string ⟨#[]⟩] 145) = v8 at HS HX HB HR1 HR2 HT HO8 HW ⊢
            clear hW
            (try rw [hsb])
            clear hsb
            go_wp2_with fail
            have hs2 : ((fun w' => Bx vb #[.int .i64 v.k, .int .i64 v.n, .string (bs v.s)] 52 w' ∧ Bx tb #[.pointer (some ⟨mb, 0, none⟩)] 138 w' ∧ Bx sb #[.int .i64 0, .int .i64 0, .slice none 0 0, .string ⟨#[]⟩] 145 w')) v8.drew := ⟨HB.out, HT.out, HS.out⟩
            have HS2 := Lib.hid hs2; clear hs2
            refine wp_region_held_drew (S := (fun w' => Bx vb #[.int .i64 v.k, .int .i64 v.n, .string (bs v.s)] 52 w' ∧ Bx tb #[.pointer (some ⟨mb, 0, none⟩)] 138 w' ∧ Bx sb #[.int .i64 0, .int .i64 0, .slice none 0 0, .string ⟨#[]⟩] 145 w')) (by kernel_rfl) ?_ (fun hHeld => ?_)
            · exact HS2.out
            refine tkY (i := 0) (v := ?vv20) 81 ?yy20 ?_
            case yy20 =>
              intro wq hSw
              obtain ⟨b0, b1, b2⟩ := hSw.1.c3
              clear hSw
              go_simp
              (try with_reducible rfl)
            simp only [sA, sB, sC]
            refine tkY (i := 1) (v := ?vv21) 82 ?yy21 ?_
            case yy21 =>
              intro wq hSw
              have t0 : wq.cell? ⟨tb, 0, none⟩ = some (.pointer (some ⟨mb, 0, none⟩)) := hSw.2.1.cell 0
              clear hSw
              go_simp
              (try with_reducible rfl)
            simp only [sA, sB, sC]
            refine tkY (i := 2) (v := ?vv22) 83 ?yy22 ?_
            case yy22 =>
              intro wq hSw
              obtain ⟨s0, s1, s2, s3⟩ := hSw.2.2.c4
              clear hSw
              go_simp
              (try with_reducible rfl)
            simp only [sA, sB, sC]
            refine tkY (i := 3) (v := ?vv23) 84 ?yy23 ?_
            case yy23 => intro w hSw; (try dsimp only at hSw); go_simp; (try with_reducible rfl)
            simp only [sA, sB, sC]
            refine wpAnyH_ready (rs := [4]) (by kernel_rfl) (by simp) ?_
            refine (AllReadyH.cons rfl (fun K hK => ?_) AllReadyH.nil)
            go_simp
            (refine (finish_any mb vm om sa ra wa sc rc wc M al rd wri oa ks.length oc (.ok v) v8.drew HX.out).mono ?_)
            rintro er w9 ⟨rfl, hb9⟩
            simp only [efA]
            have HB9 := Lib.hid hb9; clear hb9
            refine hK.out _ _ ?_ (fun hHeld => ?_)
            · exact ⟨hHeld.1.call HB9.out, hHeld.2.1.call HB9.out, hHeld.2.2.call HB9.out⟩
            clear hK K
            (try simp only [Act.put, sA, sB, sC])
            have hb9 : Below v8.heap.size v8 w9 := ⟨HB9.out.os, HB9.out.tape, HB9.out.output, HB9.out.size, HB9.out.block⟩
            have HR1 := Lib.hid (HR1.out.call hb9); have HR2 := Lib.hid (HR2.out.call hb9); have HO8 := Lib.hid (own_below HO8.out hb9); have HW := Lib.hid (btrans HW.out HW.out.size hb9); clear hb9
            obtain ⟨r0, r1, r2⟩ := HR1.out.c3
            have f0 := HR1.out.free 0
            have f1 := HR1.out.free 1
            have f2 := HR1.out.free 2
            have HA1 := Lib.hid (HR1.out.sets3 (.int .i64 v.k) (.int .i64 v.n) (.string (bs v.s)))
            have HA2 := Lib.hid (HR2.out.sets3_ne (c := w.heap.size + 2) (by omega) (.int .i64 v.k) (.int .i64 v.n) (.string (bs v.s)))
            have HAW := Lib.hid (below_sets3 HW.out (w.heap.size + 2) (by omega) (.int .i64 v.k) (.int .i64 v.n) (.string (bs v.s)))
            obtain ⟨s0, s1, s2, s3, s4, s5, s6, s7⟩ := HA2.out.c8
            have z0 := HA2.out.free 0
            have z1 := HA2.out.free 1
            have z2 := HA2.out.free 2
            have z3 := HA2.out.free 3
            have z4 := HA2.out.free 4
            have z5 := HA2.out.free 5
            have z6 := HA2.out.free 6
            have z7 := HA2.out.free 7
            have HB1 := Lib.hid ((((((((HA1.out.other (c := w.heap.size + 3) (i := 0) (by omega) (.int .i64 1)).other (c := w.heap.size + 3) (i := 1) (by omega) (.int .i64 0)).other (c := w.heap.size + 3) (i := 2) (by omega) (.slice none 0 0)).other (c := w.heap.size + 3) (i := 3) (by omega) (.slice oa ks.length oc)).other (c := w.heap.size + 3) (i := 4) (by omega) (.slice none 0 0)).other (c := w.heap.size + 3) (i := 5) (by omega) (.slice none 0 0)).other (c := w.heap.size + 3) (i := 6) (by omega) (.string ⟨#[]⟩)).other (c := w.heap.size + 3) (i := 7) (by omega) (.int .i64 0))
            have HB2 := Lib.hid (HA2.out.sets8 (.int .i64 1) (.int .i64 0) (.slice none 0 0) (.slice oa ks.length oc) (.slice none 0 0) (.slice none 0 0) (.string ⟨#[]⟩) (.int .i64 0))
            have HBW := Lib.hid (below_sets8 HAW.out (w.heap.size + 3) (by omega) (.int .i64 1) (.int .i64 0) (.slice none 0 0) (.slice oa ks.length oc) (.slice none 0 0) (.slice none 0 0) (.string ⟨#[]⟩) (.int .i64 0))
            have HOF := Lib.hid (own_st (own_st (own_st (own_st (own_st (own_st (own_st (own_st (own_st (own_st (own_st HO8.out HR1.out (by decide) 0 (.int .i64 v.k)) (HR1.out.set 0 (.int .i64 v.k)) (by decide) 1 (.int .i64 v.n)) ((HR1.out.set 0 (.int .i64 v.k)).set 1 (.int .i64 v.n)) (by decide) 2 (.string (bs v.s))) HA2.out (by decide) 0 (.int .i64 1)) (HA2.out.set 0 (.int .i64 1)) (by decide) 1 (.int .i64 0)) ((HA2.out.set 0 (.int .i64 1)).set 1 (.int .i64 0)) (by decide) 2 (.slice none 0 0)) (((HA2.out.set 0 (.int .i64 1)).set 1 (.int .i64 0)).set 2 (.slice none 0 0)) (by decide) 3 (.slice oa ks.length oc)) ((((HA2.out.set 0 (.int .i64 1)).set 1 (.int .i64 0)).set 2 (.slice none 0 0)).set 3 (.slice oa ks.length oc)) (by decide) 4 (.slice none 0 0)) (((((HA2.out.set 0 (.int .i64 1)).set 1 (.int .i64 0)).set 2 (.slice none 0 0)).set 3 (.slice oa ks.length oc)).set 4 (.slice none 0 0)) (by decide) 5 (.slice none 0 0)) ((((((HA2.out.set 0 (.int .i64 1)).set 1 (.int .i64 0)).set 2 (.slice none 0 0)).set 3 (.slice oa ks.length oc)).set 4 (.slice none 0 0)).set 5 (.slice none 0 0)) (by decide) 6 (.string ⟨#[]⟩)) (((((((HA2.out.set 0 (.int .i64 1)).set 1 (.int .i64 0)).set 2 (.slice none 0 0)).set 3 (.slice oa ks.length oc)).set 4 (.slice none 0 0)).set 5 (.slice none 0 0)).set 6 (.string ⟨#[]⟩)) (by decide) 7 (.int .i64 0))
            have hbA : w.heap.size + 3 < vb ∧ w.heap.size + 3 < tb ∧ w.heap.size + 3 < sb := by omega
            have HKA := Lib.hid (show ((fun w' => Bx vb #[.int .i64 v.k, .int .i64 v.n, .string (bs v.s)] 52 w' ∧ Bx tb #[.pointer (some ⟨mb, 0, none⟩)] 138 w' ∧ Bx sb #[.int .i64 0, .int .i64 0, .slice none 0 0, .string ⟨#[]⟩] 145 w')) (((w9.setCell ⟨w.heap.size + 2, 0, none⟩ (.int .i64 v.k)).setCell ⟨w.heap.size + 2, 1, none⟩ (.int .i64 v.n)).setCell ⟨w.heap.size + 2, 2, none⟩ (.string (bs v.s))) from ⟨hHeld.1.sets3_ne (c := w.heap.size + 2) (by omega) (.int .i64 v.k) (.int .i64 v.n) (.string (bs v.s)), hHeld.2.1.sets3_ne (c := w.heap.size + 2) (by omega) (.int .i64 v.k) (.int .i64 v.n) (.string (bs v.s)), hHeld.2.2.sets3_ne (c := w.heap.size + 2) (by omega) (.int .i64 v.k) (.int .i64 v.n) (.string (bs v.s))⟩)
            have HKB := Lib.hid (show ((fun w' => Bx vb #[.int .i64 v.k, .int .i64 v.n, .string (bs v.s)] 52 w' ∧ Bx tb #[.pointer (some ⟨mb, 0, none⟩)] 138 w' ∧ Bx sb #[.int .i64 0, .int .i64 0, .slice none 0 0, .string ⟨#[]⟩] 145 w')) (((((((((((w9.setCell ⟨w.heap.size + 2, 0, none⟩ (.int .i64 v.k)).setCell ⟨w.heap.size + 2, 1, none⟩ (.int .i64 v.n)).setCell ⟨w.heap.size + 2, 2, none⟩ (.string (bs v.s))).setCell ⟨w.heap.size + 3, 0, none⟩ (.int .i64 1)).setCell ⟨w.heap.size + 3, 1, none⟩ (.int .i64 0)).setCell ⟨w.heap.size + 3, 2, none⟩ (.slice none 0 0)).setCell ⟨w.heap.size + 3, 3, none⟩ (.slice oa ks.length oc)).setCell ⟨w.heap.size + 3, 4, none⟩ (.slice none 0 0)).setCell ⟨w.heap.size + 3, 5, none⟩ (.slice none 0 0)).setCell ⟨w.heap.size + 3, 6, none⟩ (.string ⟨#[]⟩)).setCell ⟨w.heap.size + 3, 7, none⟩ (.int .i64 0)) from ⟨((((((((HKA.out.1.other (i := 0) (c := w.heap.size + 3) (by omega) (.int .i64 1)).other (i := 1) (c := w.heap.size + 3) (by omega) (.int .i64 0)).other (i := 2) (c := w.heap.size + 3) (by omega) (.slice none 0 0)).other (i := 3) (c := w.heap.size + 3) (by omega) (.slice oa ks.length oc)).other (i := 4) (c := w.heap.size + 3) (by omega) (.slice none 0 0)).other (i := 5) (c := w.heap.size + 3) (by omega) (.slice none 0 0)).other (i := 6) (c := w.heap.size + 3) (by omega) (.string ⟨#[]⟩)).other (i := 7) (c := w.heap.size + 3) (by omega) (.int .i64 0)), ((((((((HKA.out.2.1.other (i := 0) (c := w.heap.size + 3) (by omega) (.int .i64 1)).other (i := 1) (c := w.heap.size + 3) (by omega) (.int .i64 0)).other (i := 2) (c := w.heap.size + 3) (by omega) (.slice none 0 0)).other (i := 3) (c := w.heap.size + 3) (by omega) (.slice oa ks.length oc)).other (i := 4) (c := w.heap.size + 3) (by omega) (.slice none 0 0)).other (i := 5) (c := w.heap.size + 3) (by omega) (.slice none 0 0)).other (i := 6) (c := w.heap.size + 3) (by omega) (.string ⟨#[]⟩)).other (i := 7) (c := w.heap.size + 3) (by omega) (.int .i64 0)), ((((((((HKA.out.2.2.other (i := 0) (c := w.heap.size + 3) (by omega) (.int .i64 1)).other (i := 1) (c := w.heap.size + 3) (by omega) (.int .i64 0)).other (i := 2) (c := w.heap.size + 3) (by omega) (.slice none 0 0)).other (i := 3) (c := w.heap.size + 3) (by omega) (.slice oa ks.length oc)).other (i := 4) (c := w.heap.size + 3) (by omega) (.slice none 0 0)).other (i := 5) (c := w.heap.size + 3) (by omega) (.slice none 0 0)).other (i := 6) (c := w.heap.size + 3) (by omega) (.string ⟨#[]⟩)).other (i := 7) (c := w.heap.size + 3) (by omega) (.int .i64 0))⟩)
            refine wpAnyH_ready (rs := [5]) (by kernel_rfl) (by simp) ?_
            refine (AllReadyH.cons rfl (fun K hK => ?_) AllReadyH.nil)
            go_simp
            refine hK.out _ _ ?_ (fun hHeld2 => ?_)
            · exact HKA.out
            clear hK K
            (try simp only [Act.put, sA, sB, sC])
            refine wpAnyH_ready (rs := [6]) (by kernel_rfl) (by simp) ?_
            refine (AllReadyH.cons rfl (fun K hK => ?_) AllReadyH.nil)
            go_simp
            refine hK.out _ _ ?_ (fun hHeld3 => ?_)
            · exact HKB.out
            clear hK K
            (try simp only [Act.put, sA, sB, sC])
            refine wpAnyH_done (by kernel_rfl) ?_ _
            clear hHeld hHeld2 hHeld3 HKA HKB HS2
            generalize hW : (((((((((((w9.setCell ⟨w.heap.size + 2, 0, none⟩ (.int .i64 v.k)).setCell ⟨w.heap.size + 2, 1, none⟩ (.int .i64 v.n)).setCell ⟨w.heap.size + 2, 2, none⟩ (.string (bs v.s))).setCell ⟨w.heap.size + 3, 0, none⟩ (.int .i64 1)).setCell ⟨w.heap.size + 3, 1, none⟩ (.int .i64 0)).setCell ⟨w.heap.size + 3, 2, none⟩ (.slice none 0 0)).setCell ⟨w.heap.size + 3, 3, none⟩ (.slice oa ks.length oc)).setCell ⟨w.heap.size + 3, 4, none⟩ (.slice none 0 0)).setCell ⟨w.heap.size + 3, 5, none⟩ (.slice none 0 0)).setCell ⟨w.heap.size + 3, 6, none⟩ (.string ⟨#[]⟩)).setCell ⟨w.heap.size + 3, 7, none⟩ (.int .i64 0)) = WE at HB1 HB2 HBW HOF ⊢
            clear hW
            clear r0 r1 r2 f0 f1 f2 s0 s1 s2 s3 s4 s5 s6 s7 z0 z1 z2 z3 z4 z5 z6 z7
            go_wp2
            obtain ⟨k0, k1, k2⟩ := HB1.out.c3
            obtain ⟨l0, l1, l2, l3, l4, l5, l6, l7⟩ := HB2.out.c8
            refine bodyPost_ret (v := .tuple #[.agg #[.int .i64 v.k, .int .i64 v.n, .string (bs v.s)], .agg #[.int .i64 1, .int .i64 0, .slice none 0 0, .slice oa ks.length oc, .slice none 0 0, .slice none 0 0, .string ⟨#[]⟩, .int .i64 0]]) (by simp [results, Tryz.results93, go_sem, k0, k1, k2, l0, l1, l2, l3, l4, l5, l6, l7] <;> rfl) rfl ⟨_, rfl, HOF.out, HBW.out⟩
          · simp only [stA, stB2, vEnd] at HB HX ⊢
            have hwl8 := HW.out.size
            have hx9 := HB.out.lt; have hxt := HT.out.lt; have hxr := HR2.out.lt; have hxm := HX.out.lt
            have hb9 := (Below.refl w8.heap.size w8).alloc (Nat.le_refl _) (.cells #[.int .i64 2, .int .i64 c, .slice none 0 0, .string (bs [])] 145)
            have HS := Lib.hid (Bx.new w8 #[.int .i64 2, .int .i64 c, .slice none 0 0, .string (bs [])] 145)
            have HX := Lib.hid (HX.out.call hb9); have HB := Lib.hid (HB.out.call hb9); have HR1 := Lib.hid (HR1.out.call hb9); have HR2 := Lib.hid (HR2.out.call hb9); have HT := Lib.hid (HT.out.call hb9); have HO8 := Lib.hid (own_below HO8.out hb9); have HW := Lib.hid (btrans HW.out HW.out.size hb9); clear hb9
            go_upto_region 15 with (fail)
            obtain ⟨sb, hsb⟩ : ∃ n, w8.heap.size = n := ⟨_, rfl⟩
            rw [hsb] at HS hx9 hxt hxr hxm
            generalize hW : w8.alloc (.cells #[.int .i64 2, .int .i64 c, .slice none 0 0, .string (bs [])] 145) = v8 at HS HX HB HR1 HR2 HT HO8 HW ⊢
            clear hW
            (try rw [hsb])
            clear hsb
            have t0 : v8.cell? ⟨tb, 0, none⟩ = some (.pointer (some ⟨mb, 0, none⟩)) := HT.out.cell 0
            obtain ⟨s0, s1, s2, s3⟩ := HS.out.c4
            go_wp2_with fail
            refine (finish_any mb vm om sa ra wa sc rc wc M al rd wri oa ks.length oc (.ab c) _ HX.out).mono ?_
            rintro er w9 ⟨rfl, hb9⟩
            simp only [efA]
            have HB9 := Lib.hid hb9
            clear hb9 t0 s0 s1 s2 s3
            have hb9 : Below v8.heap.size v8 w9 := HB9.out
            have HR1 := Lib.hid (HR1.out.call hb9); have HR2 := Lib.hid (HR2.out.call hb9); have HO8 := Lib.hid (own_below HO8.out hb9); have HW := Lib.hid (btrans HW.out HW.out.size hb9); clear hb9
            obtain ⟨r0, r1, r2⟩ := HR1.out.c3
            have f0 := HR1.out.free 0
            have f1 := HR1.out.free 1
            have f2 := HR1.out.free 2
            have HA1 := Lib.hid (HR1.out.sets3 (.int .i64 0) (.int .i64 0) (.string ⟨#[]⟩))
            have HA2 := Lib.hid (HR2.out.sets3_ne (c := w.heap.size + 2) (by omega) (.int .i64 0) (.int .i64 0) (.string ⟨#[]⟩))
            have HAW := Lib.hid (below_sets3 HW.out (w.heap.size + 2) (by omega) (.int .i64 0) (.int .i64 0) (.string ⟨#[]⟩))
            obtain ⟨s0, s1, s2, s3, s4, s5, s6, s7⟩ := HA2.out.c8
            have z0 := HA2.out.free 0
            have z1 := HA2.out.free 1
            have z2 := HA2.out.free 2
            have z3 := HA2.out.free 3
            have z4 := HA2.out.free 4
            have z5 := HA2.out.free 5
            have z6 := HA2.out.free 6
            have z7 := HA2.out.free 7
            have HB1 := Lib.hid ((((((((HA1.out.other (c := w.heap.size + 3) (i := 0) (by omega) (.int .i64 2)).other (c := w.heap.size + 3) (i := 1) (by omega) (.int .i64 c)).other (c := w.heap.size + 3) (i := 2) (by omega) (.slice none 0 0)).other (c := w.heap.size + 3) (i := 3) (by omega) (.slice oa ks.length oc)).other (c := w.heap.size + 3) (i := 4) (by omega) (.slice none 0 0)).other (c := w.heap.size + 3) (i := 5) (by omega) (.slice none 0 0)).other (c := w.heap.size + 3) (i := 6) (by omega) (.string (bs []))).other (c := w.heap.size + 3) (i := 7) (by omega) (.int .i64 0))
            have HB2 := Lib.hid (HA2.out.sets8 (.int .i64 2) (.int .i64 c) (.slice none 0 0) (.slice oa ks.length oc) (.slice none 0 0) (.slice none 0 0) (.string (bs [])) (.int .i64 0))
            have HBW := Lib.hid (below_sets8 HAW.out (w.heap.size + 3) (by omega) (.int .i64 2) (.int .i64 c) (.slice none 0 0) (.slice oa ks.length oc) (.slice none 0 0) (.slice none 0 0) (.string (bs [])) (.int .i64 0))
            have HOF := Lib.hid (own_st (own_st (own_st (own_st (own_st (own_st (own_st (own_st (own_st (own_st (own_st HO8.out HR1.out (by decide) 0 (.int .i64 0)) (HR1.out.set 0 (.int .i64 0)) (by decide) 1 (.int .i64 0)) ((HR1.out.set 0 (.int .i64 0)).set 1 (.int .i64 0)) (by decide) 2 (.string ⟨#[]⟩)) HA2.out (by decide) 0 (.int .i64 2)) (HA2.out.set 0 (.int .i64 2)) (by decide) 1 (.int .i64 c)) ((HA2.out.set 0 (.int .i64 2)).set 1 (.int .i64 c)) (by decide) 2 (.slice none 0 0)) (((HA2.out.set 0 (.int .i64 2)).set 1 (.int .i64 c)).set 2 (.slice none 0 0)) (by decide) 3 (.slice oa ks.length oc)) ((((HA2.out.set 0 (.int .i64 2)).set 1 (.int .i64 c)).set 2 (.slice none 0 0)).set 3 (.slice oa ks.length oc)) (by decide) 4 (.slice none 0 0)) (((((HA2.out.set 0 (.int .i64 2)).set 1 (.int .i64 c)).set 2 (.slice none 0 0)).set 3 (.slice oa ks.length oc)).set 4 (.slice none 0 0)) (by decide) 5 (.slice none 0 0)) ((((((HA2.out.set 0 (.int .i64 2)).set 1 (.int .i64 c)).set 2 (.slice none 0 0)).set 3 (.slice oa ks.length oc)).set 4 (.slice none 0 0)).set 5 (.slice none 0 0)) (by decide) 6 (.string (bs []))) (((((((HA2.out.set 0 (.int .i64 2)).set 1 (.int .i64 c)).set 2 (.slice none 0 0)).set 3 (.slice oa ks.length oc)).set 4 (.slice none 0 0)).set 5 (.slice none 0 0)).set 6 (.string (bs []))) (by decide) 7 (.int .i64 0))
            go_wp2
            obtain ⟨k0, k1, k2⟩ := HB1.out.c3
            obtain ⟨l0, l1, l2, l3, l4, l5, l6, l7⟩ := HB2.out.c8
            refine bodyPost_ret (v := .tuple #[.agg #[.int .i64 0, .int .i64 0, .string ⟨#[]⟩], .agg #[.int .i64 2, .int .i64 c, .slice none 0 0, .slice oa ks.length oc, .slice none 0 0, .slice none 0 0, .string (bs []), .int .i64 0]]) (by simp [results, Tryz.results93, go_sem, k0, k1, k2, l0, l1, l2, l3, l4, l5, l6, l7] <;> rfl) rfl ⟨_, rfl, HOF.out, HBW.out⟩
          · simp only [stA, stB2, vEnd] at HB HX ⊢
            have hwl8 := HW.out.size
            have hx9 := HB.out.lt; have hxt := HT.out.lt; have hxr := HR2.out.lt; have hxm := HX.out.lt
            have hb9 := (Below.refl w8.heap.size w8).alloc (Nat.le_refl _) (.cells #[.int .i64 3, .int .i64 0, .slice none 0 0, .string (bs x)] 145)
            have HS := Lib.hid (Bx.new w8 #[.int .i64 3, .int .i64 0, .slice none 0 0, .string (bs x)] 145)
            have HX := Lib.hid (HX.out.call hb9); have HB := Lib.hid (HB.out.call hb9); have HR1 := Lib.hid (HR1.out.call hb9); have HR2 := Lib.hid (HR2.out.call hb9); have HT := Lib.hid (HT.out.call hb9); have HO8 := Lib.hid (own_below HO8.out hb9); have HW := Lib.hid (btrans HW.out HW.out.size hb9); clear hb9
            go_upto_region 15 with (fail)
            obtain ⟨sb, hsb⟩ : ∃ n, w8.heap.size = n := ⟨_, rfl⟩
            rw [hsb] at HS hx9 hxt hxr hxm
            generalize hW : w8.alloc (.cells #[.int .i64 3, .int .i64 0, .slice none 0 0, .string (bs x)] 145) = v8 at HS HX HB HR1 HR2 HT HO8 HW ⊢
            clear hW
            (try rw [hsb])
            clear hsb
            have t0 : v8.cell? ⟨tb, 0, none⟩ = some (.pointer (some ⟨mb, 0, none⟩)) := HT.out.cell 0
            obtain ⟨s0, s1, s2, s3⟩ := HS.out.c4
            go_wp2_with fail
            refine (finish_any mb vm om sa ra wa sc rc wc M al rd wri oa ks.length oc (.re x) _ HX.out).mono ?_
            rintro er w9 ⟨rfl, hb9⟩
            simp only [efA]
            have HB9 := Lib.hid hb9
            clear hb9 t0 s0 s1 s2 s3
            have hb9 : Below v8.heap.size v8 w9 := HB9.out
            have HR1 := Lib.hid (HR1.out.call hb9); have HR2 := Lib.hid (HR2.out.call hb9); have HO8 := Lib.hid (own_below HO8.out hb9); have HW := Lib.hid (btrans HW.out HW.out.size hb9); clear hb9
            obtain ⟨r0, r1, r2⟩ := HR1.out.c3
            have f0 := HR1.out.free 0
            have f1 := HR1.out.free 1
            have f2 := HR1.out.free 2
            have HA1 := Lib.hid (HR1.out.sets3 (.int .i64 0) (.int .i64 0) (.string ⟨#[]⟩))
            have HA2 := Lib.hid (HR2.out.sets3_ne (c := w.heap.size + 2) (by omega) (.int .i64 0) (.int .i64 0) (.string ⟨#[]⟩))
            have HAW := Lib.hid (below_sets3 HW.out (w.heap.size + 2) (by omega) (.int .i64 0) (.int .i64 0) (.string ⟨#[]⟩))
            obtain ⟨s0, s1, s2, s3, s4, s5, s6, s7⟩ := HA2.out.c8
            have z0 := HA2.out.free 0
            have z1 := HA2.out.free 1
            have z2 := HA2.out.free 2
            have z3 := HA2.out.free 3
            have z4 := HA2.out.free 4
            have z5 := HA2.out.free 5
            have z6 := HA2.out.free 6
            have z7 := HA2.out.free 7
            have HB1 := Lib.hid ((((((((HA1.out.other (c := w.heap.size + 3) (i := 0) (by omega) (.int .i64 3)).other (c := w.heap.size + 3) (i := 1) (by omega) (.int .i64 0)).other (c := w.heap.size + 3) (i := 2) (by omega) (.slice none 0 0)).other (c := w.heap.size + 3) (i := 3) (by omega) (.slice oa ks.length oc)).other (c := w.heap.size + 3) (i := 4) (by omega) (.slice none 0 0)).other (c := w.heap.size + 3) (i := 5) (by omega) (.slice none 0 0)).other (c := w.heap.size + 3) (i := 6) (by omega) (.string (bs x))).other (c := w.heap.size + 3) (i := 7) (by omega) (.int .i64 0))
            have HB2 := Lib.hid (HA2.out.sets8 (.int .i64 3) (.int .i64 0) (.slice none 0 0) (.slice oa ks.length oc) (.slice none 0 0) (.slice none 0 0) (.string (bs x)) (.int .i64 0))
            have HBW := Lib.hid (below_sets8 HAW.out (w.heap.size + 3) (by omega) (.int .i64 3) (.int .i64 0) (.slice none 0 0) (.slice oa ks.length oc) (.slice none 0 0) (.slice none 0 0) (.string (bs x)) (.int .i64 0))
            have HOF := Lib.hid (own_st (own_st (own_st (own_st (own_st (own_st (own_st (own_st (own_st (own_st (own_st HO8.out HR1.out (by decide) 0 (.int .i64 0)) (HR1.out.set 0 (.int .i64 0)) (by decide) 1 (.int .i64 0)) ((HR1.out.set 0 (.int .i64 0)).set 1 (.int .i64 0)) (by decide) 2 (.string ⟨#[]⟩)) HA2.out (by decide) 0 (.int .i64 3)) (HA2.out.set 0 (.int .i64 3)) (by decide) 1 (.int .i64 0)) ((HA2.out.set 0 (.int .i64 3)).set 1 (.int .i64 0)) (by decide) 2 (.slice none 0 0)) (((HA2.out.set 0 (.int .i64 3)).set 1 (.int .i64 0)).set 2 (.slice none 0 0)) (by decide) 3 (.slice oa ks.length oc)) ((((HA2.out.set 0 (.int .i64 3)).set 1 (.int .i64 0)).set 2 (.slice none 0 0)).set 3 (.slice oa ks.length oc)) (by decide) 4 (.slice none 0 0)) (((((HA2.out.set 0 (.int .i64 3)).set 1 (.int .i64 0)).set 2 (.slice none 0 0)).set 3 (.slice oa ks.length oc)).set 4 (.slice none 0 0)) (by decide) 5 (.slice none 0 0)) ((((((HA2.out.set 0 (.int .i64 3)).set 1 (.int .i64 0)).set 2 (.slice none 0 0)).set 3 (.slice oa ks.length oc)).set 4 (.slice none 0 0)).set 5 (.slice none 0 0)) (by decide) 6 (.string (bs x))) (((((((HA2.out.set 0 (.int .i64 3)).set 1 (.int .i64 0)).set 2 (.slice none 0 0)).set 3 (.slice oa ks.length oc)).set 4 (.slice none 0 0)).set 5 (.slice none 0 0)).set 6 (.string (bs x))) (by decide) 7 (.int .i64 0))
            go_wp2
            obtain ⟨k0, k1, k2⟩ := HB1.out.c3
            obtain ⟨l0, l1, l2, l3, l4, l5, l6, l7⟩ := HB2.out.c8
            refine bodyPost_ret (v := .tuple #[.agg #[.int .i64 0, .int .i64 0, .string ⟨#[]⟩], .agg #[.int .i64 3, .int .i64 0, .slice none 0 0, .slice oa ks.length oc, .slice none 0 0, .slice none 0 0, .string (bs x), .int .i64 0]]) (by simp [results, Tryz.results93, go_sem, k0, k1, k2, l0, l1, l2, l3, l4, l5, l6, l7] <;> rfl) rfl ⟨_, rfl, HOF.out, HBW.out⟩
end Go.Proofs.YtnglaegofhpleaaGreatDoor
namespace Go.Proofs.YtnglaegofhpleaaGreatDoor
open Go.RowKit

/-- a block of n cells, given by a function -/
def Bf (b : Nat) (f : Nat → Value) (n : Nat) (T : TypeId) (W : World) : Prop := ∃ cs : Array Value, Bx b cs T W ∧ cs.size = n ∧ ∀ j, j < n → cs[j]? = some (f j)
def upd (f : Nat → Value) (j : Nat) (u : Value) : Nat → Value := fun i => if i = j then u else f i
theorem Bf.lt {b : Nat} {f : Nat → Value} {n : Nat} {T : TypeId} {W : World} (h : Bf b f n T W) : b < W.heap.size := by obtain ⟨cs, h, _⟩ := h; exact h.lt
theorem Bf.cell {b : Nat} {f : Nat → Value} {n : Nat} {T : TypeId} {W : World} (h : Bf b f n T W) (j : Nat) (hj : j < n) : W.cell? ⟨b, j, none⟩ = some (f j) := by
  obtain ⟨cs, h1, h2, h3⟩ := h
  rw [h1.cell j, h3 j hj]
theorem Bf.free {b : Nat} {f : Nat → Value} {n : Nat} {T : TypeId} {W : World} (h : Bf b f n T W) (j : Nat) : W.frozen? ⟨b, j, none⟩ = false := by
  obtain ⟨cs, h1, _⟩ := h; exact h1.free j
theorem Bf.set {b : Nat} {f : Nat → Value} {n : Nat} {T : TypeId} {W : World} (h : Bf b f n T W) (j : Nat) (u : Value) : Bf b (upd f j u) n T (W.setCell ⟨b, j, none⟩ u) := by
  obtain ⟨cs, h1, h2, h3⟩ := h
  refine ⟨cs.setIfInBounds j u, h1.set j u, by simp [h2], fun i hi => ?_⟩
  unfold upd
  by_cases e : i = j
  · subst e; rw [if_pos rfl]; simp [h2, hi]
  · rw [if_neg e, ← h3 i hi]; simp [Ne.symm e]
theorem Bf.other {b c i : Nat} {f : Nat → Value} {n : Nat} {T : TypeId} {W : World} (h : Bf b f n T W) (hne : b ≠ c) (v : Value) : Bf b f n T (W.setCell ⟨c, i, none⟩ v) := by
  obtain ⟨cs, h1, h2⟩ := h; exact ⟨cs, h1.other hne v, h2⟩
theorem Bf.congr {b : Nat} {f g : Nat → Value} {n : Nat} {T : TypeId} {W : World} (h : Bf b f n T W) (he : ∀ j, j < n → f j = g j) : Bf b g n T W := by
  obtain ⟨cs, h1, h2, h3⟩ := h; exact ⟨cs, h1, h2, fun j hj => (h3 j hj).trans (by rw [he j hj])⟩
theorem Bf.block {b : Nat} {f : Nat → Value} {n : Nat} {T : TypeId} {W W' : World} (h : Bf b f n T W) (he : W'.heap[b]? = W.heap[b]?) : Bf b f n T W' := by
  obtain ⟨cs, h1, h2⟩ := h; exact ⟨cs, he.trans h1, h2⟩
theorem Bf.call {b : Nat} {f : Nat → Value} {n : Nat} {T : TypeId} {W W' : World} (h : Bf b f n T W) (hb : Below W.heap.size W W') : Bf b f n T W' := h.block (hb.block b h.lt)
theorem Bf.drew {b : Nat} {f : Nat → Value} {n : Nat} {T : TypeId} {W : World} (h : Bf b f n T W) : Bf b f n T W.drew := h

/-- a run in progress -/
structure Mc where
  stk : Nat → Vl
  dep : Nat
  slo : Nat → Vl
  own : List Pr
  st : Int
  code : Int
  out : List Vl
  rds : List (List UInt8)
  puts : List (List UInt8)
  wrs : List Pr
  miss : List UInt8
  steps : Int
  done : Bool
def vlc (v : Vl) (r : Nat) : Value := if r = 0 then .int .i64 v.k else if r = 1 then .int .i64 v.n else .string (bs v.s)
/-- the machine's cells; R: the values of its rows (own, out, reads, puts, writes) -/
structure Rw where
  ov : Value
  outv : Value
  rv : Value
  pv : Value
  wv : Value
def tailM (m : Mc) (R : Rw) : Nat → Value
  | 0 => R.ov
  | 1 => .int .i64 m.st
  | 2 => .int .i64 m.code
  | 3 => R.outv
  | 4 => R.rv
  | 5 => R.pv
  | 6 => R.wv
  | 7 => .string (bs m.miss)
  | 8 => .int .i64 m.steps
  | _ => .bool m.done
def mcf (H : Nat → Value) (m : Mc) (R : Rw) (j : Nat) : Value :=
  if j < 7 then H j else if j < 199 then vlc (m.stk ((j - 7) / 3)) ((j - 7) % 3) else if j = 199 then .int .i64 (m.dep : Int) else if j < 392 then vlc (m.slo ((j - 200) / 3)) ((j - 200) % 3) else tailM m R (j - 392)
theorem mcf_hd (H : Nat → Value) (m : Mc) (R : Rw) {j : Nat} (h : j < 7) : mcf H m R j = H j := if_pos h
theorem mcf_tl (H : Nat → Value) (m : Mc) (R : Rw) (j : Nat) : mcf H m R (392 + j) = tailM m R j := by
  unfold mcf; rw [if_neg (by omega), if_neg (by omega), if_neg (by omega), if_neg (by omega), Nat.add_sub_cancel_left]
theorem mcf_stk (H : Nat → Value) (m : Mc) (R : Rw) {d r : Nat} (hd : d < 64) (hr : r < 3) : mcf H m R (7 + d * 3 + r) = vlc (m.stk d) r := by
  unfold mcf; rw [if_neg (by omega), if_pos (by omega), show (7 + d * 3 + r - 7) / 3 = d by omega, show (7 + d * 3 + r - 7) % 3 = r by omega]
theorem mcf_slo (H : Nat → Value) (m : Mc) (R : Rw) {d r : Nat} (hd : d < 64) (hr : r < 3) : mcf H m R (200 + d * 3 + r) = vlc (m.slo d) r := by
  unfold mcf; rw [if_neg (by omega), if_neg (by omega), if_neg (by omega), if_pos (by omega), show (200 + d * 3 + r - 200) / 3 = d by omega, show (200 + d * 3 + r - 200) % 3 = r by omega]
theorem tail_stk (m : Mc) (R : Rw) (f : Nat → Vl) : tailM { m with stk := f } R = tailM m R := by funext k; unfold tailM; rfl
theorem tail_slo (m : Mc) (R : Rw) (f : Nat → Vl) : tailM { m with slo := f } R = tailM m R := by funext k; unfold tailM; rfl
theorem tail_dep (m : Mc) (R : Rw) (d : Nat) : tailM { m with dep := d } R = tailM m R := by funext k; unfold tailM; rfl
/-- the value laid at one place of the stack -/
def setV (f : Nat → Vl) (d : Nat) (v : Vl) : Nat → Vl := fun i => if i = d then v else f i
theorem upd_stk (H : Nat → Value) (m : Mc) (R : Rw) {d : Nat} (hd : d < 64) (v : Vl) : ∀ j, j < 402 → upd (upd (upd (mcf H m R) (7 + d * 3) (.int .i64 v.k)) (7 + d * 3 + 1) (.int .i64 v.n)) (7 + d * 3 + 2) (.string (bs v.s)) j = mcf H { m with stk := setV m.stk d v } R j := by
  intro j hj
  by_cases h : 7 + d * 3 ≤ j ∧ j < 7 + d * 3 + 3
  · obtain ⟨r, rfl⟩ : ∃ r, j = 7 + d * 3 + r := ⟨j - (7 + d * 3), by omega⟩
    have hr : r < 3 := by omega
    rw [mcf_stk H _ R hd hr]
    have hs : setV m.stk d v d = v := if_pos rfl
    simp only [hs]
    unfold upd vlc
    rcases r with _ | _ | _ | r
    · simp
    · simp
    · simp
    · omega
  · unfold upd
    rw [if_neg (by omega), if_neg (by omega), if_neg (by omega)]
    unfold mcf
    by_cases h1 : j < 7
    · rw [if_pos h1, if_pos h1]
    rw [if_neg h1, if_neg h1]
    by_cases h2 : j < 199
    · rw [if_pos h2, if_pos h2]
      simp only [setV]
      rw [if_neg (by omega)]
    · rw [if_neg h2, if_neg h2, tail_stk m R (setV m.stk d v)]
theorem upd_slo (H : Nat → Value) (m : Mc) (R : Rw) {d : Nat} (hd : d < 64) (v : Vl) : ∀ j, j < 402 → upd (upd (upd (mcf H m R) (200 + d * 3) (.int .i64 v.k)) (200 + d * 3 + 1) (.int .i64 v.n)) (200 + d * 3 + 2) (.string (bs v.s)) j = mcf H { m with slo := setV m.slo d v } R j := by
  intro j hj
  by_cases h : 200 + d * 3 ≤ j ∧ j < 200 + d * 3 + 3
  · obtain ⟨r, rfl⟩ : ∃ r, j = 200 + d * 3 + r := ⟨j - (200 + d * 3), by omega⟩
    have hr : r < 3 := by omega
    rw [mcf_slo H _ R hd hr]
    have hs : setV m.slo d v d = v := if_pos rfl
    simp only [hs]
    unfold upd vlc
    rcases r with _ | _ | _ | r
    · simp
    · simp
    · simp
    · omega
  · unfold upd
    rw [if_neg (by omega), if_neg (by omega), if_neg (by omega)]
    unfold mcf
    by_cases h1 : j < 7
    · rw [if_pos h1, if_pos h1]
    rw [if_neg h1, if_neg h1]
    by_cases h2 : j < 199
    · rw [if_pos h2, if_pos h2]
    rw [if_neg h2, if_neg h2]
    by_cases h3 : j = 199
    · rw [if_pos h3, if_pos h3]
    rw [if_neg h3, if_neg h3]
    by_cases h4 : j < 392
    · rw [if_pos h4, if_pos h4]
      simp only [setV]
      rw [if_neg (by omega)]
    · rw [if_neg h4, if_neg h4, tail_slo m R (setV m.slo d v)]
theorem upd_dep (H : Nat → Value) (m : Mc) (R : Rw) (d : Nat) : ∀ j, j < 402 → upd (mcf H m R) 199 (.int .i64 (d : Int)) j = mcf H { m with dep := d } R j := by
  intro j hj
  unfold upd
  by_cases h : j = 199
  · subst h; rfl
  · rw [if_neg h]
    unfold mcf
    by_cases h1 : j < 7
    · rw [if_pos h1, if_pos h1]
    rw [if_neg h1, if_neg h1]
    by_cases h2 : j < 199
    · rw [if_pos h2, if_pos h2]
    rw [if_neg h2, if_neg h2, if_neg h, if_neg h]
    by_cases h4 : j < 392
    · rw [if_pos h4, if_pos h4]
    · rw [if_neg h4, if_neg h4, tail_dep m R d]
/-- a store into one of the last ten cells -/
theorem upd_tl (H : Nat → Value) (m m' : Mc) (R R' : Rw) (k : Nat) (u : Value) (hs : m'.stk = m.stk) (hd : m'.dep = m.dep) (hl : m'.slo = m.slo) (hk : k < 10) (hu : tailM m' R' k = u) (ho : ∀ i, i < 10 → i ≠ k → tailM m' R' i = tailM m R i) : ∀ j, j < 402 → upd (mcf H m R) (392 + k) u j = mcf H m' R' j := by
  intro j hj
  unfold upd
  by_cases h : j = 392 + k
  · subst h; rw [if_pos rfl, mcf_tl, hu]
  · rw [if_neg h]
    unfold mcf
    rw [hs, hd, hl]
    by_cases h1 : j < 7
    · rw [if_pos h1, if_pos h1]
    rw [if_neg h1, if_neg h1]
    by_cases h2 : j < 199
    · rw [if_pos h2, if_pos h2]
    rw [if_neg h2, if_neg h2]
    by_cases h3 : j = 199
    · rw [if_pos h3, if_pos h3]
    rw [if_neg h3, if_neg h3]
    by_cases h4 : j < 392
    · rw [if_pos h4, if_pos h4]
    · rw [if_neg h4, if_neg h4, ho (j - 392) (by omega) (by omega)]

/-- what stands behind a call that works on the blocks S -/
structure FrS (S S' : Nat → Prop) (w w' : World) : Prop where
  os : w'.os = w.os
  tape : w'.tape = w.tape
  output : w'.output = w.output
  size : w.heap.size ≤ w'.heap.size
  block : ∀ k, k < w.heap.size → ¬ S k → w'.heap[k]? = w.heap[k]?
  new : ∀ k, S' k → S k ∨ w.heap.size ≤ k
theorem FrS.refl (S : Nat → Prop) (w : World) : FrS S S w w := ⟨rfl, rfl, rfl, Nat.le_refl _, fun _ _ _ => rfl, fun _ h => .inl h⟩
theorem FrS.then {S S1 S2 : Nat → Prop} {w w1 w2 : World} (h : FrS S S1 w w1) (k : FrS S1 S2 w1 w2) : FrS S S2 w w2 :=
  ⟨k.os.trans h.os, k.tape.trans h.tape, k.output.trans h.output, Nat.le_trans h.size k.size,
   fun j hj hn => (k.block j (Nat.lt_of_lt_of_le hj h.size) (fun e => by rcases h.new j e with q | q; exact hn q; omega)).trans (h.block j hj hn),
   fun j hj => by rcases k.new j hj with q | q
                  · exact h.new j q
                  · exact .inr (Nat.le_trans h.size q)⟩
theorem FrS.of_below {S : Nat → Prop} {w w' : World} (h : Below w.heap.size w w') : FrS S S w w' := ⟨h.os, h.tape, h.output, h.size, fun k hk _ => h.block k hk, fun _ h => .inl h⟩
theorem FrS.set {S S' : Nat → Prop} {w W : World} (h : FrS S S' w W) (c i : Nat) (u : Value) (hc : S' c ∨ w.heap.size ≤ c) : FrS S S' w (W.setCell ⟨c, i, none⟩ u) := by
  have g := grown_set W ⟨c, i, none⟩ u
  refine ⟨g.os.trans h.os, g.tape.trans h.tape, g.output.trans h.output, Nat.le_trans h.size g.size, fun k hk hn => (g.block k (Nat.lt_of_lt_of_le hk h.size) ?_).trans (h.block k hk hn), h.new⟩
  intro e
  have e2 : k = c := by simpa using e
  subst e2
  rcases hc with q | q
  · rcases h.new k q with q2 | q2
    · exact hn q2
    · omega
  · omega
theorem FrS.drew {S S' : Nat → Prop} {w w' : World} (h : FrS S S' w w') : FrS S S' w w'.drew := ⟨h.os, h.tape, h.output, h.size, h.block, h.new⟩
theorem FrS.not {S S' : Nat → Prop} {w w' : World} (h : FrS S S' w w') {k : Nat} (hk : k < w.heap.size) (hn : ¬ S k) : ¬ S' k := fun e => by
  rcases h.new k e with q | q
  · exact hn q
  · omega
theorem Bx.frs {S S' : Nat → Prop} {b : Nat} {cs : Array Value} {T : TypeId} {w w' : World} (h : Bx b cs T w) (k : FrS S S' w w') (hn : ¬ S b) : Bx b cs T w' := (k.block b h.lt hn).trans h
theorem FrS.below {S S' : Nat → Prop} {B : Nat} {W0 w w' : World} (h : Below B W0 w) (k : FrS S S' w w') (hB : B ≤ w.heap.size) (hS : ∀ j, S j → B ≤ j) : Below B W0 w' :=
  ⟨k.os.trans h.os, k.tape.trans h.tape, k.output.trans h.output, Nat.le_trans h.size k.size, fun j hj => (k.block j (by omega) (fun e => by have := hS j e; omega)).trans (h.block j hj)⟩
/-- a row whose block is among S -/
def OwnS (S : Nat → Prop) (B : Nat) (e : TypeId) (k : Nat) (v : Value) (n : Nat) (xs : List Value) (W : World) : Prop := W.ownsRow B e k v n xs ∧ ∀ g, v.ownBlock = some g → S g
/-- the machine stands in the heap, in the blocks S, all of them younger than B -/
structure VMB (B mb : Nat) (S : Nat → Prop) (H : Nat → Value) (m : Mc) (R : Rw) (W : World) : Prop where
  mS : S mb
  rng : ∀ j, S j → B ≤ j ∧ j < W.heap.size
  bf : Bf mb (mcf H m R) 402 68 W
  own : OwnS S B 55 4 R.ov m.own.length (prLs m.own) W
  out : OwnS S B 52 3 R.outv m.out.length (vlLs m.out) W
  rds : OwnS S B 9 1 R.rv m.rds.length (m.rds.map strV) W
  puts : OwnS S B 9 1 R.pv m.puts.length (m.puts.map strV) W
  wrs : OwnS S B 55 4 R.wv m.wrs.length (prLs m.wrs) W
  apart : R.rv.ownBlock = none ∨ R.rv.ownBlock ≠ R.pv.ownBlock
  apart2 : R.wv.ownBlock = none ∨ R.wv.ownBlock ≠ R.ov.ownBlock
theorem OwnS.blocks {S : Nat → Prop} {B k n : Nat} {e : TypeId} {v : Value} {xs : List Value} {W W' : World} (h : OwnS S B e k v n xs W) (hk : ∀ g, S g → g < W.heap.size → v.ownBlock = some g → W'.heap[g]? = W.heap[g]?) : OwnS S B e k v n xs W' := by
  refine ⟨?_, h.2⟩
  refine ⟨h.1.1, ?_⟩
  rcases h.1.2 with hn | ⟨g, cap, cur, rfl, hb, hgg, rest⟩
  · exact .inl hn
  · exact .inr ⟨g, cap, cur, rfl, hb, (hk g (h.2 g rfl) (lt_heap hgg) rfl).trans hgg, rest⟩
theorem VMB.call {B mb : Nat} {S : Nat → Prop} {H : Nat → Value} {m : Mc} {R : Rw} {W W' : World} (h : VMB B mb S H m R W) (hb : Below W.heap.size W W') : VMB B mb S H m R W' :=
  ⟨h.mS, fun j hj => ⟨(h.rng j hj).1, Nat.lt_of_lt_of_le (h.rng j hj).2 hb.size⟩, h.bf.call hb, h.own.blocks fun g _ hg _ => hb.block g hg, h.out.blocks fun g _ hg _ => hb.block g hg, h.rds.blocks fun g _ hg _ => hb.block g hg, h.puts.blocks fun g _ hg _ => hb.block g hg, h.wrs.blocks fun g _ hg _ => hb.block g hg, h.apart, h.apart2⟩
theorem VMB.drew {B mb : Nat} {S : Nat → Prop} {H : Nat → Value} {m : Mc} {R : Rw} {W : World} (h : VMB B mb S H m R W) : VMB B mb S H m R W.drew := ⟨h.mS, h.rng, h.bf, h.own, h.out, h.rds, h.puts, h.wrs, h.apart, h.apart2⟩
theorem VMB.not {B mb : Nat} {S : Nat → Prop} {H : Nat → Value} {m : Mc} {R : Rw} {W : World} (h : VMB B mb S H m R W) : ¬ S W.heap.size := fun e => by have := (h.rng _ e).2; omega
/-- a store into the machine's own block -/
theorem OwnS.set {S : Nat → Prop} {B k n b : Nat} {e T : TypeId} {f : Nat → Value} {N : Nat} {v : Value} {xs : List Value} {W : World} (h : OwnS S B e k v n xs W) (hb : Bf b f N T W) (hT : T ≠ e) (i : Nat) (u : Value) : OwnS S B e k v n xs (W.setCell ⟨b, i, none⟩ u) := by
  obtain ⟨cs, hx, _⟩ := hb
  exact ⟨own_st h.1 hx hT i u, h.2⟩
theorem VMB.put {B mb : Nat} {S : Nat → Prop} {H : Nat → Value} {m m' : Mc} {R : Rw} {W : World} (h : VMB B mb S H m R W) (i : Nat) (u : Value) (he : ∀ j, j < 402 → upd (mcf H m R) i u j = mcf H m' R j) (h1 : m'.own = m.own) (h2 : m'.out = m.out) (h3 : m'.rds = m.rds) (h4 : m'.puts = m.puts) (h5 : m'.wrs = m.wrs) : VMB B mb S H m' R (W.setCell ⟨mb, i, none⟩ u) := by
  refine ⟨h.mS, fun j hj => ⟨(h.rng j hj).1, Nat.lt_of_lt_of_le (h.rng j hj).2 (grown_set W ⟨mb, i, none⟩ u).size⟩, (h.bf.set i u).congr he, ?_, ?_, ?_, ?_, ?_, h.apart, h.apart2⟩
  · rw [h1]; exact h.own.set h.bf (by decide) i u
  · rw [h2]; exact h.out.set h.bf (by decide) i u
  · rw [h3]; exact h.rds.set h.bf (by decide) i u
  · rw [h4]; exact h.puts.set h.bf (by decide) i u
  · rw [h5]; exact h.wrs.set h.bf (by decide) i u
theorem VMB.put3 {B mb : Nat} {S : Nat → Prop} {H : Nat → Value} {m m' : Mc} {R : Rw} {W : World} (h : VMB B mb S H m R W) (i0 i1 i2 : Nat) (u0 u1 u2 : Value) (he : ∀ j, j < 402 → upd (upd (upd (mcf H m R) i0 u0) i1 u1) i2 u2 j = mcf H m' R j) (h1 : m'.own = m.own) (h2 : m'.out = m.out) (h3 : m'.rds = m.rds) (h4 : m'.puts = m.puts) (h5 : m'.wrs = m.wrs) : VMB B mb S H m' R (((W.setCell ⟨mb, i0, none⟩ u0).setCell ⟨mb, i1, none⟩ u1).setCell ⟨mb, i2, none⟩ u2) := by
  have b1 := h.bf.set i0 u0
  have b2 := b1.set i1 u1
  refine ⟨h.mS, fun j hj => ⟨(h.rng j hj).1, ?_⟩, (b2.set i2 u2).congr he, ?_, ?_, ?_, ?_, ?_, h.apart, h.apart2⟩
  · have g1 := (grown_set W ⟨mb, i0, none⟩ u0).size
    have g2 := (grown_set (W.setCell ⟨mb, i0, none⟩ u0) ⟨mb, i1, none⟩ u1).size
    have g3 := (grown_set ((W.setCell ⟨mb, i0, none⟩ u0).setCell ⟨mb, i1, none⟩ u1) ⟨mb, i2, none⟩ u2).size
    have := (h.rng j hj).2
    omega
  · rw [h1]; exact ((h.own.set h.bf (by decide) i0 u0).set b1 (by decide) i1 u1).set b2 (by decide) i2 u2
  · rw [h2]; exact ((h.out.set h.bf (by decide) i0 u0).set b1 (by decide) i1 u1).set b2 (by decide) i2 u2
  · rw [h3]; exact ((h.rds.set h.bf (by decide) i0 u0).set b1 (by decide) i1 u1).set b2 (by decide) i2 u2
  · rw [h4]; exact ((h.puts.set h.bf (by decide) i0 u0).set b1 (by decide) i1 u1).set b2 (by decide) i2 u2
  · rw [h5]; exact ((h.wrs.set h.bf (by decide) i0 u0).set b1 (by decide) i1 u1).set b2 (by decide) i2 u2
/-- how a method of the machine ends -/
def VPost (B mb : Nat) (S : Nat → Prop) (H : Nat → Value) (m : Mc) (r : Value) (w : World) (e : Ending) (w' : World) : Prop := e = .returned r ∧ ∃ S' R', VMB B mb S' H m R' w' ∧ FrS S S' w w'
end Go.Proofs.YtnglaegofhpleaaGreatDoor
