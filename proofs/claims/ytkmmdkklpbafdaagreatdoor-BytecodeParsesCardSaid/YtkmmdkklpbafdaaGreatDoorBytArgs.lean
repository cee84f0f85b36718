/- What the rows' listed variables give, and how code among the arguments is read. No conditions. -/
import Derived.Test.YtkmmdkklpbafdaaGreatDoorBytE
import Derived.Test.YtkmmdkklpbafdaaGreatDoorBytJ
import Derived.Lib.LaidTab
import Derived.Stop.LaidErr
import Derived.LaidMore
import Derived.Deep.Slices
import Derived.Lib.SmallJoins
import Derived.OpenShut
import Derived.ProofKit
import Derived.SizedLaws
import Derived.SliceStrings
import Derived.HandedShaped
import Derived.Shelf.Vars
import Derived.Test.YtkmmdkklpbafdaaGreatDoorRows
namespace Go.Proofs.YtkmmdkklpbafdaaGreatDoor
open Go.ChangeShapes Go.WideShapes Go.ChangeAt Go.RowKit

theorem returnsInHanded_of_change_and_shaped {H : Type} {enc : TypeId × Value → H} {a : Assume} {C : Checked} {os : Os} {f : FuncId} {fn : Func} {s : ChangeSpec} {conds : List PathCond} {apart fresh handsOn again : Bool} {X : World → Array Value → Prop}
    (hX : ∀ (w w' : World) (args : Array Value), w.heap = w'.heap → X w args → X w' args)
    (own : ownKnob C.prog.godebug = none) (started : os.Started) (noInit : C.prog.inits.idxOf? f = none) (hfn : C.prog.funcs[f]? = some fn)
    (witness : ∃ (w : World) (tape : Tape) (i : Input), w.os = os ∧ (w.forCall tape i).Shaped C.prog ∧ i.vars = [] ∧ Input.okWide C.prog (w.forCall tape i) .any w.heap.size f i ∧
      ((s.pre enc C.prog fn conds apart (w.forCall tape i).memory i.args ∧ X (w.forCall tape i).memory i.args) ∧ sizedMet enc C.prog fn (OpenSpec.ofChange s) apart (w.forCall tape i).memory i.args) ∧ a.holds C.prog (lone (Frame.enter C.prog f i.args .normal) [] (w.forCall tape i)))
    (contract : ∀ (W : World) (base : Nat) (args : Array Value) (ds gs : List (DataW H)) (before : List MemPlace),
      (∀ (j : Nat) t v, fn.params[j]? = some t → args[j]? = some v → Value.okWide C.prog W .any base t v) →
      DataW.Whole enc C.prog fn.params.toList s.vars apart W args.toList ds gs before →
      conds.all (PathCond.test C.prog ⟨fn.params.toList, ds, s.plain.varTypes C.prog, gs⟩) = true →
      (DataW.weightsEach C.prog (fn.params.toList ++ s.plain.varTypes C.prog) (ds ++ gs)).all (· ≤ reachBytes) = true → X W args →
      W.ShapedOpen C.prog →
      a.holds C.prog (lone (Frame.enter C.prog f args .normal) [] W) →
      Calls C.prog f args W fun e W' => ∃ v, e = .returned v ∧ s.post enc C.prog fn apart fresh handsOn again W args v W') :
    ReturnsInHanded a C os f .any (fun w args => (s.pre enc C.prog fn conds apart w args ∧ X w args) ∧ sizedMet enc C.prog fn (OpenSpec.ofChange s) apart w args) (s.post enc C.prog fn apart fresh handsOn again) := by
  refine returnsInHanded_of_calls own started noInit witness ?_
  intro w tape i _ hsh _ hok hpre hholds
  obtain ⟨_, _, _, fn', hfn', _, _, _, _, hval⟩ := hok
  have e : fn' = fn := Option.some.inj (hfn'.symm.trans hfn)
  subst e
  obtain ⟨⟨⟨ds, gs, before, hw, hc⟩, hx⟩, hz⟩ := hpre
  have hw' := DataW.Whole.of_heap (w' := w.forCall tape i) (by rfl) hw
  refine (contract (w.forCall tape i) w.heap.size i.args ds gs before hval hw' hc (hz.weights hw) (hX _ _ _ (by rfl) hx) hsh hholds).mono fun e W' ⟨v, he, hp⟩ => ?_
  subst he
  exact ChangeSpec.post_blind hp
theorem sized_of {H : Type} {P : Program} {ts : List TypeId} {ds : List (DataW H)} (h : (DataW.weightsEach P ts ds).all (· ≤ reachBytes) = true) {j : Nat} {t : TypeId} {d : DataW H} (ht : ts[j]? = some t) (hd : ds[j]? = some d) : ∀ n ∈ d.weights P t, n ≤ reachBytes := by
  intro n hn
  have := List.all_eq_true.1 h n (DataW.weights_mem_each ht hd n hn)
  simpa using this
set_option maxRecDepth 100000 in
theorem laidB_of {W : World} (h : laidMetH Tryz.prog Rows.bytecodeNamesRow.laid W) (hS : W.ShapedOpen Tryz.prog) : LaidB W := by
  rw [MakeChecks.laidMetH_plain _ _ _ (by kernel_rfl)] at h
  have h3 := h.tail.tail
  have h5 := h3.tail.tail
  have h8 := h5.tail.tail.tail
  refine ⟨⟨?_, ?_⟩, ?_, ?_⟩
  · exact Lib.tabIs_of_head (name := Tryz.slashName0) (k := .u64) (zs := Lib.pow10Tab) gTab (by kernel_rfl) Tryz.underlying171 Tryz.underlying121 (by kernel_rfl) (by kernel_rfl) h3
  · obtain ⟨a, s, hv, _⟩ := laid_sentinel (tp := 193) h5 gRange (by kernel_rfl) Tryz.underlying49 (fun u hu => typeName_ptr_named (nm := "errors.errorString") (by kernel_rfl) (by kernel_rfl) (by decide) u (hu.trans (congrArg some (by decide)))) Tryz.underlying193 Tryz.underlying195 rfl rfl Tryz.underlying9 (by kernel_rfl) (by kernel_rfl)
    exact ⟨_, _, hv⟩
  · exact Lib.tabIs_of_head (name := "strings.asciiSpace") (k := .u8) (zs := Lib.asciiSpaceTab) gSpace (by kernel_rfl) Tryz.underlying92 Tryz.underlying5 (by kernel_rfl) (by kernel_rfl) h8
  · exact cell_of_shapedOpen_int hS (zero := #[.int .i64 0]) (g := 3) (of_decide_eq_true (by kernel_rfl)) (h0 := by kernel_rfl) rfl (by kernel_rfl) (by kernel_rfl) Tryz.underlying3
theorem addr_add (b off i : Nat) : (⟨b, off, none⟩ : Addr).add i = ⟨b, off + i, none⟩ := by unfold Addr.add; split <;> simp_all
theorem insLs_at : ∀ (M : List Ins) (k q : Nat) (h : k < M.length), q < 5 → (insLs M)[k * 5 + q]? = (insL M[k])[q]?
  | [], k, q, h, _ => by simp at h
  | x :: r, 0, q, h, hq => by
    show (insL x ++ insLs r)[0 * 5 + q]? = _
    rw [List.getElem?_append_left (by show _ < 5; omega), Nat.zero_mul, Nat.zero_add]; rfl
  | x :: r, k + 1, q, h, hq => by
    have ih := insLs_at r k q (by simpa using h) hq
    show (insL x ++ insLs r)[(k + 1) * 5 + q]? = _
    rw [List.getElem?_append_right (by show 5 ≤ _; omega), show (k + 1) * 5 + q - (insL x).length = k * 5 + q by show (k + 1) * 5 + q - 5 = _; omega, ih]; rfl
def intL (x : Int) : List Value := [.int .i64 x]
theorem intsL_at : ∀ (M : List Int) (k q : Nat) (h : k < M.length), q < 1 → (intsL M)[k * 1 + q]? = (intL M[k])[q]? := by
  intro M k q h hq
  obtain rfl : q = 0 := by omega
  unfold intsL intL
  rw [Nat.mul_one, Nat.add_zero, List.getElem?_map, List.getElem?_eq_getElem h]; rfl
def InsN (x : Ins) : Prop := (-9223372036854775808 ≤ x.a ∧ x.a ≤ 9223372036854775807) ∧ (-9223372036854775808 ≤ x.b ∧ x.b ≤ 9223372036854775807) ∧ (-9223372036854775808 ≤ x.n ∧ x.n ≤ 9223372036854775807)
theorem wf_rng {q : Int} (w : (Lit.int .i64 q).wf = true) : -9223372036854775808 ≤ q ∧ q ≤ 9223372036854775807 := of_wf w
section
variable {H : Type} {enc : TypeId × Value → H} {W : World} {base : Nat} {spare : Nat → Bool} {held : Bool}
theorem trod_intv {fuel : Nat} {cs : List Value} {x : DataW H × List MemPlace} (h : DataW.trod enc Tryz.prog W base spare held fuel 3 cs = some x) : ∃ y : Int, cs = intL y ∧ True := by
  obtain ⟨k, e0, _⟩ := DataW.trod_int Tryz.underlying3 h
  exact ⟨k, e0, trivial⟩
set_option maxRecDepth 100000 in
theorem trod_ins {fuel : Nat} {cs : List Value} {x : DataW H × List MemPlace} (h : DataW.trod enc Tryz.prog W base spare held fuel 39 cs = some x) :
    ∃ y : Ins, cs = insL y ∧ InsN y := by
  obtain ⟨ys, n, _, _, hlen, hyl, hf⟩ := DataW.trod_struct Tryz.underlying39 h
  rw [show Tryz.prog.cellsOf 39 = 5 by kernel_rfl] at hlen
  match cs, hlen with
  | [u0, u1, u2, u3, u4], _ =>
    match ys, hyl with
    | [y0, y1, y2, y3, y4], _ =>
      have g0 : DataW.trod enc Tryz.prog W base spare held n 3 (([u0, u1, u2, u3, u4].drop 0).take (Tryz.prog.cellsOf 3)) = some y0 := hf 0 _ rfl
      have g1 : DataW.trod enc Tryz.prog W base spare held n 3 (([u0, u1, u2, u3, u4].drop 1).take (Tryz.prog.cellsOf 3)) = some y1 := hf 1 _ rfl
      have g2 : DataW.trod enc Tryz.prog W base spare held n 3 (([u0, u1, u2, u3, u4].drop 2).take (Tryz.prog.cellsOf 3)) = some y2 := hf 2 _ rfl
      have g3 : DataW.trod enc Tryz.prog W base spare held n 2 (([u0, u1, u2, u3, u4].drop 3).take (Tryz.prog.cellsOf 2)) = some y3 := hf 3 _ rfl
      have g4 : DataW.trod enc Tryz.prog W base spare held n 9 (([u0, u1, u2, u3, u4].drop 4).take (Tryz.prog.cellsOf 9)) = some y4 := hf 4 _ rfl
      rw [show Tryz.prog.cellsOf 3 = 1 by kernel_rfl] at g0 g1 g2
      rw [show Tryz.prog.cellsOf 2 = 1 by kernel_rfl] at g3
      rw [show Tryz.prog.cellsOf 9 = 1 by kernel_rfl] at g4
      obtain ⟨op, e0, _, w0⟩ := DataW.trod_int Tryz.underlying3 g0
      obtain ⟨a, e1, _, w1⟩ := DataW.trod_int Tryz.underlying3 g1
      obtain ⟨b, e2, _, w2⟩ := DataW.trod_int Tryz.underlying3 g2
      obtain ⟨q, e3, _, w3⟩ := DataW.trod_int Tryz.underlying2 g3
      obtain ⟨s, e4, _⟩ := DataW.trod_string Tryz.underlying9 g4
      simp at e0 e1 e2 e3 e4
      subst e0 e1 e2 e3 e4
      exact ⟨⟨op, a, b, q, s.data.toList⟩, by simp only [insL, bs_toList], wf_rng w1, wf_rng w2, wf_rng w3⟩
theorem trod_ints {fuel : Nat} {cs : List Value} {x : DataW H × List MemPlace} (h : DataW.trod enc Tryz.prog W base spare held fuel 22 cs = some x) :
    ∃ (a : Option Addr) (c : Nat) (M : List Int), cs = [.slice a M.length c] ∧ CellsAt W (.slice a M.length c) M.length (intsL M) ∧ ∀ x ∈ M, True := by
  rcases Deep.open_slice Tryz.underlying22 h with ⟨rfl, _⟩ | ⟨a, len0, cap0, m, n, D, Pl, rfl, _, hl, _, hm, hx, hi⟩
  · exact ⟨none, 0, [], rfl, ⟨none, 0, rfl, fun hne => absurd rfl hne⟩, by simp⟩
  · have hlm : len0 ≤ m := by rw [hm]; split <;> omega
    have hel : ∀ i, i < len0 → ∃ x : Int, (∀ j u, (intL x)[j]? = some u → W.cell? ((a.add (i * 1)).add j) = some u) ∧ True := by
      intro i hil
      obtain ⟨cs', hc, ht⟩ := hi i (by omega)
      rw [show Tryz.prog.cellsOf 3 = 1 by kernel_rfl] at hc
      obtain ⟨y, rfl, y0⟩ := trod_intv ht
      obtain ⟨_, _, hat⟩ := World.cells?_some hc
      refine ⟨y, fun j u hj => ?_, y0⟩
      have hj4 : j < (intL y).length := by
        rcases Nat.lt_or_ge j (intL y).length with h | h
        · exact h
        · rw [List.getElem?_eq_none h] at hj; cases hj
      exact (hat j hj4).trans hj
    obtain ⟨F, hF⟩ : ∃ F : Nat → Int, ∀ i, i < len0 → (∀ j u, (intL (F i))[j]? = some u → W.cell? ((a.add (i * 1)).add j) = some u) ∧ (fun x : Int => True) (F i) :=
      ⟨fun i => if h : i < len0 then (hel i h).choose else 0, fun i h => by simp only [dif_pos h]; exact (hel i h).choose_spec⟩
    have hML : ((List.range len0).map F).length = len0 := by simp
    refine ⟨some a, cap0, (List.range len0).map F, by rw [hML], ⟨some a, cap0, by rw [hML], fun hne => ?_⟩, ?_⟩
    · have h0 : 0 < len0 := by
        rcases Nat.eq_zero_or_pos len0 with h | h
        · subst h; exact absurd rfl hne
        · exact h
      obtain ⟨b, off, spot⟩ := a
      have hspot : spot = none := by
        have h9 := (hF 0 h0).1 0 _ rfl
        have h10 := World.cell?_spot h9
        cases spot with
        | none => rfl
        | some q => simp [Addr.add] at h10
      subst hspot
      refine ⟨b, off, rfl, fun j u hj => ?_⟩
      have hlen := intsL_length ((List.range len0).map F)
      rw [hML] at hlen
      have hj4 : j < len0 * 1 := by
        rcases Nat.lt_or_ge j (len0 * 1) with h | h
        · exact h
        · rw [List.getElem?_eq_none (by rw [hlen]; omega)] at hj; cases hj
      have hq := intsL_at ((List.range len0).map F) (j / 1) (j % 1) (by rw [hML]; omega) (by omega)
      rw [show j / 1 * 1 + j % 1 = j by omega, hj] at hq
      simp only [List.getElem_map, List.getElem_range] at hq
      have h8 := (hF (j / 1) (by omega)).1 (j % 1) u hq.symm
      rw [addr_add, addr_add] at h8
      rw [show off + j = off + j / 1 * 1 + j % 1 by omega]
      exact h8
    · intro x hxm
      obtain ⟨i, hi2, rfl⟩ := List.mem_map.1 hxm
      exact (hF i (List.mem_range.1 hi2)).2
theorem trod_insts {fuel : Nat} {cs : List Value} {x : DataW H × List MemPlace} (h : DataW.trod enc Tryz.prog W base spare held fuel 23 cs = some x) :
    ∃ (a : Option Addr) (c : Nat) (M : List Ins), cs = [.slice a M.length c] ∧ CellsAt W (.slice a M.length c) M.length (insLs M) ∧ ∀ x ∈ M, InsN x := by
  rcases Deep.open_slice Tryz.underlying23 h with ⟨rfl, _⟩ | ⟨a, len0, cap0, m, n, D, Pl, rfl, _, hl, _, hm, hx, hi⟩
  · exact ⟨none, 0, [], rfl, ⟨none, 0, rfl, fun hne => absurd rfl hne⟩, by simp⟩
  · have hlm : len0 ≤ m := by rw [hm]; split <;> omega
    have hel : ∀ i, i < len0 → ∃ x : Ins, (∀ j u, (insL x)[j]? = some u → W.cell? ((a.add (i * 5)).add j) = some u) ∧ InsN x := by
      intro i hil
      obtain ⟨cs', hc, ht⟩ := hi i (by omega)
      rw [show Tryz.prog.cellsOf 39 = 5 by kernel_rfl] at hc
      obtain ⟨y, rfl, y0⟩ := trod_ins ht
      obtain ⟨_, _, hat⟩ := World.cells?_some hc
      refine ⟨y, fun j u hj => ?_, y0⟩
      have hj4 : j < (insL y).length := by
        rcases Nat.lt_or_ge j (insL y).length with h | h
        · exact h
        · rw [List.getElem?_eq_none h] at hj; cases hj
      exact (hat j hj4).trans hj
    obtain ⟨F, hF⟩ : ∃ F : Nat → Ins, ∀ i, i < len0 → (∀ j u, (insL (F i))[j]? = some u → W.cell? ((a.add (i * 5)).add j) = some u) ∧ (fun x : Ins => InsN x) (F i) :=
      ⟨fun i => if h : i < len0 then (hel i h).choose else ins0, fun i h => by simp only [dif_pos h]; exact (hel i h).choose_spec⟩
    have hML : ((List.range len0).map F).length = len0 := by simp
    refine ⟨some a, cap0, (List.range len0).map F, by rw [hML], ⟨some a, cap0, by rw [hML], fun hne => ?_⟩, ?_⟩
    · have h0 : 0 < len0 := by
        rcases Nat.eq_zero_or_pos len0 with h | h
        · subst h; exact absurd rfl hne
        · exact h
      obtain ⟨b, off, spot⟩ := a
      have hspot : spot = none := by
        have h9 := (hF 0 h0).1 0 _ rfl
        have h10 := World.cell?_spot h9
        cases spot with
        | none => rfl
        | some q => simp [Addr.add] at h10
      subst hspot
      refine ⟨b, off, rfl, fun j u hj => ?_⟩
      have hlen := insLs_length ((List.range len0).map F)
      rw [hML] at hlen
      have hj4 : j < len0 * 5 := by
        rcases Nat.lt_or_ge j (len0 * 5) with h | h
        · exact h
        · rw [List.getElem?_eq_none (by rw [hlen]; exact h)] at hj; cases hj
      have hq := insLs_at ((List.range len0).map F) (j / 5) (j % 5) (by rw [hML]; omega) (by omega)
      rw [show j / 5 * 5 + j % 5 = j by omega, hj] at hq
      simp only [List.getElem_map, List.getElem_range] at hq
      have h8 := (hF (j / 5) (by omega)).1 (j % 5) u hq.symm
      rw [addr_add, addr_add] at h8
      rw [show off + j = off + j / 5 * 5 + j % 5 by omega]
      exact h8
    · intro x hxm
      obtain ⟨i, hi2, rfl⟩ := List.mem_map.1 hxm
      exact (hF i (List.mem_range.1 hi2)).2
set_option maxRecDepth 100000 in
theorem open_code {r : Reach} {b0 : Nat} {v : Value} {d : DataW H} {p : List MemPlace} (hv : Value.okWide Tryz.prog W r b0 25 v) (h : DataW.Trod enc Tryz.prog W base spare held 25 v d p) :
    ∃ (pa ia : Option Addr) (pc ic : Nat) (P : List Int) (sl : Int) (l : List Ins), v = .agg #[.slice pa P.length pc, .int .i64 sl, .slice ia l.length ic] ∧
      CellsAt W (.slice pa P.length pc) P.length (intsL P) ∧ CellsAt W (.slice ia l.length ic) l.length (insLs l) ∧ ∀ x ∈ l, InsN x := by
  obtain ⟨cs, rfl, hsz⟩ := okWide_struct Tryz.underlying25 hv
  obtain ⟨l⟩ := cs
  have hC : Tryz.prog.cellsOf 25 = 3 := by kernel_rfl
  match l, hsz.trans hC with
  | [u0, u1, u2], _ =>
    obtain ⟨fuel, hf⟩ := h
    obtain ⟨ys, n, _, hx, _, hyl, hg⟩ := DataW.trod_struct Tryz.underlying25 hf
    match ys, hyl with
    | [y0, y1, y2], _ =>
      have g0 : DataW.trod enc Tryz.prog W base spare held n 22 (([u0, u1, u2].drop 0).take (Tryz.prog.cellsOf 22)) = some y0 := hg 0 _ rfl
      have g1 : DataW.trod enc Tryz.prog W base spare held n 3 (([u0, u1, u2].drop 1).take (Tryz.prog.cellsOf 3)) = some y1 := hg 1 _ rfl
      have g2 : DataW.trod enc Tryz.prog W base spare held n 23 (([u0, u1, u2].drop 2).take (Tryz.prog.cellsOf 23)) = some y2 := hg 2 _ rfl
      rw [show Tryz.prog.cellsOf 22 = 1 by kernel_rfl] at g0
      rw [show Tryz.prog.cellsOf 3 = 1 by kernel_rfl] at g1
      rw [show Tryz.prog.cellsOf 23 = 1 by kernel_rfl] at g2
      obtain ⟨pa, pc, P, e0, hP, _⟩ := trod_ints g0
      obtain ⟨sl, e1, _⟩ := DataW.trod_int Tryz.underlying3 g1
      obtain ⟨ia, ic, M, e2, hM, hR⟩ := trod_insts g2
      simp at e0 e1 e2
      subst e0 e1 e2
      exact ⟨pa, ia, pc, ic, P, sl, M, rfl, hP, hM, hR⟩
end
end Go.Proofs.YtkmmdkklpbafdaaGreatDoor
