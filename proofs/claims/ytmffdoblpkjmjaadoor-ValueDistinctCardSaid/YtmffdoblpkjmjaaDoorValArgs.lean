/- How an api.Value among the arguments is read, and what the row's listed variables give. No conditions. -/
import Derived.Test.YtmffdoblpkjmjaaDoorValP
import Derived.Lib.LaidTab
import Derived.Stop.LaidErr
import Derived.LaidMore
import Derived.Deep.Slices
import Derived.Lib.SmallJoins
import Derived.OpenShut
import Derived.ProofKit
import Derived.SizedLaws
import Derived.SliceStrings
import Derived.Test.YtmffdoblpkjmjaaDoorRows
namespace Go.Proofs.YtmffdoblpkjmjaaDoor
open Go.ChangeShapes Go.WideShapes Go.ChangeAt Go.RowKit

section
variable {H : Type} {enc : TypeId × Value → H} {W : World} {base : Nat} {spare : Nat → Bool} {held : Bool}
set_option maxRecDepth 100000 in
theorem open_value {r : Reach} {b0 : Nat} {v : Value} {d : DataW H} {p : List MemPlace} (hv : Value.okWide Tryd.prog W r b0 23 v) (h : DataW.Trod enc Tryd.prog W base spare held 23 v d p)
    (hz : ∀ n ∈ d.weights Tryd.prog 23, n ≤ reachBytes) :
    ∃ x : Vl, v = .agg (vV x) ∧ -9223372036854775808 ≤ x.n ∧ x.n ≤ 9223372036854775807 ∧ x.s.length ≤ 140737488351232 := by
  obtain ⟨cs, rfl, hsz⟩ := okWide_struct Tryd.underlying23 hv
  obtain ⟨l⟩ := cs
  have hC : Tryd.prog.cellsOf 23 = 3 := by kernel_rfl
  match l, hsz.trans hC with
  | [u0, u1, u2], _ =>
    obtain ⟨fuel, hf⟩ := h
    obtain ⟨ys, n, _, hx, _, hyl, hg⟩ := DataW.trod_struct Tryd.underlying23 hf
    match ys, hyl with
    | [y0, y1, y2], _ =>
      have g0 : DataW.trod enc Tryd.prog W base spare held n 3 (([u0, u1, u2].drop 0).take (Tryd.prog.cellsOf 3)) = some y0 := hg 0 _ rfl
      have g1 : DataW.trod enc Tryd.prog W base spare held n 2 (([u0, u1, u2].drop 1).take (Tryd.prog.cellsOf 2)) = some y1 := hg 1 _ rfl
      have g2 : DataW.trod enc Tryd.prog W base spare held n 9 (([u0, u1, u2].drop 2).take (Tryd.prog.cellsOf 9)) = some y2 := hg 2 _ rfl
      have c1 : Tryd.prog.cellsOf 3 = 1 := by kernel_rfl
      have c2 : Tryd.prog.cellsOf 9 = 1 := by kernel_rfl
      have c3 : Tryd.prog.cellsOf 2 = 1 := by kernel_rfl
      rw [c1] at g0
      rw [c3] at g1
      rw [c2] at g2
      obtain ⟨a, e0, _⟩ := DataW.trod_int Tryd.underlying3 g0
      rw [Prod.mk.injEq] at hx
      have z2 : ∀ n ∈ y2.1.weights Tryd.prog 9, n ≤ reachBytes := fun n hn => hz n (by rw [hx.1]; simp only [DataW.weights, Tryd.underlying23, List.map_cons, List.map_nil, DataW.weightsEach, List.mem_append]; exact Or.inr (Or.inr (Or.inl hn)))
      obtain ⟨q, e1, _, w1⟩ := DataW.trod_int Tryd.underlying2 g1
      obtain ⟨s, e2, f2⟩ := DataW.trod_string Tryd.underlying9 g2
      simp at e0 e1 e2
      subst e0 e1 e2
      rw [f2.1] at z2
      obtain ⟨q0, q1⟩ := of_wf w1
      refine ⟨⟨a, q, s.data.toList⟩, by simp only [vV, bs_toList], q0, q1, ?_⟩
      have := z2 s.data.toList.length (by simp [DataW.weights])
      unfold reachBytes at this
      show s.data.toList.length ≤ _
      omega
end
theorem sized_of {H : Type} {P : Program} {ts : List TypeId} {ds : List (DataW H)} (h : (DataW.weightsEach P ts ds).all (· ≤ reachBytes) = true) {j : Nat} {t : TypeId} {d : DataW H} (ht : ts[j]? = some t) (hd : ds[j]? = some d) : ∀ n ∈ d.weights P t, n ≤ reachBytes := by
  intro n hn
  have := List.all_eq_true.1 h n (DataW.weights_mem_each ht hd n hn)
  simpa using this

theorem laid_of {W : World} (h : laidMetH Tryd.prog Rows.valueMakesRow.laid W) : Laid W := by
  rw [MakeChecks.laidMetH_plain _ _ _ (by kernel_rfl)] at h
  have h3 := h.tail.tail
  refine ⟨?_, ?_⟩
  · exact Lib.tabIs_of_head (name := Tryd.slashName0) (k := .u64) (zs := Lib.pow10Tab) gTab (by kernel_rfl) Tryd.underlying100 Tryd.underlying62 (by kernel_rfl) (by kernel_rfl) h3
  · have h4 := h3.tail
    obtain ⟨a, s, hv, _⟩ := laid_sentinel (tp := 109) h4 gRange (by kernel_rfl) Tryd.underlying50 (fun u hu => typeName_ptr_named (nm := "errors.errorString") (by kernel_rfl) (by kernel_rfl) (by decide) u (hu.trans (congrArg some (by decide)))) Tryd.underlying109 Tryd.underlying111 rfl rfl Tryd.underlying9 (by kernel_rfl) (by kernel_rfl)
    exact ⟨_, _, hv⟩
end Go.Proofs.YtmffdoblpkjmjaaDoor
