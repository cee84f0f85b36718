/- How a slice of bools among the arguments is read. No conditions. -/
import Derived.Test.YtkmmdkklpbafdaaGreatDoorBytArgs
import Derived.Test.YtkmmdkklpbafdaaGreatDoorBytY
namespace Go.Proofs.YtkmmdkklpbafdaaGreatDoor
open Go.ChangeShapes Go.WideShapes Go.ChangeAt Go.RowKit

theorem boosL_length (M : List Bool) : (boosL M).length = M.length := List.length_map ..
def booL (x : Bool) : List Value := [.bool x]
theorem boosL_at : ∀ (M : List Bool) (k q : Nat) (h : k < M.length), q < 1 → (boosL M)[k * 1 + q]? = (booL M[k])[q]? := by
  intro M k q h hq
  obtain rfl : q = 0 := by omega
  unfold boosL booL
  rw [Nat.mul_one, Nat.add_zero, List.getElem?_map, List.getElem?_eq_getElem h]; rfl
section
variable {H : Type} {enc : TypeId × Value → H} {W : World} {base : Nat} {spare : Nat → Bool} {held : Bool}
theorem trod_boov {fuel : Nat} {cs : List Value} {x : DataW H × List MemPlace} (h : DataW.trod enc Tryz.prog W base spare held fuel 4 cs = some x) : ∃ y : Bool, cs = booL y ∧ True := by
  obtain ⟨q, e0, _⟩ := DataW.trod_bool Tryz.underlying4 h
  exact ⟨q, e0, trivial⟩
theorem trod_boos {fuel : Nat} {cs : List Value} {x : DataW H × List MemPlace} (h : DataW.trod enc Tryz.prog W base spare held fuel 37 cs = some x) :
    ∃ (a : Option Addr) (c : Nat) (M : List Bool), cs = [.slice a M.length c] ∧ CellsAt W (.slice a M.length c) M.length (boosL M) ∧ ∀ x ∈ M, True := by
  rcases Deep.open_slice Tryz.underlying37 h with ⟨rfl, _⟩ | ⟨a, len0, cap0, m, n, D, Pl, rfl, _, hl, _, hm, hx, hi⟩
  · exact ⟨none, 0, [], rfl, ⟨none, 0, rfl, fun hne => absurd rfl hne⟩, by simp⟩
  · have hlm : len0 ≤ m := by rw [hm]; split <;> omega
    have hel : ∀ i, i < len0 → ∃ x : Bool, (∀ j u, (booL x)[j]? = some u → W.cell? ((a.add (i * 1)).add j) = some u) ∧ True := by
      intro i hil
      obtain ⟨cs', hc, ht⟩ := hi i (by omega)
      rw [show Tryz.prog.cellsOf 4 = 1 by kernel_rfl] at hc
      obtain ⟨y, rfl, y0⟩ := trod_boov ht
      obtain ⟨_, _, hat⟩ := World.cells?_some hc
      refine ⟨y, fun j u hj => ?_, y0⟩
      have hj4 : j < (booL y).length := by
        rcases Nat.lt_or_ge j (booL y).length with h | h
        · exact h
        · rw [List.getElem?_eq_none h] at hj; cases hj
      exact (hat j hj4).trans hj
    obtain ⟨F, hF⟩ : ∃ F : Nat → Bool, ∀ i, i < len0 → (∀ j u, (booL (F i))[j]? = some u → W.cell? ((a.add (i * 1)).add j) = some u) ∧ (fun x : Bool => True) (F i) :=
      ⟨fun i => if h : i < len0 then (hel i h).choose else false, fun i h => by simp only [dif_pos h]; exact (hel i h).choose_spec⟩
    have hML : ((List.range len0).map F).length = len0 := by simp
    refine ⟨some a, cap0, (List.range len0).map F, by rw [hML], ⟨some a, cap0, by rw [hML], fun hne => ?_⟩, ?_⟩
    · have h0 : 0 < len0 := by
        rcases Nat.eq_zero_or_pos len0 with h | h
        · subst h; exact absurd rfl hne
        · exact h
      obtain ⟨b, off, spot⟩ := a
      have hspot : spot = none := by
        have h9 := (hF 0 h0).1 0 _ rfl
        have h10 := World.cell?_spot h9
        cases spot with
        | none => rfl
        | some q => simp [Addr.add] at h10
      subst hspot
      refine ⟨b, off, rfl, fun j u hj => ?_⟩
      have hlen := boosL_length ((List.range len0).map F)
      rw [hML] at hlen
      have hj4 : j < len0 * 1 := by
        rcases Nat.lt_or_ge j (len0 * 1) with h | h
        · exact h
        · rw [List.getElem?_eq_none (by rw [hlen]; omega)] at hj; cases hj
      have hq := boosL_at ((List.range len0).map F) (j / 1) (j % 1) (by rw [hML]; omega) (by omega)
      rw [show j / 1 * 1 + j % 1 = j by omega, hj] at hq
      simp only [List.getElem_map, List.getElem_range] at hq
      have h8 := (hF (j / 1) (by omega)).1 (j % 1) u hq.symm
      rw [addr_add, addr_add] at h8
      rw [show off + j = off + j / 1 * 1 + j % 1 by omega]
      exact h8
    · intro x hxm
      obtain ⟨i, hi2, rfl⟩ := List.mem_map.1 hxm
      exact (hF i (List.mem_range.1 hi2)).2
set_option maxRecDepth 100000 in
theorem open_boos {r : Reach} {b0 : Nat} {v : Value} {d : DataW H} {p : List MemPlace} (hv : Value.okWide Tryz.prog W r b0 37 v) (h : DataW.Trod enc Tryz.prog W base spare held 37 v d p) :
    ∃ (a : Option Addr) (c : Nat) (M : List Bool), v = .slice a M.length c ∧ CellsAt W (.slice a M.length c) M.length (boosL M) := by
  obtain ⟨a0, len0, cap0, rfl⟩ := okWide_slice Tryz.underlying37 hv
  obtain ⟨fuel, hf⟩ := h
  obtain ⟨a, c, M, e0, hC, _⟩ := trod_boos hf
  simp [Value.cells] at e0
  obtain ⟨rfl, rfl, rfl⟩ := e0
  exact ⟨_, _, M, rfl, hC⟩
end
end Go.Proofs.YtkmmdkklpbafdaaGreatDoor
