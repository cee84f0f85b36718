/- How a slice of tokens among the arguments is read. No conditions. -/
import Derived.Test.YthdioaolnbdbgaaDoorLexD
import Derived.Test.YthdioaolnbdbgaaDoorLexArgs
namespace Go.Proofs.YthdioaolnbdbgaaDoor
open Go.ChangeShapes Go.WideShapes Go.ChangeAt Go.RowKit

theorem addr_add (b off i : Nat) : (⟨b, off, none⟩ : Addr).add i = ⟨b, off + i, none⟩ := by unfold Addr.add; split <;> simp_all
theorem tkLs_at : ∀ (M : List Tk) (k q : Nat) (h : k < M.length), q < 4 → (tkLs M)[k * 4 + q]? = (tkL M[k])[q]?
  | [], k, q, h, _ => by simp at h
  | x :: r, 0, q, h, hq => by
    show (tkL x ++ tkLs r)[0 * 4 + q]? = _
    rw [List.getElem?_append_left (by show _ < 4; omega), Nat.zero_mul, Nat.zero_add]; rfl
  | x :: r, k + 1, q, h, hq => by
    have ih := tkLs_at r k q (by simpa using h) hq
    show (tkL x ++ tkLs r)[(k + 1) * 4 + q]? = _
    rw [List.getElem?_append_right (by show 4 ≤ _; omega), show (k + 1) * 4 + q - (tkL x).length = k * 4 + q by show (k + 1) * 4 + q - 4 = _; omega, ih]; rfl
section
variable {H : Type} {enc : TypeId × Value → H} {W : World} {base : Nat} {spare : Nat → Bool} {held : Bool}
set_option maxRecDepth 100000 in
theorem trod_tok {fuel : Nat} {cs : List Value} {x : DataW H × List MemPlace} (h : DataW.trod enc Tryd.prog W base spare held fuel 37 cs = some x) :
    ∃ y : Tk, cs = tkL y ∧ -9223372036854775808 ≤ y.n ∧ y.n ≤ 9223372036854775807 := by
  obtain ⟨ys, n, _, _, hlen, hyl, hf⟩ := DataW.trod_struct Tryd.underlying37 h
  rw [show Tryd.prog.cellsOf 37 = 4 by kernel_rfl] at hlen
  match cs, hlen with
  | [u0, u1, u2, u3], _ =>
    match ys, hyl with
    | [y0, y1, y2, y3], _ =>
      have g0 : DataW.trod enc Tryd.prog W base spare held n 3 (([u0, u1, u2, u3].drop 0).take (Tryd.prog.cellsOf 3)) = some y0 := hf 0 _ rfl
      have g1 : DataW.trod enc Tryd.prog W base spare held n 9 (([u0, u1, u2, u3].drop 1).take (Tryd.prog.cellsOf 9)) = some y1 := hf 1 _ rfl
      have g2 : DataW.trod enc Tryd.prog W base spare held n 2 (([u0, u1, u2, u3].drop 2).take (Tryd.prog.cellsOf 2)) = some y2 := hf 2 _ rfl
      have g3 : DataW.trod enc Tryd.prog W base spare held n 3 (([u0, u1, u2, u3].drop 3).take (Tryd.prog.cellsOf 3)) = some y3 := hf 3 _ rfl
      rw [show Tryd.prog.cellsOf 3 = 1 by kernel_rfl] at g0 g3
      rw [show Tryd.prog.cellsOf 9 = 1 by kernel_rfl] at g1
      rw [show Tryd.prog.cellsOf 2 = 1 by kernel_rfl] at g2
      obtain ⟨k, e0, _⟩ := DataW.trod_int Tryd.underlying3 g0
      obtain ⟨s, e1, _⟩ := DataW.trod_string Tryd.underlying9 g1
      obtain ⟨q, e2, _, w2⟩ := DataW.trod_int Tryd.underlying2 g2
      obtain ⟨m, e3, _⟩ := DataW.trod_int Tryd.underlying3 g3
      simp at e0 e1 e2 e3
      subst e0 e1 e2 e3
      obtain ⟨q0, q1⟩ := of_wf w2
      exact ⟨⟨k, s.data.toList, q, m⟩, by simp only [tkL, bs_toList], q0, q1⟩
theorem open_toks {r : Reach} {b0 : Nat} {v : Value} {d : DataW H} {p : List MemPlace} (hv : Value.okWide Tryd.prog W r b0 27 v) (h : DataW.Trod enc Tryd.prog W base spare held 27 v d p) (hz : ∀ n ∈ d.weights Tryd.prog 27, n ≤ reachBytes) :
    ∃ (a : Option Addr) (c : Nat) (M : List Tk), v = .slice a M.length c ∧ CellsAt W (.slice a M.length c) M.length (tkLs M) ∧ M.length ≤ 8796093022208 ∧ ∀ x ∈ M, -9223372036854775808 ≤ x.n ∧ x.n ≤ 9223372036854775807 := by
  obtain ⟨a0, len0, cap0, rfl⟩ := okWide_slice Tryd.underlying27 hv
  obtain ⟨fuel, hf⟩ := h
  rcases Deep.open_slice Tryd.underlying27 hf with ⟨hcs, _⟩ | ⟨a, len, cap, m, n, D, Pl, hcs, _, hl, _, hm, hx, hi⟩
  · simp [Value.cells] at hcs
    obtain ⟨rfl, rfl, rfl⟩ := hcs
    exact ⟨none, 0, [], rfl, ⟨none, 0, rfl, fun hne => absurd rfl hne⟩, by simp, by simp⟩
  · simp [Value.cells] at hcs
    obtain ⟨rfl, rfl, rfl⟩ := hcs
    have hlm : len0 ≤ m := by rw [hm]; split <;> omega
    have hsz : len0 ≤ 8796093022208 := by
      rw [Prod.mk.injEq] at hx
      have h1 := hz ((((List.range len0).map D).length + (((List.range (m - len0)).map fun j => D (len0 + j))).length) * Tryd.prog.bytesOf 37) (by rw [hx.1]; simp [DataW.weights, Tryd.underlying27])
      rw [show Tryd.prog.bytesOf 37 = 40 by kernel_rfl] at h1
      rw [List.length_map, List.length_range] at h1
      unfold reachBytes at h1
      omega
    have hel : ∀ i, i < len0 → ∃ y : Tk, (∀ j u, (tkL y)[j]? = some u → W.cell? ((a.add (i * 4)).add j) = some u) ∧ -9223372036854775808 ≤ y.n ∧ y.n ≤ 9223372036854775807 := by
      intro i hil
      obtain ⟨cs', hc, ht⟩ := hi i (by omega)
      rw [show Tryd.prog.cellsOf 37 = 4 by kernel_rfl] at hc
      obtain ⟨y, rfl, y0, y1⟩ := trod_tok ht
      obtain ⟨_, _, hat⟩ := World.cells?_some hc
      refine ⟨y, fun j u hj => ?_, y0, y1⟩
      have hj4 : j < (tkL y).length := by
        rcases Nat.lt_or_ge j (tkL y).length with h | h
        · exact h
        · rw [List.getElem?_eq_none h] at hj; cases hj
      exact (hat j hj4).trans hj
    obtain ⟨F, hF⟩ : ∃ F : Nat → Tk, ∀ i, i < len0 → (∀ j u, (tkL (F i))[j]? = some u → W.cell? ((a.add (i * 4)).add j) = some u) ∧ -9223372036854775808 ≤ (F i).n ∧ (F i).n ≤ 9223372036854775807 :=
      ⟨fun i => if h : i < len0 then (hel i h).choose else tk0, fun i h => by simp only [dif_pos h]; exact (hel i h).choose_spec⟩
    have hML : ((List.range len0).map F).length = len0 := by simp
    refine ⟨some a, cap0, (List.range len0).map F, by rw [hML], ⟨some a, cap0, by rw [hML], fun hne => ?_⟩, by rw [hML]; exact hsz, ?_⟩
    · have h0 : 0 < len0 := by
        rcases Nat.eq_zero_or_pos len0 with h | h
        · subst h; exact absurd rfl hne
        · exact h
      obtain ⟨b, off, spot⟩ := a
      have hspot : spot = none := by
        have h9 := (hF 0 h0).1 0 _ rfl
        have h10 := World.cell?_spot h9
        cases spot with
        | none => rfl
        | some q => simp [Addr.add] at h10
      subst hspot
      refine ⟨b, off, rfl, fun j u hj => ?_⟩
      have hlen := tkLs_length ((List.range len0).map F)
      rw [hML] at hlen
      have hj4 : j < len0 * 4 := by
        rcases Nat.lt_or_ge j (len0 * 4) with h | h
        · exact h
        · rw [List.getElem?_eq_none (by rw [hlen]; exact h)] at hj; cases hj
      have hq := tkLs_at ((List.range len0).map F) (j / 4) (j % 4) (by rw [hML]; omega) (by omega)
      rw [show j / 4 * 4 + j % 4 = j by omega, hj] at hq
      simp only [List.getElem_map, List.getElem_range] at hq
      have h8 := (hF (j / 4) (by omega)).1 (j % 4) u hq.symm
      rw [addr_add, addr_add] at h8
      rw [show off + j = off + j / 4 * 4 + j % 4 by omega]
      exact h8
    · intro x hxm
      obtain ⟨i, hi2, rfl⟩ := List.mem_map.1 hxm
      exact (hF i (List.mem_range.1 hi2)).2
end
end Go.Proofs.YthdioaolnbdbgaaDoor
