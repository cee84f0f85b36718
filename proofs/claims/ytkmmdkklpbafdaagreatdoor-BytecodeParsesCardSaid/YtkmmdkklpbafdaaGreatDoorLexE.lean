/- The walks of layer 7's Same, of the law's examples and of LexerWords. No conditions. -/
import Derived.Test.YtkmmdkklpbafdaaGreatDoorLexD
import Derived.Test.YtkmmdkklpbafdaaGreatDoorRegion
namespace Go.Proofs.YtkmmdkklpbafdaaGreatDoor
open Go.RowKit

set_option maxRecDepth 100000 in
theorem tkLs_get : ∀ (M : List Tk) (k : Nat) (h : k < M.length), (tkLs M)[k * 4]? = some (.int .i64 M[k].k) ∧ (tkLs M)[k * 4 + 1]? = some (.string (bs M[k].t)) ∧ (tkLs M)[k * 4 + 2]? = some (.int .i64 M[k].n) ∧ (tkLs M)[k * 4 + 3]? = some (.int .i64 M[k].ln)
  | [], k, h => by simp at h
  | x :: r, 0, h => ⟨rfl, rfl, rfl, rfl⟩
  | x :: r, k + 1, h => by
    have ih := tkLs_get r k (by simpa using h)
    have e : ∀ j, (tkLs (x :: r))[j + 4]? = (tkLs r)[j]? := fun j => by
      show (tkL x ++ tkLs r)[j + 4]? = _
      rw [List.getElem?_append_right (by show 4 ≤ _; omega)]; rfl
    refine ⟨?_, ?_, ?_, ?_⟩
    · rw [show (k + 1) * 4 = k * 4 + 4 by omega, e]; exact ih.1
    · rw [show (k + 1) * 4 + 1 = (k * 4 + 1) + 4 by omega, e]; exact ih.2.1
    · rw [show (k + 1) * 4 + 2 = (k * 4 + 2) + 4 by omega, e]; exact ih.2.2.1
    · rw [show (k + 1) * 4 + 3 = (k * 4 + 3) + 4 by omega, e]; exact ih.2.2.2
set_option maxRecDepth 100000 in
/-- the cells of the k-th token -/
theorem tok_cells {W : World} {ad : Option Addr} {n cap : Nat} {M : List Tk} (h : CellsAt W (.slice ad n cap) n (tkLs M)) {k : Nat} (hk : k < M.length) : ∃ b off, ad = some ⟨b, off, none⟩ ∧ W.cell? ⟨b, off + k * 4, none⟩ = some (.int .i64 M[k].k) ∧ W.cell? ⟨b, off + k * 4 + 1, none⟩ = some (.string (bs M[k].t)) ∧ W.cell? ⟨b, off + k * 4 + 2, none⟩ = some (.int .i64 M[k].n) ∧ W.cell? ⟨b, off + k * 4 + 3, none⟩ = some (.int .i64 M[k].ln) := by
  obtain ⟨a, c, hs, hc⟩ := h
  obtain ⟨b, off, ha, hcell⟩ := hc (by intro e; have := tkLs_length M; rw [e] at this; simp at this; omega)
  cases hs
  obtain ⟨h1, h2, h3, h4⟩ := tkLs_get M k hk
  exact ⟨b, off, ha, hcell _ _ h1, by have := hcell _ _ h2; rwa [← Nat.add_assoc] at this, by have := hcell _ _ h3; rwa [← Nat.add_assoc] at this, by have := hcell _ _ h4; rwa [← Nat.add_assoc] at this⟩
theorem CellsAt.drew {W : World} {u : Value} {n : Nat} {xs : List Value} (h : CellsAt W u n xs) : CellsAt W.drew u n xs := h
theorem tk_ext (x y : Tk) : x = y ↔ x.k = y.k ∧ x.t = y.t ∧ x.n = y.n ∧ x.ln = y.ln := by cases x; cases y; simp
theorem same_no {M N : List Tk} {k : Nat} {R : Bool} (hk : k < M.length) (hn : k < N.length) (h : decide (M.drop k = N.drop k) = R) (hne : M[k] ≠ N[k]) : R = false := by
  rw [← h, List.drop_eq_getElem_cons hk, List.drop_eq_getElem_cons hn, decide_eq_false]; intro e; exact hne (List.cons.inj e).1
theorem same_go {M N : List Tk} {k : Nat} {R : Bool} (hk : k < M.length) (hn : k < N.length) (h : decide (M.drop k = N.drop k) = R) (he : M[k] = N[k]) : decide (M.drop (k + 1) = N.drop (k + 1)) = R := by
  rw [← h, List.drop_eq_getElem_cons hk, List.drop_eq_getElem_cons hn, he]; congr 1; rw [eq_iff_iff]; exact ⟨fun e => by rw [e], fun e => (List.cons.inj e).2⟩

theorem lx1 : tokenS [108, 101, 116, 32, 120, 61, 49, 48, 59, 32, 35, 32, 116, 101, 110] = ([⟨2, [108, 101, 116], 0, 1⟩, ⟨1, [120], 0, 1⟩, ⟨5, [61], 0, 1⟩, ⟨3, [], 10, 1⟩, ⟨5, [59], 0, 1⟩], 0, 0) := by decide +kernel
theorem lx2 : tokenS [97, 10, 49, 120] = ([], 2, 5) := by decide +kernel
theorem lx3 : quoL [115, 97, 121, 32, 34, 104, 105, 34] = ([34, 115, 97, 121, 32, 92, 34, 104, 105, 92, 34, 34], 0) := by decide +kernel
end Go.Proofs.YtkmmdkklpbafdaaGreatDoor
