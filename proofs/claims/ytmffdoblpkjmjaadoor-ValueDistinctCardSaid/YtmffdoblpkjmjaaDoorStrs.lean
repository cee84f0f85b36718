/- Slices of strings: one that the call itself made and appends to; one that is only read. No conditions. -/
import Derived.Test.YtmffdoblpkjmjaaDoorBase
namespace Go.Proofs.YtmffdoblpkjmjaaDoor
open Go.RowKit

theorem Tryd.info9 : (Tryd.prog.info? 9).map (fun i => (i.zero, i.size, i.bytes)) = some (some (.string ⟨#[]⟩), 1, 16) := by kernel_rfl
def strV (l : List UInt8) : Value := .string (bs l)
theorem strV_one (l : List UInt8) : (strV l).oneCell' = true := rfl

theorem own_below {B : Nat} {e : TypeId} {k : Nat} {v : Value} {n : Nat} {xs : List Value} {w w' : World} (h : w.ownsRow B e k v n xs) (hb : Below w.heap.size w w') : w'.ownsRow B e k v n xs :=
  h.kept (row := none) ⟨hb.os, hb.tape, hb.output, hb.size, fun j hj _ => hb.block j hj⟩ (by cases hv : v.ownBlock <;> simp)
theorem own_mono {w : World} {base base' size n : Nat} {e : TypeId} {v : Value} {xs : List Value} (h : w.ownsRow base e size v n xs) (hb : base' ≤ base) : w.ownsRow base' e size v n xs := by
  refine ⟨h.1, ?_⟩
  rcases h.2 with hn | ⟨g, cap, cur, h1, h2, h3⟩
  · exact .inl hn
  · exact .inr ⟨g, cap, cur, h1, by omega, h3⟩
theorem own_form {w : World} {base size n : Nat} {e : TypeId} {v : Value} {xs : List Value} (h : w.ownsRow base e size v n xs) : (v = .slice none 0 0 ∧ n = 0) ∨ ∃ g cap, v = .slice (some ⟨g, 0, none⟩) n cap ∧ n ≤ cap ∧ base ≤ g := by
  rcases h.2 with hn | ⟨g, cap, cur, h1, h2, h3, h4, _⟩
  · exact .inl hn
  · exact .inr ⟨g, cap, h1, h4, h2⟩

/-- v is a slice whose elements are the strings L -/
def StrS (W : World) (v : Value) (L : List (List UInt8)) : Prop :=
  ∃ a cap, v = .slice a L.length cap ∧ L.length ≤ cap ∧ (L ≠ [] → ∃ b off, a = some ⟨b, off, none⟩ ∧ ∀ i (h : i < L.length), W.cell? ⟨b, off + i, none⟩ = some (strV L[i]))
set_option maxRecDepth 100000 in
theorem StrS.below {W W' : World} {v : Value} {L : List (List UInt8)} (h : StrS W v L) (hb : Below W.heap.size W W') : StrS W' v L := by
  obtain ⟨a, cap, rfl, hc, hL⟩ := h
  refine ⟨a, cap, rfl, hc, fun hne => ?_⟩
  obtain ⟨b, off, rfl, hcell⟩ := hL hne
  refine ⟨b, off, rfl, fun i hi => ?_⟩
  have := hcell i hi
  rw [(bcell hb).1 _ _ (World.block_lt_of_cell? W _ this)]
  exact this
set_option maxRecDepth 100000 in
theorem StrS.of_own {W : World} {B : Nat} {v : Value} {L : List (List UInt8)} (h : W.ownsRow B 9 1 v L.length (L.map strV)) : StrS W v L := by
  rcases own_form h with ⟨rfl, h0⟩ | ⟨g, cap, rfl, hc, _⟩
  · have : L = [] := List.eq_nil_of_length_eq_zero h0
    subst this
    exact ⟨none, 0, rfl, Nat.le_refl _, fun hne => absurd rfl hne⟩
  · refine ⟨_, cap, rfl, hc, fun _ => ⟨g, 0, rfl, fun i hi => ?_⟩⟩
    have := h.cells (g := g) rfl i (strV L[i]) (by simp [hi])
    have e : (⟨g, 0, none⟩ : Addr).add i = ⟨g, 0 + i, none⟩ := by unfold Addr.add; split <;> simp_all
    rw [← e]
    exact this

end Go.Proofs.YtmffdoblpkjmjaaDoor
