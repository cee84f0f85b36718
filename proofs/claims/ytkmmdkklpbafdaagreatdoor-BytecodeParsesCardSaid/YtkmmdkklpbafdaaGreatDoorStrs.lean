/- Slices of strings: one that the call itself made and appends to; one that is only read. No conditions. -/
import Derived.Test.YtkmmdkklpbafdaaGreatDoorBase
namespace Go.Proofs.YtkmmdkklpbafdaaGreatDoor
open Go.RowKit

theorem Tryz.info9 : (Tryz.prog.info? 9).map (fun i => (i.zero, i.size, i.bytes)) = some (some (.string ⟨#[]⟩), 1, 16) := by kernel_rfl
def strV (l : List UInt8) : Value := .string (bs l)
theorem strV_one (l : List UInt8) : (strV l).oneCell' = true := rfl

theorem own_below {B : Nat} {e : TypeId} {k : Nat} {v : Value} {n : Nat} {xs : List Value} {w w' : World} (h : w.ownsRow B e k v n xs) (hb : Below w.heap.size w w') : w'.ownsRow B e k v n xs :=
  h.kept (row := none) ⟨hb.os, hb.tape, hb.output, hb.size, fun j hj _ => hb.block j hj⟩ (by cases hv : v.ownBlock <;> simp)
theorem own_mono {w : World} {base base' size n : Nat} {e : TypeId} {v : Value} {xs : List Value} (h : w.ownsRow base e size v n xs) (hb : base' ≤ base) : w.ownsRow base' e size v n xs := by
  refine ⟨h.1, ?_⟩
  rcases h.2 with hn | ⟨g, cap, cur, h1, h2, h3⟩
  · exact .inl hn
  · exact .inr ⟨g, cap, cur, h1, by omega, h3⟩
theorem own_form {w : World} {base size n : Nat} {e : TypeId} {v : Value} {xs : List Value} (h : w.ownsRow base e size v n xs) : (v = .slice none 0 0 ∧ n = 0) ∨ ∃ g cap, v = .slice (some ⟨g, 0, none⟩) n cap ∧ n ≤ cap ∧ base ≤ g := by
  rcases h.2 with hn | ⟨g, cap, cur, h1, h2, h3, h4, _⟩
  · exact .inl hn
  · exact .inr ⟨g, cap, h1, h4, h2⟩

/-- v is a slice whose elements are the strings L -/
def StrS (W : World) (v : Value) (L : List (List UInt8)) : Prop :=
  ∃ a cap, v = .slice a L.length cap ∧ L.length ≤ cap ∧ (L ≠ [] → ∃ b off, a = some ⟨b, off, none⟩ ∧ ∀ i (h : i < L.length), W.cell? ⟨b, off + i, none⟩ = some (strV L[i]))
set_option maxRecDepth 100000 in
theorem StrS.below {W W' : World} {v : Value} {L : List (List UInt8)} (h : StrS W v L) (hb : Below W.heap.size W W') : StrS W' v L := by
  obtain ⟨a, cap, rfl, hc, hL⟩ := h
  refine ⟨a, cap, rfl, hc, fun hne => ?_⟩
  obtain ⟨b, off, rfl, hcell⟩ := hL hne
  refine ⟨b, off, rfl, fun i hi => ?_⟩
  have := hcell i hi
  rw [(bcell hb).1 _ _ (World.block_lt_of_cell? W _ this)]
  exact this
set_option maxRecDepth 100000 in
theorem StrS.of_own {W : World} {B : Nat} {v : Value} {L : List (List UInt8)} (h : W.ownsRow B 9 1 v L.length (L.map strV)) : StrS W v L := by
  rcases own_form h with ⟨rfl, h0⟩ | ⟨g, cap, rfl, hc, _⟩
  · have : L = [] := List.eq_nil_of_length_eq_zero h0
    subst this
    exact ⟨none, 0, rfl, Nat.le_refl _, fun hne => absurd rfl hne⟩
  · refine ⟨_, cap, rfl, hc, fun _ => ⟨g, 0, rfl, fun i hi => ?_⟩⟩
    have := h.cells (g := g) rfl i (strV L[i]) (by simp [hi])
    have e : (⟨g, 0, none⟩ : Addr).add i = ⟨g, 0 + i, none⟩ := by unfold Addr.add; split <;> simp_all
    rw [← e]
    exact this

set_option maxRecDepth 100000 in
/-- 'v = append(v, y)', v a slice of strings of the call's own; the new element lies in a block of its own -/
theorem wpList_append_str {w1 : World} {ops : Array Oper} {rest : List Oper} {o : Oper} {a : Act} {Q : Exit → Act → World → Prop} (hgd : o.guard = none) (s x : Operand)
    (ho : o.op = .call { callee := .builtin .append, args := #[s, x], argTypes := #[59, 59] }) (B : Nat) (v : Value) (L : List (List UInt8)) (y : List UInt8) (hown : w1.ownsRow B 9 1 v L.length (L.map strV))
    (hs : a.eval s = v) (hx : a.eval x = .slice (some ⟨w1.heap.size, 0, none⟩) 1 1) (hlen : L.length ≤ 1000000000000) (W0 : World) (hbel : Below B W0 w1) (hB : B ≤ w1.heap.size)
    (h : ∀ v' w', w'.ownsRow B 9 1 v' (L ++ [y]).length ((L ++ [y]).map strV) → Below B W0 w' → w1.grownBy w' v.ownBlock → wpList Tryz.prog ops Q rest (a.put o.dst v') w') :
    wpList Tryz.prog ops Q (o :: rest) a (w1.alloc (.cells #[.string (bs y)] 9)) := by
  obtain ⟨i0, hi, hz0, hz1, hz2⟩ := info_parts Tryz.info9
  refine wpList_append_own _ hgd s x 59 ho B 9 i0 (.string ⟨#[]⟩) 1 16 Tryz.underlying59 hi hz0 hz1 hz2 rfl (by decide) v L.length (L.map strV) hs (hown.alloc _) ⟨w1.heap.size, 0, none⟩ 1 1 [strV y] hx rfl ?_ ?_ ?_ ?_ ?_ ?_
  · exact cell_one_new _ _ _
  · intro u hu; simp at hu; subst hu; rfl
  · unfold maxLen; omega
  · omega
  · simp; omega
  · intro v' w2 hown2 hgrow _
    refine h v' w2 (by simpa using hown2) ?_ ?_
    · refine (hbel.alloc hB _).grown hgrow (by simp; omega) ?_
      intro k hk
      exact (hown.lt k hk).1
    · exact ⟨hgrow.os, hgrow.tape, hgrow.output, Nat.le_trans (by simp) hgrow.size, fun k hk hne => (hgrow.block k (by simp; omega) hne).trans ((World.grownBy_alloc w1 (.cells #[.string (bs y)] 9) none).block k hk (by simp))⟩
end Go.Proofs.YtkmmdkklpbafdaaGreatDoor
