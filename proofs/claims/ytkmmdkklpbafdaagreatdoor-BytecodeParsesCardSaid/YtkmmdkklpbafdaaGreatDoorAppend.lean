/- Appending any slice of known cells to a slice of the call's own. No conditions. -/
import Derived.Test.YtkmmdkklpbafdaaGreatDoorStrs2
import Derived.Test.YtkmmdkklpbafdaaGreatDoorRegion
import Derived.Deep.DeepAppendWide
namespace Go.Proofs.YtkmmdkklpbafdaaGreatDoor
open Go.RowKit

/-- u is a slice of n elements whose cells are xs, whatever its address and its capacity -/
def CellsAt (W : World) (u : Value) (n : Nat) (xs : List Value) : Prop :=
  ∃ ad cap, u = .slice ad n cap ∧ (xs ≠ [] → ∃ b off, ad = some ⟨b, off, none⟩ ∧ ∀ j y, xs[j]? = some y → W.cell? ⟨b, off + j, none⟩ = some y)
set_option maxRecDepth 100000 in
theorem CellsAt.below {W W' : World} {u : Value} {n : Nat} {xs : List Value} (h : CellsAt W u n xs) (hb : Below W.heap.size W W') : CellsAt W' u n xs := by
  obtain ⟨ad, cap, rfl, hx⟩ := h
  refine ⟨ad, cap, rfl, fun hne => ?_⟩
  obtain ⟨b, off, rfl, hc⟩ := hx hne
  refine ⟨b, off, rfl, fun j y hj => ?_⟩
  have := hc j y hj
  rw [(bcell hb).1 _ _ (World.block_lt_of_cell? W _ this)]
  exact this

set_option maxRecDepth 100000 in
/-- 'v = append(v, u...)', v of the call's own, u any slice of known cells -/
theorem wpList_append_any {P : Program} {w1 : World} {ops : Array Oper} {rest : List Oper} {o : Oper} {a : Act} {Q : Exit → Act → World → Prop} (hgd : o.guard = none) (s x : Operand) (t : TypeId)
    (ho : o.op = .call { callee := .builtin .append, args := #[s, x], argTypes := #[t, t] })
    (B : Nat) (e : TypeId) (i : TypeInfo) (z : Value) (size bytes : Nat) (ht : P.underlying t = some (.slice e)) (hi : P.info? e = some i) (hz : i.zero = some z)
    (hsize : i.size = size) (hby : i.bytes = bytes) (hzs : z.cells.size = size) (hsz : 0 < size)
    (v u : Value) (n m : Nat) (xs ys : List Value) (hs : a.eval s = v) (hown : w1.ownsRow B e size v n xs) (hx : a.eval x = u) (hU : CellsAt w1 u m ys) (hl : ys.length = m * size) (h1 : ∀ y ∈ ys, y.oneCell' = true)
    (h63 : n + m ≤ maxLen) (hbytes : ((n + m) + (n + m) / 4 + 192) * bytes ≤ 281474976710656) (W0 : World) (B0 : Nat) (hbel : Below B0 W0 w1) (hB : B ≤ w1.heap.size) (hB0 : B0 ≤ B)
    (h : ∀ v' w', w'.ownsRow B e size v' (n + m) (xs ++ ys) → Below B0 W0 w' → w1.grownBy w' v.ownBlock → wpList P ops Q rest (a.put o.dst v') w') :
    wpList P ops Q (o :: rest) a w1 := by
  obtain ⟨ad, cap, rfl, hcell⟩ := hU
  cases ad with
  | none =>
    have hM : ys = [] := by
      rcases ys with _ | ⟨y, r⟩
      · rfl
      · obtain ⟨b, off, hh, _⟩ := hcell (by simp)
        cases hh
    subst hM
    have hm : m = 0 := by
      rcases Nat.eq_zero_or_pos m with h0 | h0
      · exact h0
      · have := Nat.mul_pos h0 hsz; rw [← hl] at this; simp at this
    subst hm
    refine wpList_plain hgd fun K hK => ?_
    have hrun : (Builtin.append_ #[t, t] o.type #[v, .slice none 0 cap]).run P w1 = .ok v w1 := by
      rcases hown.2 with ⟨rfl, rfl⟩ | ⟨g, cap, cur, rfl, _, _, hnc, _⟩
      · simp [Builtin.append_, run_underlying ht, sizeOf, typeInfo, hi, Builtin.lenOf, Builtin.firstCells]
      · simp [Builtin.append_, run_underlying ht, sizeOf, typeInfo, hi, Builtin.lenOf, Builtin.firstCells, hnc, storeCells]
    unfold Oper.wp
    simp [execOp, ho, resolve, invoke, builtin, hs, hx, hrun, Result.andThen]
    exact hK _ _ (h v w1 (by simpa using hown) hbel ⟨rfl, rfl, rfl, Nat.le_refl _, fun _ _ _ => rfl⟩)
  | some ad =>
    have hnews : ∀ j y, ys[j]? = some y → w1.cell? (ad.add j) = some y := by
      intro j y hj
      obtain ⟨b, off, hh, hc⟩ := hcell (by intro h0; rw [h0] at hj; simp at hj)
      cases hh
      have e : (⟨b, off, none⟩ : Addr).add j = ⟨b, off + j, none⟩ := by unfold Addr.add; split <;> simp_all
      rw [e]; exact hc j y hj
    refine wpList_append_own_wide _ hgd s x t ho B e i z size bytes ht hi hz hsize hby hzs hsz v n xs hs hown ad m cap ys hx hl hnews h1 h63 hbytes hB ?_
    intro v' w2 hown2 hgrow _
    refine h v' w2 hown2 (hbel.grown hgrow (by have := hbel.size; omega) ?_) hgrow
    intro k hk
    have := (hown.lt k hk).1; omega

set_option maxRecDepth 100000 in
/-- the same in a region that draws its order -/
theorem step_append_wide {P : Program} (w1 : World) {ops : Array Oper} {o : Oper} {a : Act} {K : Act → World → Prop} {Q : Exit → Act → World → Prop} {E : Prop} (hgd : o.guard = none) (s x : Operand) (t : TypeId)
    (ho : o.op = .call { callee := .builtin .append, args := #[s, x], argTypes := #[t, t] })
    (B : Nat) (e : TypeId) (i : TypeInfo) (z : Value) (size bytes : Nat) (ht : P.underlying t = some (.slice e)) (hi : P.info? e = some i) (hz : i.zero = some z)
    (hsize : i.size = size) (hby : i.bytes = bytes) (hzs : z.cells.size = size) (hsz : 0 < size)
    (v : Value) (n : Nat) (xs : List Value) (hs : a.eval s = v) (hown : w1.ownsRow B e size v n xs)
    (ad : Addr) (m c : Nat) (news : List Value) (hx : a.eval x = .slice (some ad) m c) (hl : news.length = m * size) (hnews : ∀ j u, news[j]? = some u → w1.cell? (ad.add j) = some u) (h1 : ∀ u ∈ news, u.oneCell' = true)
    (hm : 0 < m) (h63 : n + m ≤ maxLen) (hbytes : ((n + m) + (n + m) / 4 + 192) * bytes ≤ 281474976710656) (hbase : B ≤ w1.heap.size)
    (h : ∀ g cap w', w'.ownsRow B e size (.slice (some ⟨g, 0, none⟩) (n + m) cap) (n + m) (xs ++ news) → w1.grownBy w' v.ownBlock → K (a.put o.dst (.slice (some ⟨g, 0, none⟩) (n + m) cap)) w') :
    if Region.wanted o (yielded ops a.tmps) = true then Oper.wp P o a w1 K Q else E := by
  have hw : Region.wanted o (yielded ops a.tmps) = true := by simp [Region.wanted, hgd]
  rw [if_pos hw]
  refine wp_append_own_wide w1 s x t ho B e i z size bytes ht hi hz hsize hby hzs hsz v n xs hs hown ad m c news hx hl hnews h1 h63 hbytes hbase ?_
  intro v' w' h2 h3 h4
  rcases h2.2 with ⟨rfl, h0⟩ | ⟨g, cap, cur, rfl, _⟩
  · omega
  · exact h g cap w' h2 h3
set_option maxRecDepth 100000 in
/-- a row of the call's own lies in no block of another type -/
theorem own_other {w1 : World} {B : Nat} {e T : TypeId} {k n g cap b : Nat} {xs : List Value} {cs : Array Value} (h : w1.ownsRow B e k (.slice (some ⟨g, 0, none⟩) n cap) n xs) (hb : w1.heap[b]? = some (.cells cs T (0, 0))) (hT : T ≠ e) : g ≠ b := by
  intro hgb
  subst hgb
  rcases h.2 with ⟨h1, _⟩ | ⟨g2, c2, cur, h1, _, h3, _⟩
  · cases h1
  · cases h1
    rw [hb] at h3
    cases h3
    exact hT rfl
end Go.Proofs.YtkmmdkklpbafdaaGreatDoor
