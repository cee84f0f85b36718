/- Appending a slice of strings to one of the call's own. No conditions. -/
import Derived.Test.YtkmmdkklpbafdaaGreatDoorStrs
import Derived.Laws.AppendOwnNone
namespace Go.Proofs.YtkmmdkklpbafdaaGreatDoor
open Go.RowKit

theorem below_grown_none {B : Nat} {W0 w1 w2 : World} (h : Below B W0 w1) (hg : w1.grownBy w2 none) (hB : B ≤ w1.heap.size) : Below B W0 w2 :=
  h.grown hg hB (by intro k hk; cases hk)
theorem run_append_none_cap {P : Program} {w : World} (base : Nat) (t ty e : TypeId) (i : TypeInfo) (size : Nat) (ht : P.underlying t = some (.slice e)) (hi : P.info? e = some i)
    (v : Value) (n c : Nat) (xs : List Value) (hown : w.ownsRow base e size v n xs) : (Builtin.append_ #[t, t] ty #[v, .slice none 0 c]).run P w = .ok v w := by
  rcases hown.2 with ⟨rfl, rfl⟩ | ⟨g, cap, cur, rfl, _, _, hnc, _⟩
  · simp [Builtin.append_, run_underlying ht, sizeOf, typeInfo, hi, Builtin.lenOf, Builtin.firstCells]
  · simp [Builtin.append_, run_underlying ht, sizeOf, typeInfo, hi, Builtin.lenOf, Builtin.firstCells, hnc, storeCells]

set_option maxRecDepth 100000 in
/-- 'v = append(v, u...)', v a slice of strings of the call's own, u any slice of strings -/
theorem wpList_append_strs {w1 : World} {ops : Array Oper} {rest : List Oper} {o : Oper} {a : Act} {Q : Exit → Act → World → Prop} (hgd : o.guard = none) (s x : Operand)
    (ho : o.op = .call { callee := .builtin .append, args := #[s, x], argTypes := #[59, 59] }) (B : Nat) (v u : Value) (L M : List (List UInt8)) (hown : w1.ownsRow B 9 1 v L.length (L.map strV)) (hS : StrS w1 u M)
    (hs : a.eval s = v) (hx : a.eval x = u) (hlen : L.length ≤ 1000000000000) (hlen2 : M.length ≤ 1000000000000) (W0 : World) (hbel : Below B W0 w1) (hB : B ≤ w1.heap.size)
    (h : ∀ v' w', w'.ownsRow B 9 1 v' (L ++ M).length ((L ++ M).map strV) → Below B W0 w' → wpList Tryz.prog ops Q rest (a.put o.dst v') w') :
    wpList Tryz.prog ops Q (o :: rest) a w1 := by
  obtain ⟨i0, hi, hz0, hz1, hz2⟩ := info_parts Tryz.info9
  obtain ⟨ad, cap, rfl, hcap, hcell⟩ := hS
  cases ad with
  | none =>
    have hM : M = [] := by
      rcases M with _ | ⟨m, M'⟩
      · rfl
      · obtain ⟨b, off, hh, _⟩ := hcell (by simp)
        cases hh
    subst hM
    refine wpList_plain hgd fun K hK => ?_
    have hrun := run_append_none_cap (P := Tryz.prog) (w := w1) B 59 o.type 9 i0 1 Tryz.underlying59 hi v L.length cap (L.map strV) hown
    unfold Oper.wp
    simp [execOp, ho, resolve, invoke, builtin, hs, hx, hrun, Result.andThen]
    exact hK _ _ (h v w1 (by simpa using hown) hbel)
  | some ad =>
    have hnews : ∀ j y, (M.map strV)[j]? = some y → w1.cell? (ad.add j) = some y := by
      intro j y hj
      rw [List.getElem?_map] at hj
      rcases Nat.lt_or_ge j M.length with hjl | hjl
      · rw [List.getElem?_eq_getElem hjl] at hj
        simp only [Option.map_some, Option.some.injEq] at hj
        subst hj
        obtain ⟨b, off, hh, hc⟩ := hcell (by intro h0; rw [h0] at hjl; simp at hjl)
        cases hh
        have e : (⟨b, off, none⟩ : Addr).add j = ⟨b, off + j, none⟩ := by unfold Addr.add; split <;> simp_all
        rw [e]; exact hc j hjl
      · rw [List.getElem?_eq_none hjl] at hj; cases hj
    refine wpList_append_own _ hgd s x 59 ho B 9 i0 (.string ⟨#[]⟩) 1 16 Tryz.underlying59 hi hz0 hz1 hz2 rfl (by decide) v L.length (L.map strV) hs hown ad M.length cap (M.map strV) hx (by simp) hnews ?_ ?_ ?_ hB ?_
    · intro y hy
      obtain ⟨z, _, rfl⟩ := List.mem_map.1 hy
      rfl
    · unfold maxLen; omega
    · omega
    · intro v' w2 hown2 hgrow _
      refine h v' w2 (by simpa using hown2) (hbel.grown hgrow hB ?_)
      intro k hk
      exact (hown.lt k hk).1
end Go.Proofs.YtkmmdkklpbafdaaGreatDoor
