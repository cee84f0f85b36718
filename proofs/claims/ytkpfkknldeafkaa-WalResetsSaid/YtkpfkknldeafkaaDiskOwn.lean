/- Rows of writes and of strings that a call owns, kept across stores elsewhere; the two Clones of the library; clone of a disk. No conditions but the sizes. -/
import Derived.Test.YtkpfkknldeafkaaDiskWalk
import Derived.Laws.OwnMore
namespace Go.Proofs.Ytkpfkknldeafkaa
open Go.RowKit

theorem Bx.set {b : Nat} {cs : Array Value} {T : TypeId} {W : World} (h : Bx b cs T W) (i : Nat) (v : Value) : Bx b (cs.setIfInBounds i v) T (W.setCell ⟨b, i, none⟩ v) :=
  heap_setCell_same W b i cs T v h
theorem Bx.other {b c i : Nat} {cs : Array Value} {T : TypeId} {W : World} (h : Bx b cs T W) (hne : b ≠ c) (v : Value) : Bx b cs T (W.setCell ⟨c, i, none⟩ v) :=
  (heap_setCell_other W ⟨c, i, none⟩ b v (fun e => hne (by simpa using e))).trans h
theorem grown_set (w : World) (a : Addr) (u : Value) : w.grownBy (w.setCell a u) (some a.block) :=
  ⟨rfl, rfl, rfl, by simp, fun k _ hk => heap_setCell_other w a k u (fun e => hk (by rw [e]))⟩
set_option maxRecDepth 100000 in
/-- a row of the call's own stands, whatever is stored below it -/
theorem own_set {B : Nat} {e : TypeId} {k : Nat} {v : Value} {n : Nat} {xs : List Value} {w : World} (h : w.ownsRow B e k v n xs) (b i : Nat) (hb : b < B) (u : Value) : (w.setCell ⟨b, i, none⟩ u).ownsRow B e k v n xs := by
  refine h.kept (grown_set w ⟨b, i, none⟩ u) ?_
  cases hv : v.ownBlock with
  | none => exact .inl rfl
  | some g =>
    refine .inr (fun e => ?_)
    have h2 := (h.lt g hv).1
    have h3 : g = b := by simpa using e
    omega

/-- writes as cells -/
def wcs (M : List (Int × List UInt8)) : List Value := M.flatMap fun x => [.int .i64 x.1, strV x.2]
theorem wcs_length (M : List (Int × List UInt8)) : (wcs M).length = M.length * 2 := by
  induction M with
  | nil => rfl
  | cons x r ih => simp [wcs] at ih ⊢; omega
theorem wcs_append (M N : List (Int × List UInt8)) : wcs (M ++ N) = wcs M ++ wcs N := by simp [wcs]
set_option maxRecDepth 100000 in
theorem wcs_get : ∀ (M : List (Int × List UInt8)) (i : Nat) (h : i < M.length), (wcs M)[i * 2]? = some (.int .i64 M[i].1) ∧ (wcs M)[i * 2 + 1]? = some (strV M[i].2)
  | x :: r, 0, _ => ⟨rfl, rfl⟩
  | x :: r, i + 1, h => by
    have := wcs_get r i (by simpa using h)
    have e : wcs (x :: r) = .int .i64 x.1 :: strV x.2 :: wcs r := rfl
    rw [e]
    constructor
    · rw [show (i + 1) * 2 = i * 2 + 1 + 1 by omega]; simpa using this.1
    · rw [show (i + 1) * 2 + 1 = i * 2 + 1 + 1 + 1 by omega]; simpa using this.2
set_option maxRecDepth 100000 in
theorem wcs_at (M : List (Int × List UInt8)) (j : Nat) (u : Value) (h : (wcs M)[j]? = some u) : ∃ (i : Nat) (hi : i < M.length), (j = i * 2 ∧ u = .int .i64 M[i].1) ∨ (j = i * 2 + 1 ∧ u = strV M[i].2) := by
  have hj : j < (wcs M).length := by
    rcases Nat.lt_or_ge j (wcs M).length with h1 | h1
    · exact h1
    · rw [List.getElem?_eq_none h1] at h; cases h
  rw [wcs_length] at hj
  have hi : j / 2 < M.length := by omega
  obtain ⟨h1, h2⟩ := wcs_get M (j / 2) hi
  refine ⟨j / 2, hi, ?_⟩
  rcases Nat.mod_two_eq_zero_or_one j with h0 | h0
  · left
    have e : j = j / 2 * 2 := by omega
    rw [← e] at h1
    exact ⟨e, by rw [h1] at h; exact (Option.some.inj h).symm⟩
  · right
    have e : j = j / 2 * 2 + 1 := by omega
    rw [← e] at h2
    exact ⟨e, by rw [h2] at h; exact (Option.some.inj h).symm⟩
theorem wcs_one (M : List (Int × List UInt8)) (u : Value) (h : u ∈ wcs M) : u.oneCell' = true := by
  obtain ⟨x, _, hx⟩ := List.mem_flatMap.1 h
  simp at hx
  rcases hx with rfl | rfl <;> rfl
theorem addr_add (b off i : Nat) : (⟨b, off, none⟩ : Addr).add i = ⟨b, off + i, none⟩ := by unfold Addr.add; split <;> simp_all
set_option maxRecDepth 100000 in
theorem WrS.of_own {W : World} {B : Nat} {v : Value} {M : List (Int × List UInt8)} (h : W.ownsRow B 94 2 v M.length (wcs M)) : WrS W v M := by
  rcases own_form h with ⟨rfl, h0⟩ | ⟨g, cap, rfl, hc, _⟩
  · have : M = [] := List.eq_nil_of_length_eq_zero h0
    subst this
    exact ⟨none, 0, rfl, Nat.le_refl _, fun hne => absurd rfl hne⟩
  · refine ⟨_, cap, rfl, hc, fun _ => ⟨g, 0, rfl, fun i hi => ?_⟩⟩
    obtain ⟨h1, h2⟩ := wcs_get M i hi
    have k1 := h.cells (g := g) rfl _ _ h1
    have k2 := h.cells (g := g) rfl _ _ h2
    rw [addr_add] at k1 k2
    rw [Nat.zero_add] at k1 k2 ⊢
    exact ⟨k1, k2⟩
theorem infoWrite : (Try.prog.info? 94).map (fun i => (i.zero, i.size, i.bytes)) = some (some (.agg #[.int .i64 0, .string ⟨#[]⟩]), 2, 24) := by kernel_rfl

set_option maxRecDepth 100000 in
set_option maxHeartbeats 1000000 in
theorem CloneStr_any (v : Value) (L : List (List UInt8)) (w : World) (hS : StrS w v L) (hl : L.length ≤ 9000000000000) :
    Calls Try.prog 105 #[v] w fun e w' => ∃ v', e = .returned v' ∧ w'.ownsRow w.heap.size 9 1 v' L.length (L.map strV) ∧ Below w.heap.size w w' := by
  obtain ⟨a, cap, rfl, hc, hx⟩ := hS
  have hq : ∀ (w : World) (a : Option Addr) (n c n' c' : Nat), (binOp .eql 35 (.slice a n c) (.slice none n' c')).run Try.prog w = .ok (.bool a.isNone) w := fun w a n c n' c' => Lib.run_eql_slice_nil w _ _ a n c n' c' Try.underlying35
  cases a with
  | none =>
    have h0 : L = [] := by
      cases L with
      | nil => rfl
      | cons x r => obtain ⟨b, off, ha, _⟩ := hx (by simp); cases ha
    subst h0
    go_enter Try.func105, Try.ntmps105
    go_wp2
    go_ret
    exact ⟨_, rfl, World.ownsRow_nil _ _ _ _, Below.refl _ _⟩
  | some ad =>
    obtain ⟨i0, hi, hz0, hz1, hz2⟩ := info_parts Try.info9
    have hnews : ∀ j u, (L.map strV)[j]? = some u → w.cell? (ad.add j) = some u := by
      intro j u hj
      have hjl : j < L.length := by
        rcases Nat.lt_or_ge j L.length with h | h
        · exact h
        · rw [List.getElem?_eq_none (by simpa using h)] at hj; cases hj
      obtain ⟨b, off, ha, hcell⟩ := hx (by intro h; rw [h] at hjl; simp at hjl)
      cases ha
      rw [addr_add, hcell j hjl]
      simp only [List.getElem?_map, List.getElem?_eq_getElem hjl, Option.map_some] at hj
      exact hj
    have HN := Lib.hid hnews; clear hnews hx
    go_enter Try.func105, Try.ntmps105
    go_wp2_with (at_builtin; refine wpList_append_own_wide _ rfl _ _ 35 rfl w.heap.size 9 i0 (.string ⟨#[]⟩) 1 16 Try.underlying35 hi hz0 hz1 hz2 rfl (by decide) _ _ _ rfl (World.ownsRow_made w #[] 0 (Nat.le_refl _) (Nat.zero_le _) (by simp)) ad L.length cap (L.map strV) rfl ?qc1 ?qc2 ?qc3 ?qc4 ?qc5 ?qc6 ?_)
    case qc1 => simp
    case qc2 =>
      intro j u hj
      exact Lib.cell?_alloc_some _ (HN.out j u hj)
    case qc3 =>
      intro y hy
      obtain ⟨z, _, rfl⟩ := List.mem_map.1 hy
      rfl
    case qc4 => unfold maxLen; omega
    case qc5 => omega
    case qc6 => simp
    intro v' w1 hown hgrow _
    go_wp2
    go_ret
    exact ⟨v', rfl, by simpa using hown, ((Below.refl _ w).alloc (Nat.le_refl _) _).grown hgrow (by simp) (by intro k hk; simp [Value.ownBlock] at hk; omega)⟩

set_option maxRecDepth 100000 in
set_option maxHeartbeats 1000000 in
theorem CloneWr_any (v : Value) (M : List (Int × List UInt8)) (w : World) (hS : WrS w v M) (hl : M.length ≤ 9000000000000) :
    Calls Try.prog 106 #[v] w fun e w' => ∃ v', e = .returned v' ∧ w'.ownsRow w.heap.size 94 2 v' M.length (wcs M) ∧ Below w.heap.size w w' := by
  obtain ⟨a, cap, rfl, hc, hx⟩ := hS
  have hq : ∀ (w : World) (a : Option Addr) (n c n' c' : Nat), (binOp .eql 36 (.slice a n c) (.slice none n' c')).run Try.prog w = .ok (.bool a.isNone) w := fun w a n c n' c' => Lib.run_eql_slice_nil w _ _ a n c n' c' Try.underlying36
  cases a with
  | none =>
    have h0 : M = [] := by
      cases M with
      | nil => rfl
      | cons x r => obtain ⟨b, off, ha, _⟩ := hx (by simp); cases ha
    subst h0
    go_enter Try.func106, Try.ntmps106
    go_wp2
    go_ret
    exact ⟨_, rfl, World.ownsRow_nil _ _ _ _, Below.refl _ _⟩
  | some ad =>
    obtain ⟨i0, hi, hz0, hz1, hz2⟩ := info_parts infoWrite
    have hnews : ∀ j u, (wcs M)[j]? = some u → w.cell? (ad.add j) = some u := by
      intro j u hj
      obtain ⟨i, hil, hcase⟩ := wcs_at M j u hj
      obtain ⟨b, off, ha, hcell⟩ := hx (by intro h; rw [h] at hil; simp at hil)
      cases ha
      rw [addr_add]
      rcases hcase with ⟨rfl, rfl⟩ | ⟨rfl, rfl⟩
      · exact (hcell i hil).1
      · exact (hcell i hil).2
    have HN := Lib.hid hnews; clear hnews hx
    go_enter Try.func106, Try.ntmps106
    go_wp2_with (at_builtin; refine wpList_append_own_wide _ rfl _ _ 36 rfl w.heap.size 94 i0 (.agg #[.int .i64 0, .string ⟨#[]⟩]) 2 24 Try.underlying36 hi hz0 hz1 hz2 rfl (by decide) _ _ _ rfl (World.ownsRow_made w #[] 0 (Nat.le_refl _) (Nat.zero_le _) (by simp)) ad M.length cap (wcs M) rfl ?qd1 ?qd2 ?qd3 ?qd4 ?qd5 ?qd6 ?_)
    case qd1 => exact wcs_length M
    case qd2 =>
      intro j u hj
      exact Lib.cell?_alloc_some _ (HN.out j u hj)
    case qd3 => exact wcs_one M
    case qd4 => unfold maxLen; omega
    case qd5 => omega
    case qd6 => simp
    intro v' w1 hown hgrow _
    go_wp2
    go_ret
    exact ⟨v', rfl, by simpa using hown, ((Below.refl _ w).alloc (Nat.le_refl _) _).grown hgrow (by simp) (by intro k hk; simp [Value.ownBlock] at hk; omega)⟩
end Go.Proofs.Ytkpfkknldeafkaa
