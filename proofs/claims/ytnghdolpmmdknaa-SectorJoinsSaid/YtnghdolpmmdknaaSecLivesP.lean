/- The plain facts that the chapter's examples and laws of layer 45 use. No conditions. -/
import Derived.Test.YtnghdolpmmdknaaSecJoinP
namespace Go.Proofs.Ytnghdolpmmdknaa
open Go.RowKit

theorem split_len (g : Int) (l : List UInt8) : (splitS g l).1.length ≤ 1024 := by
  unfold splitS; split
  · simp
  · split
    · simp
    · rw [secs_length]; omega
theorem secs_get (g : Nat) (l : List UInt8) (n k : Nat) (hk : k < n) : (secs g l n)[k]? = some (secAt g l k) := by simp [secs, hk]
theorem cat_secs (g : Nat) (l : List UInt8) (hg : 1 ≤ g ∧ g ≤ 1099511627776) (hp : pieces l.length ≤ 1024) (L : List (List UInt8)) (hL : ∀ k, k < pieces l.length → L[k]? = some (secAt g l k)) (k : Nat) (hk : k ≤ pieces l.length) : cat L k = l.take (k * 40) := by
  induction k with
  | zero => simp [cat]
  | succ k ih =>
    have hLk := hL k (by omega)
    have hkl : k < L.length := by
      rcases Nat.lt_or_ge k L.length with h' | h'
      · exact h'
      · rw [List.getElem?_eq_none h'] at hLk; cases hLk
    rw [List.getElem?_eq_getElem hkl] at hLk
    simp only [Option.some.injEq] at hLk
    rw [cat_succ L k hkl, ih (by omega), hLk, sec_opens g l hg hp k (by omega)]
    simp only
    rw [show (k + 1) * 40 = k * 40 + 40 by omega, List.take_add]
theorem pieces_covers (n : Nat) : n ≤ pieces n * 40 := by unfold pieces; omega
theorem pieces_pos (n : Nat) : 1 ≤ pieces n := by unfold pieces; omega
/-- a list that begins with the sectors of a record joins to it, if the generation is in range -/
theorem join_secs (g : Nat) (l : List UInt8) (hg : 1 ≤ g ∧ g ≤ 1099511627776) (hp : pieces l.length ≤ 1024) (L : List (List UInt8)) (hL : ∀ k, k < pieces l.length → L[k]? = some (secAt g l k)) (hlen : pieces l.length ≤ L.length) (least most : Int) :
    joinS L least most = if least ≤ (g : Int) ∧ (g : Int) ≤ most then (l, (g : Int), (pieces l.length : Int), true) else joinFail := by
  have hn := pieces_pos l.length
  have h0 : 0 < L.length := by omega
  have hL0 := hL 0 (by omega)
  rw [List.getElem?_eq_getElem h0] at hL0
  simp only [Option.some.injEq] at hL0
  have ho := sec_opens g l hg hp 0 (by omega)
  rw [← hL0] at ho
  rw [join_first L h0 least most _ _ _ _ _ ho]
  have hgood : ∀ i, i < pieces l.length → goodAt g (pieces l.length) L i := fun i hi => sec_good g l hg hp L hL i hi
  have hj := join_good L g (pieces l.length) hn hlen hgood
  by_cases hr : least ≤ (g : Int) ∧ (g : Int) ≤ most
  · rw [if_pos ⟨rfl, hr.1, hr.2, by omega⟩, if_pos hj, if_pos hr, Int.toNat_natCast, cat_secs g l hg hp L hL _ (Nat.le_refl _), List.take_of_length_le (pieces_covers _)]
  · rw [if_neg (by intro h; exact hr ⟨h.2.1, h.2.2.1⟩), if_neg hr]
/-- .. and not if its last sector is missing -/
theorem join_cut (g : Nat) (l : List UInt8) (hg : 1 ≤ g ∧ g ≤ 1099511627776) (hp : pieces l.length ≤ 1024) (least most : Int) (L : List (List UInt8)) (hL : L = (secs g l (pieces l.length)).take (pieces l.length - 1)) :
    joinS L least most = joinFail := by
  subst hL
  have hn := pieces_pos l.length
  by_cases h1 : pieces l.length = 1
  · rw [h1]; rfl
  · have hlen : ((secs g l (pieces l.length)).take (pieces l.length - 1)).length = pieces l.length - 1 := by rw [List.length_take, secs_length]; omega
    have h0 : 0 < ((secs g l (pieces l.length)).take (pieces l.length - 1)).length := by omega
    have hL0 : ((secs g l (pieces l.length)).take (pieces l.length - 1))[0]'h0 = secAt g l 0 := by
      rw [List.getElem_take]
      have := secs_get g l (pieces l.length) 0 (by omega)
      rw [List.getElem?_eq_getElem (by rw [secs_length]; omega)] at this
      simpa using this
    have ho := sec_opens g l hg hp 0 (by omega)
    rw [← hL0] at ho
    rw [join_first _ h0 least most _ _ _ _ _ ho, if_neg (by rw [hlen]; omega)]

/-! ### the examples -/
def a81 : List UInt8 := List.replicate 81 97
theorem a81_pieces : pieces a81.length = 3 := by decide
theorem ex_open2 : openS (secAt 7 a81 2) = ((7, 2, 3), [97], 0) := by
  have := sec_opens 7 a81 (by decide) (by decide) 2 (by decide)
  rw [this]; rfl
theorem ex_join3 : joinS (secs 7 a81 3) 7 7 = (a81, 7, 3, true) := by
  have h := join_secs 7 a81 (by decide) (by decide) (secs 7 a81 3) (fun k hk => secs_get 7 a81 3 k (by rw [a81_pieces] at hk; exact hk)) (by decide) 7 7
  rw [a81_pieces] at h
  exact h
theorem ex_join2 : joinS ((secs 7 a81 3).take 2) 1 9 = joinFail := by
  have h := join_cut 7 a81 (by decide) (by decide) 1 9 ((secs 7 a81 3).take 2) (by rw [a81_pieces])
  exact h
theorem ex_zero : openS (List.replicate 64 0) = ((0, 0, 0), [], 20) := by decide +kernel
theorem ex_split : splitS 7 a81 = (secs 7 a81 3, 0) := by
  unfold splitS
  rw [a81_pieces]; rfl
end Go.Proofs.Ytnghdolpmmdknaa
