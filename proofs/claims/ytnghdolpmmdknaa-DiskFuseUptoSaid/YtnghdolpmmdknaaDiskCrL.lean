/- Plain facts on a crash (layer 44): with all writes kept it performs them; else each sector is as it was, or one of its writes, or a torn beginning of one. No conditions. -/
import Derived.Test.YtnghdolpmmdknaaDiskGood
namespace Go.Proofs.Ytnghdolpmmdknaa
open Go.RowKit

theorem crash_valid {d : Dk} (h : validB d = true) (kb : List Bool) (tear : Int) : validB (crashD d kb tear) = true ∧ (crashD d kb tear).S.length = d.S.length ∧ (crashD d kb tear).P = [] ∧ (crashD d kb tear).dead = false ∧ (crashD d kb tear).fuse = 0 ∧ (crashD d kb tear).ops = d.ops := by
  obtain ⟨h1, h2, h3⟩ := (validB_iff d).1 h
  obtain ⟨n1, n2, n3, n4, n5, n6⟩ := (numsB_iff d).1 h1
  rw [crash_on kb tear h]
  obtain ⟨q1, q2⟩ := foldC_inv (lastI (kf d.P.length kb d.P.length)) tear (fun x hx => (h3 x hx).2.2) h2 (kf d.P.length kb d.P.length)
  refine ⟨?_, q1, rfl, rfl, rfl, rfl⟩
  rw [validB_iff]
  refine ⟨?_, q2, fun x hx => absurd hx (by simp)⟩
  rw [numsB_iff]; simp only; rw [q1]; omega

theorem foldC_all (P : List (Int × List UInt8)) (S : List (List UInt8)) (la : Int) : ∀ k, k ≤ P.length → foldC P S la 0 (kf P.length (List.replicate P.length true) k) = perform S (P.take k)
  | 0, _ => by rw [kf_zero]; rfl
  | k + 1, hk => by
    have hlt : k < P.length := by omega
    rw [kf_yes P.length _ k hlt (by simpa using hlt) (by simp), foldC_snoc, foldC_all P S la k (by omega), perform_take S P k hlt]
    unfold stepC
    rw [if_neg (by intro h; omega)]
theorem crash_all {d : Dk} (h : validB d = true) (k : Nat) (hk : k < d.S.length) : (crashD d (List.replicate d.P.length true) 0).S.getD k [] = lastW (d.S.getD k []) d.P k := by
  obtain ⟨h1, h2, h3⟩ := (validB_iff d).1 h
  rw [crash_on _ _ h]
  simp only
  rw [foldC_all d.P d.S _ d.P.length (Nat.le_refl _), List.take_length]
  exact perform_get d.P d.S k hk (fun x hx => ⟨(h3 x hx).1, (h3 x hx).2.1⟩)

/-- what a sector may be after a crash, by one pending write -/
def mayB (tear : Int) (at_ : Nat) (c : List UInt8) (x : Int × List UInt8) : Bool :=
  decide (x.1 = (at_ : Int)) && (decide (c = x.2) || (decide (0 < tear) && (decide (tear < 64) && decide (c.take tear.toNat = x.2.take tear.toNat))))
theorem foldC_may (P : List (Int × List UInt8)) (S : List (List UInt8)) (la tear : Int) (hP : ∀ x ∈ P, 0 ≤ x.1 ∧ x.1 < (S.length : Int) ∧ x.2.length = 64) (hS : ∀ s ∈ S, s.length = 64) (k : Nat) (hk : k < S.length) :
    ∀ (pre : List (Fin P.length)), (foldC P S la tear pre).getD k [] = S.getD k [] ∨ P.any (mayB tear k ((foldC P S la tear pre).getD k [])) = true := by
  have main : ∀ (l : List (Fin P.length)), (foldC P S la tear l.reverse).getD k [] = S.getD k [] ∨ P.any (mayB tear k ((foldC P S la tear l.reverse).getD k [])) = true := by
    intro l
    induction l with
    | nil => exact .inl rfl
    | cons x l ih =>
    obtain ⟨pre, hpre⟩ : ∃ pre, l.reverse = pre := ⟨_, rfl⟩
    rw [List.reverse_cons, hpre, foldC_snoc]
    rw [hpre] at ih
    obtain ⟨g1, g2⟩ := foldC_inv la tear (fun x hx => (hP x hx).2.2) hS pre
    obtain ⟨p1, p2, p3⟩ := hP _ (List.getElem_mem x.2)
    by_cases hat : P[x.1].1 = (k : Int)
    · right
      rw [List.any_eq_true]
      refine ⟨P[x.1], List.getElem_mem x.2, ?_⟩
      have hto : P[x.1].1.toNat = k := by omega
      have hkl : k < (foldC P S la tear pre).length := by rw [g1]; exact hk
      have hval : (stepC P la tear (foldC P S la tear pre) x).getD k [] = if (x.1 : Int) = la ∧ 1 ≤ tear ∧ tear < 64 then cutW P[x.1].2 ((foldC P S la tear pre).getD k []) tear else P[x.1].2 := by
        unfold stepC
        rw [hto, List.getD_eq_getElem?_getD, List.getElem?_set_self hkl, Option.getD_some]
      rw [hval]
      unfold mayB
      rw [decide_eq_true hat, Bool.true_and]
      split
      · rename_i hc
        have h64 : ((foldC P S la tear pre).getD k []).length = 64 := by
          rw [List.getD_eq_getElem?_getD, List.getElem?_eq_getElem hkl, Option.getD_some]; exact g2 _ (List.getElem_mem hkl)
        have : (cutW P[x.1].2 ((foldC P S la tear pre).getD k []) tear).take tear.toNat = P[x.1].2.take tear.toNat := by
          unfold cutW
          rw [List.take_append_of_le_length (by rw [List.length_take, p3]; omega), List.take_take, Nat.min_self]
        rw [decide_eq_true this, decide_eq_true (show 0 < tear by omega), decide_eq_true hc.2.2]
        simp
      · simp
    · have hkeep : (stepC P la tear (foldC P S la tear pre) x).getD k [] = (foldC P S la tear pre).getD k [] := by
        unfold stepC
        rw [List.getD_eq_getElem?_getD, List.getElem?_set_ne (by omega), ← List.getD_eq_getElem?_getD]
      rw [hkeep]
      exact ih
  intro pre
  have := main pre.reverse
  rwa [List.reverse_reverse] at this
/-- found, behind k of the pending writes -/
def fndB (d : Dk) (tear : Int) (at_ : Nat) (c : List UInt8) (k : Nat) : Bool := decide (c = d.S.getD at_ []) || (d.P.take k).any (mayB tear at_ c)
theorem fnd_zero (d : Dk) (tear : Int) (at_ : Nat) (c : List UInt8) : fndB d tear at_ c 0 = decide (c = d.S.getD at_ []) := by unfold fndB; simp
theorem fnd_succ (d : Dk) (tear : Int) (at_ : Nat) (c : List UInt8) (k : Nat) (h : k < d.P.length) : fndB d tear at_ c (k + 1) = (fndB d tear at_ c k || mayB tear at_ c d.P[k]) := by
  unfold fndB; rw [List.take_succ_eq_append_getElem h, List.any_append, Bool.or_assoc]; simp
theorem fnd_crash {d : Dk} (h : validB d = true) (kb : List Bool) (tear : Int) (k : Nat) (hk : k < d.S.length) : fndB d tear k ((crashD d kb tear).S.getD k []) d.P.length = true := by
  obtain ⟨h1, h2, h3⟩ := (validB_iff d).1 h
  unfold fndB
  rw [List.take_length]
  have := foldC_may d.P d.S (lastI (kf d.P.length kb d.P.length)) tear h3 h2 k hk (kf d.P.length kb d.P.length)
  rw [crash_on kb tear h]
  simp only
  rcases this with h | h
  · rw [decide_eq_true h]; rfl
  · rw [h, Bool.or_true]
end Go.Proofs.Ytnghdolpmmdknaa
