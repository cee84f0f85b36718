/- Plain facts on the kept writes of a crash (layer 44). No conditions. -/
import Derived.Test.YtkpfkknldeafkaaDiskCrash
namespace Go.Proofs.Ytkpfkknldeafkaa
open Go.RowKit

theorem lastI_nil {K : Nat} : lastI ([] : List (Fin K)) = -1 := rfl
set_option maxRecDepth 100000 in
theorem kf_upto (K : Nat) (kb : List Bool) : ∀ k, k ≤ K → kf K kb k = kf K kb (lastI (kf K kb k) + 1).toNat ∧ -1 ≤ lastI (kf K kb k) ∧ lastI (kf K kb k) < k ∧ (0 ≤ lastI (kf K kb k) → lastI (kf K kb k) < kb.length)
  | 0, _ => by rw [kf_zero, lastI_nil]; exact ⟨rfl, by omega, by omega, fun h => absurd h (by omega)⟩
  | k + 1, hk => by
    obtain ⟨h1, h2, h3, h4⟩ := kf_upto K kb k (by omega)
    by_cases hl : k < kb.length
    · cases hb : kb[k] with
      | true =>
        have e : lastI (kf K kb (k + 1)) = (k : Int) := by rw [kf_yes K kb k hk hl hb, lastI_snoc]
        rw [e]
        exact ⟨by rw [show ((k : Int) + 1).toNat = k + 1 by omega], by omega, by omega, fun _ => by omega⟩
      | false =>
        rw [kf_no K kb k hk (fun _ => hb)]
        exact ⟨h1, h2, by omega, h4⟩
    · rw [kf_no K kb k hk (fun h => absurd h hl)]
      exact ⟨h1, h2, by omega, h4⟩
set_option maxRecDepth 100000 in
theorem kf_stop (K : Nat) (kb : List Bool) (k : Nat) (hk : k ≤ K) (h : K ≤ k ∨ kb.length ≤ k) : kf K kb K = kf K kb k := by
  rcases h with h | h
  · rw [show K = k by omega]
  · have : ∀ m, k + m ≤ K → kf K kb (k + m) = kf K kb k := by
      intro m
      induction m with
      | zero => intro _; rfl
      | succ m ih =>
        intro hm
        rw [← Nat.add_assoc, kf_no K kb (k + m) (by omega) (fun h2 => absurd h2 (by omega)), ih (by omega)]
    have := this (K - k) (by omega)
    rwa [show k + (K - k) = K by omega] at this
end Go.Proofs.Ytkpfkknldeafkaa
