/- The walks of layer 5's validity, makers and comparison, and of the reference's. No conditions. -/
import Derived.Test.YtmffdoblpkjmjaaDoorValP
import Derived.Outline
namespace Go.Proofs.YtmffdoblpkjmjaaDoor
open Go.RowKit

set_option maxRecDepth 100000 in
set_option maxHeartbeats 1000000 in
theorem plain_any (l : List UInt8) (w : World) (hl : l.length ≤ 9223372036854775807) :
    Calls Tryd.prog 28 #[.string (bs l)] w fun e w' => e = .returned (.bool (plB l)) ∧ w = w' := by
  go_enter Tryd.func28, Tryd.ntmps28
  go_wp2
  go_loop [3] (fun i => ∃ k : Nat, k ≤ l.length ∧ i = .int .i64 k ∧ (l.take k).all okc = true) (fun i => l.length - (intOf i).toNat)
  case atStart => exact ⟨0, Nat.zero_le _, rfl, rfl⟩
  case round =>
    obtain ⟨k, hk, rfl, hall⟩ := hrel
    have HA := Lib.hid hall; clear hall
    by_cases hlt : k < l.length
    · have hlt' : (k : Int) < (l.length : Int) := by omega
      by_cases h1 : (l[k].toNat : Int) < 32
      · have HF := Lib.hid (plB_bad k hlt (okc_lo h1))
        go_wp2
        go_ret
        exact ⟨by rw [HF.out] <;> rfl, rfl⟩
      · by_cases h2 : (126 : Int) < (l[k].toNat : Int)
        · have HF := Lib.hid (plB_bad k hlt (okc_hi h2))
          go_wp2
          go_ret
          exact ⟨by rw [HF.out] <;> rfl, rfl⟩
        · have hA2 : (l.take (k + 1)).all okc = true := by
            rw [ltake_snoc l k hlt, List.all_append, HA.out]
            have : okc l[k] = true := (okc_iff _).2 (by omega)
            simp [this]
          have HA2 := Lib.hid hA2; clear hA2
          go_wp2
          go_round
          case rel => exact ⟨k + 1, by omega, by go_num, HA2.out⟩
          case measure => simp [intOf]; omega
    · have hall := HA.out
      rw [ltake_all l hlt] at hall
      have HF := Lib.hid (show plB l = decide ((l.length : Int) ≤ 64) by unfold plB; rw [hall, Bool.true_and]; congr 1; rw [eq_iff_iff]; omega)
      clear hall
      go_wp2
      go_ret
      exact ⟨by rw [HF.out] <;> rfl, rfl⟩
set_option maxRecDepth 100000 in
set_option maxHeartbeats 1000000 in
theorem RPlain_any (l : List UInt8) (w : World) (hl : l.length ≤ 9223372036854775807) :
    Calls Tryd.prog 29 #[.string (bs l)] w fun e w' => e = .returned (.bool (plB l)) ∧ w = w' := by
  by_cases h64 : (64 : Int) < (l.length : Int)
  · have HF := Lib.hid (show plB l = false by unfold plB; rw [decide_eq_false (by omega)]; simp)
    go_enter Tryd.func29, Tryd.ntmps29
    go_wp2
    go_ret
    exact ⟨by rw [HF.out] <;> rfl, rfl⟩
  · go_enter Tryd.func29, Tryd.ntmps29
    go_wp2
    go_loop [3] (fun i => ∃ k : Nat, k ≤ l.length ∧ i = .int .i64 k ∧ (l.take k).all okc = true) (fun i => l.length - (intOf i).toNat)
    case atStart => exact ⟨0, Nat.zero_le _, rfl, rfl⟩
    case round =>
      obtain ⟨k, hk, rfl, hall⟩ := hrel
      have HA := Lib.hid hall; clear hall
      by_cases hlt : k < l.length
      · have hlt' : (k : Int) < (l.length : Int) := by omega
        by_cases h1 : (l[k].toNat : Int) < 32
        · have HF := Lib.hid (plB_bad k hlt (okc_lo h1))
          go_wp2
          go_ret
          exact ⟨by rw [HF.out] <;> rfl, rfl⟩
        · by_cases h2 : (126 : Int) < (l[k].toNat : Int)
          · have HF := Lib.hid (plB_bad k hlt (okc_hi h2))
            go_wp2
            go_ret
            exact ⟨by rw [HF.out] <;> rfl, rfl⟩
          · have hA2 : (l.take (k + 1)).all okc = true := by
              rw [ltake_snoc l k hlt, List.all_append, HA.out]
              have : okc l[k] = true := (okc_iff _).2 (by omega)
              simp [this]
            have HA2 := Lib.hid hA2; clear hA2
            go_wp2
            go_round
            case rel => exact ⟨k + 1, by omega, by go_num, HA2.out⟩
            case measure => simp [intOf]; omega
      · have hall := HA.out
        rw [ltake_all l hlt] at hall
        have HF := Lib.hid (show plB l = true by unfold plB; rw [hall, decide_eq_true (by omega)]; rfl)
        clear hall
        go_wp2
        go_ret
        exact ⟨by rw [HF.out] <;> rfl, rfl⟩
end Go.Proofs.YtmffdoblpkjmjaaDoor
