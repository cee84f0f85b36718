/- What the reference's Uint and TakeUint return. No conditions but the numbers' own ranges. -/
import Derived.Test.YtmffdoblpkjmjaaDoorWireWalk
namespace Go.Proofs.YtmffdoblpkjmjaaDoor
open Go.RowKit

set_option maxRecDepth 100000 in
theorem sum_lt (u k : Nat) (c : UInt8) (hu : u < 128 ^ k) (hk : k < 10) (h9 : k = 9 → c.toNat ≤ 1) : u + c.toNat % 128 * 128 ^ k < 18446744073709551616 := by
  by_cases h : k = 9
  · have h1 := h9 h
    have h2 : c.toNat % 128 * 128 ^ k ≤ 1 * 128 ^ k := Nat.mul_le_mul_right _ (by omega)
    rw [Nat.one_mul] at h2
    have h3 := Nat.add_lt_add_of_lt_of_le hu h2
    have e2 : (128 : Nat) ^ 9 + 128 ^ 9 = 18446744073709551616 := by decide
    rw [h] at h3 ⊢
    rw [e2] at h3; exact h3
  · have h3 := sum_bound k u c.toNat hu
    have h4 : (128 : Nat) ^ (k + 1) ≤ 128 ^ 9 := Nat.pow_le_pow_right (by decide) (by omega)
    have h5 : (128 : Nat) ^ 9 ≤ 18446744073709551616 := by decide
    exact Nat.lt_of_lt_of_le h3 (Nat.le_trans h4 h5)
theorem add_step (u k : Nat) (c : UInt8) {wt : Int} (hwt : k ≤ 9 → wt = ((128 ^ k : Nat) : Int)) (hu : u < 128 ^ k) (hk : k < 10) (h9 : k = 9 → c.toNat ≤ 1) :
    IntKind.u64.wrap ((u : Int) + IntKind.u64.wrap ((c.toNat : Int) % 128 * wt)) = ((u + c.toNat % 128 * 128 ^ k : Nat) : Int) := by
  have hb := mul_bound k c.toNat hk h9
  rw [hwt (by omega), show (c.toNat : Int) % 128 * ((128 ^ k : Nat) : Int) = ((c.toNat % 128 * 128 ^ k : Nat) : Int) by push_cast; rfl, wrap_u64 _ hb, ← Int.natCast_add, wrap_u64 _ (sum_lt u k c hu hk h9)]
theorem wt_step (k : Nat) {wt : Int} (hwt : k ≤ 9 → wt = ((128 ^ k : Nat) : Int)) : k + 1 ≤ 9 → IntKind.u64.wrap (wt * 128) = ((128 ^ (k + 1) : Nat) : Int) := by
  intro h
  have h4 : (128 : Nat) ^ (k + 1) ≤ 128 ^ 9 := Nat.pow_le_pow_right (by decide) h
  have h5 : (128 : Nat) ^ 9 < 18446744073709551616 := by decide
  rw [hwt (by omega), show ((128 ^ k : Nat) : Int) * 128 = ((128 ^ (k + 1) : Nat) : Int) by rw [Nat.pow_succ]; push_cast; rfl, wrap_u64 _ (Nat.lt_of_le_of_lt h4 h5)]
theorem byt_nat (u : Nat) : byt (u : Int) = UInt8.ofNat u := by unfold byt; rw [Int.toNat_natCast]
theorem byt_rem (u : Nat) : byt ((u : Int) % 128 + 128) = UInt8.ofNat (u % 128 + 128) := by
  rw [show (u : Int) % 128 + 128 = ((u % 128 + 128 : Nat) : Int) by omega, byt_nat]
set_option maxRecDepth 100000 in
set_option maxHeartbeats 1000000 in
theorem RUint_any (u : Nat) (hu : u < 18446744073709551616) (w : World) :
    Calls Tryd.prog 47 #[.int .u64 (u : Int)] w fun e w' => e = .returned (.string (bs (uintS u))) ∧ Below w.heap.size w w' := by
  have hu0 : u < 128 ^ 9 * 2 := by have e : (128 : Nat) ^ 9 * 2 = 18446744073709551616 := by decide
                                   omega
  have HU := Lib.hid hu0; clear hu0 hu
  obtain ⟨R, hR⟩ : ∃ R, uintS u = R := ⟨_, rfl⟩
  rw [hR]
  have HR := Lib.hid hR; clear hR
  go_enter Tryd.func47, Tryd.ntmps47
  go_wp2
  go_loopw [0, 3] (fun x v wr => ∃ (i u' : Nat) (L : List UInt8), i ≤ 9 ∧ L.length = i ∧ x = .int .u64 (u' : Int) ∧ u' < 128 ^ (9 - i) * 2 ∧ L ++ uintF (9 - i) u' = R ∧ v = .string (bs L) ∧ Below w.heap.size w wr) (fun x _ _ => (intOf x).toNat)
  case atStart => exact ⟨0, u, [], by omega, rfl, rfl, HU.out, HR.out, rfl, Below.refl _ _⟩
  case round =>
    obtain ⟨i, u', L, hi, hL, rfl, hu', hRL, rfl, hbr⟩ := hrel
    have hb := uint_bound i
    have hu0 : (0 : Int) ≤ (u' : Int) := by omega
    have hu1 : (u' : Int) < 18446744073709551616 := by omega
    have HUL := Lib.hid hu'; have HRL := Lib.hid hRL; have HBR := Lib.hid hbr; have HL := Lib.hid hL
    have hz : L.length ≤ 9 := by omega
    clear hu' hRL hbr hb hL
    by_cases h128 : u' < 128
    · have h1 : ¬ (128 : Int) ≤ (u' : Int) := by omega
      have hcv := fun (W : World) cap => run_str_one (P := Tryd.prog) W (u' : Int) 5 46 9 cap Tryd.underlying46 Tryd.underlying5 Tryd.underlying9 (by omega) (by omega)
      go_wp2
      go_ret
      exact ⟨ret_bs (by rw [byt_nat]; exact uint_last u' i h128 L R HRL.out), HBR.out.alloc HBR.out.size _⟩
    · have h1 : (128 : Int) ≤ (u' : Int) := by omega
      have hcv := fun (W : World) cap => run_str_one (P := Tryd.prog) W ((u' : Int) % 128 + 128) 5 46 9 cap Tryd.underlying46 Tryd.underlying5 Tryd.underlying9 (by omega) (by omega)
      have hi9 := uint_lt u' i hi HUL.out h128
      go_wp2
      go_roundw
      case rel => exact ⟨i + 1, u' / 128, _, by omega, by simp [HL.out], by go_num, uint_div u' i hi9 HUL.out, uint_step u' i hi9 h128 L R HRL.out, by rw [byt_rem], HBR.out.alloc HBR.out.size _⟩
      case measure => simp [intOf]; omega
set_option maxRecDepth 100000 in
set_option maxHeartbeats 4000000 in
theorem RTakeUint_any (l : List UInt8) (n : Int) (w : World) (hl : l.length ≤ 1000000000000000) :
    Calls Tryd.prog 53 #[.string (bs l), .int .i64 n] w fun e w' => e = .returned (takeV (takeS l n)) ∧ w = w' := by
  by_cases h0 : 0 ≤ n ∧ n ≤ (l.length : Int)
  · obtain ⟨m, rfl⟩ : ∃ m : Nat, n = m := ⟨n.toNat, by omega⟩
    have hm : m ≤ l.length := by omega
    obtain ⟨R, hR⟩ : ∃ R, tkF 10 (l.drop m) 0 0 = R := ⟨_, rfl⟩
    have HF := Lib.hid (show takeS l m = if R.2.2 = 0 then (R.1, (m : Int) + (R.2.1 : Int), 0) else (0, 0, R.2.2) by
      unfold takeS; rw [if_pos h0, Int.toNat_natCast, hR])
    have HR := Lib.hid hR; clear hR h0
    have g0 : ¬ (m : Int) < 0 := by omega
    have g1 : ¬ (l.length : Int) < (m : Int) := by omega
    go_enter Tryd.func53, Tryd.ntmps53
    go_wp2
    go_loop [7, 8, 9] (fun u q i => ∃ (k u' : Nat) (wt : Int), k ≤ 10 ∧ i = .int .i64 k ∧ u = .int .u64 (u' : Int) ∧ q = .int .u64 wt ∧ (k ≤ 9 → wt = ((128 ^ k : Nat) : Int)) ∧ u' < 128 ^ k ∧ tkF (10 - k) (l.drop (m + k)) k u' = R) (fun _ _ i => 10 - (intOf i).toNat)
    case atStart => exact ⟨0, 0, 1, by omega, rfl, rfl, rfl, fun _ => rfl, by omega, HR.out⟩
    case round =>
      obtain ⟨k, u', wt, hk, rfl, rfl, rfl, hwt, hu, hR⟩ := hrel
      have HU := Lib.hid hu; have HRK := Lib.hid hR; have HWT := Lib.hid hwt; clear hu hR hwt
      by_cases hk10 : k < 10
      · by_cases hend : m + k < l.length
        · have hS := tkF_step l m k u' hk10 hend
          obtain ⟨c, hc⟩ : ∃ c, l[m + k] = c := ⟨_, rfl⟩
          rw [hc] at hS
          have HS := Lib.hid hS; clear hS
          have hcl := c.toNat_lt
          have hge : ¬ (l.length : Int) ≤ (m : Int) + (k : Int) := by omega
          by_cases h9 : k = 9
          · have h9i : (k : Int) = 9 := by omega
            have t9 : ((k : Int) == 9) = true := by rw [h9i]; rfl
            have H9 := Lib.hid h9; clear h9 h9i
            by_cases h1 : 1 < c.toNat
            · have h1i : (1 : Int) < (c.toNat : Int) := by omega
              go_wp2
              go_ret3
              exact ⟨fin_err HF.out (by rw [← HRK.out, HS.out, if_pos (by have := H9.out; omega)]) (by decide), rfl⟩
            · have h1i : ¬ (1 : Int) < (c.toNat : Int) := by omega
              by_cases h0 : (c.toNat : Int) = 0
              · have hk0 : (0 : Int) < (k : Int) := by have := H9.out; omega
                have t0 : ((c.toNat : Int) == 0) = true := by rw [h0]; rfl
                have H0 := Lib.hid h0; clear h0
                go_wp2
                go_ret3
                exact ⟨fin_err HF.out (by rw [← HRK.out, HS.out, if_pos (by have := H0.out; have := H9.out; omega)]) (by decide), rfl⟩
              · have h128 : (c.toNat : Int) < 128 := by omega
                have hk0 : (0 : Int) < (k : Int) := by have := H9.out; omega
                go_wp2
                go_ret3
                exact ⟨fin_ok HF.out (by rw [← HRK.out, HS.out, if_neg (by have := H9.out; omega), if_pos (by omega)]) (add_step _ _ c HWT.out HU.out (by omega) (by omega)), rfl⟩
          · have h9i : ¬ (k : Int) = 9 := by omega
            by_cases h0 : (c.toNat : Int) = 0
            · have t0 : ((c.toNat : Int) == 0) = true := by rw [h0]; rfl
              have H0 := Lib.hid h0; clear h0
              by_cases hk0 : (0 : Int) < (k : Int)
              · skip
                go_wp2
                go_ret3
                exact ⟨fin_err HF.out (by rw [← HRK.out, HS.out, if_pos (by have := H0.out; omega)]) (by decide), rfl⟩
              · have h128 : (c.toNat : Int) < 128 := by have := H0.out; omega
                go_wp2
                go_ret3
                exact ⟨fin_ok HF.out (by rw [← HRK.out, HS.out, if_neg (by have := H0.out; omega), if_pos (by omega)]) (add_step _ _ c HWT.out HU.out (by omega) (by omega)), rfl⟩
            · by_cases h128 : (c.toNat : Int) < 128
              · skip
                go_wp2
                go_ret3
                exact ⟨fin_ok HF.out (by rw [← HRK.out, HS.out, if_neg (by omega), if_pos (by omega)]) (add_step _ _ c HWT.out HU.out (by omega) (by omega)), rfl⟩
              · go_wp2
                go_round
                case rel => exact ⟨k + 1, _, _, by omega, by go_num, by rw [add_step _ _ c HWT.out HU.out (by omega) (by omega)], rfl, wt_step k HWT.out, sum_bound k u' c.toNat HU.out, by rw [← HRK.out, HS.out, if_neg (by omega), if_neg (by omega)]⟩
                case measure => simp [intOf]; omega
        · have hge : (l.length : Int) ≤ (m : Int) + (k : Int) := by omega
          have HE := Lib.hid (tkF_end l m k u' hk10 hend)
          go_wp2
          go_ret3
          exact ⟨fin_err HF.out (by rw [← HRK.out, HE.out]) (by decide), rfl⟩
      · obtain rfl : k = 10 := by omega
        go_wp2
        go_ret3
        exact ⟨fin_err HF.out (by rw [← HRK.out]; rfl) (by decide), rfl⟩
  · have hR : takeS l n = (0, 0, 1) := by unfold takeS; rw [if_neg h0]
    rw [hR]
    by_cases g0 : n < 0
    · clear h0 hR
      go_enter Tryd.func53, Tryd.ntmps53
      go_wp2
      go_ret3
      exact ⟨rfl, rfl⟩
    · have g1 : (l.length : Int) < n := by omega
      clear h0 hR
      go_enter Tryd.func53, Tryd.ntmps53
      go_wp2
      go_ret3
      exact ⟨rfl, rfl⟩
end Go.Proofs.YtmffdoblpkjmjaaDoor
