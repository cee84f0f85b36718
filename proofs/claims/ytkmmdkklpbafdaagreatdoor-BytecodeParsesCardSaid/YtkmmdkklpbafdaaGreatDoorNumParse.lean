/- What Parse of the reference of layer 1 returns. No conditions but the text's size. -/
import Derived.Test.YtkmmdkklpbafdaaGreatDoorNumStr
namespace Go.Proofs.YtkmmdkklpbafdaaGreatDoor
open Go.RowKit

theorem tailS_over1 {r : List UInt8} (h : 9223372036854775808 < val r) : tailS true r = (0, 3) := by unfold tailS; rw [if_pos rfl, if_neg (by omega)]
theorem tailS_over2 {r : List UInt8} (h : 9223372036854775807 < val r) : tailS false r = (0, 3) := by unfold tailS; rw [if_neg (by decide), if_neg (by omega)]
theorem tailS_ok1 {r : List UInt8} (h : val r ≤ 9223372036854775808) : tailS true r = (-(val r : Int), 0) := by unfold tailS; rw [if_pos rfl, if_pos h]
theorem tailS_ok2 {r : List UInt8} (h : val r ≤ 9223372036854775807) : tailS false r = ((val r : Int), 0) := by unfold tailS; rw [if_neg (by decide), if_pos h]
theorem dig_at_all {r : List UInt8} (h : r.all isDig = true) (k : Nat) (hk : k < r.length) : 48 ≤ r[k].toNat ∧ r[k].toNat ≤ 57 :=
  (isDig_iff _).1 (List.all_eq_true.1 h _ (List.getElem_mem hk))
theorem u64_back (a : Int) (h0 : 0 ≤ a) (h : a ≤ 9223372036854775808) : IntKind.i64.wrap (IntKind.u64.wrap (-a)) = -a := by
  simp only [IntKind.wrap, IntKind.signed, IntKind.bits]
  simp
  omega
theorem good_neg (r : List UInt8) : good (45 :: r) = (canon r && !(r == [48])) := by rw [good_of (by simp [minus])]; rfl
theorem body_neg (r : List UInt8) : minus (45 :: r) = true ∧ body (45 :: r) = r := by
  have h : minus (45 :: r) = true := by simp [minus]
  refine ⟨h, ?_⟩
  unfold body; rw [if_pos h]; rfl
theorem body_pos {c : UInt8} (r : List UInt8) (h : c ≠ 45) : minus (c :: r) = false ∧ body (c :: r) = c :: r := by
  have hm : minus (c :: r) = false := by unfold minus; simp [h]
  refine ⟨hm, ?_⟩
  unfold body; rw [hm]; rfl

set_option maxRecDepth 100000 in
set_option maxHeartbeats 2000000 in
theorem RParse_neg (r : List UInt8) (w : World) (hl : r.length + 1 ≤ 9223372036854775807) :
    Calls Tryz.prog 76 #[.string (bs (45 :: r))] w fun e w' => e = .returned (.tuple #[.int .i64 (parseS (45 :: r)).1, .int .i64 (parseS (45 :: r)).2]) ∧ w = w' := by
  cases hc : canon r with
  | false =>
    rw [parse_bad (by rw [good_neg, hc]; rfl)]
    have HC := Lib.hid hc; clear hc
    go_enter Tryz.func76, Tryz.ntmps76
    go_wp2_with (go_at_call 101; refine (Rdigits_any _ _ (by omega)).mono ?_; rw [HC.out]; rintro e w' ⟨rfl, rfl⟩)
    go_ret2
    exact ⟨rfl, rfl⟩
  | true =>
    have HC := Lib.hid hc
    by_cases h48 : r = [48]
    · rw [parse_bad (by rw [good_neg, hc, h48]; rfl)]
      have hq : (r == [48]) = true := by rw [h48]; rfl
      clear hc h48
      go_enter Tryz.func76, Tryz.ntmps76
      go_wp2_with (go_at_call 101; refine (Rdigits_any _ _ (by omega)).mono ?_; rw [HC.out]; rintro e w' ⟨rfl, rfl⟩)
      go_ret2
      exact ⟨rfl, rfl⟩
    · have hq : (r == [48]) = false := by rw [beq_eq_false_iff_ne]; exact h48
      have hg : good (45 :: r) = true := by rw [good_neg, hc, hq]; rfl
      rw [parse_tail hg, (body_neg r).1, (body_neg r).2]
      have HA := Lib.hid (canon_all hc)
      clear hc h48 hg
      go_enter Tryz.func76, Tryz.ntmps76
      go_wp2_with (go_at_call 101; refine (Rdigits_any _ _ (by omega)).mono ?_; rw [HC.out]; rintro e w' ⟨rfl, rfl⟩)
      go_loop [7, 8] (fun u i => ∃ (k : Nat) (a : Int), k ≤ r.length ∧ i = .int .i64 k ∧ u = .int .u64 a ∧ 0 ≤ a ∧ a ≤ 9223372036854775808 ∧ Hid (a = (val (r.take k) : Int))) (fun _ i => r.length - (intOf i).toNat)
      case atStart => exact ⟨0, 0, Nat.zero_le _, rfl, rfl, by omega, by omega, Lib.hid (by simp [val])⟩
      case round =>
        obtain ⟨k, a, hk, rfl, rfl, ha0, hal, hv⟩ := hrel
        by_cases hlt : k < r.length
        · have hlt' : (k : Int) < (r.length : Int) := by omega
          obtain ⟨d1, d2⟩ := dig_at_all HA.out k hlt
          have hvs := val_take_succ r k hlt
          have hvt := val_take_le r (k + 1)
          have ha1 := hv.out
          by_cases ho : (9223372036854775808 - ((r[k].toNat : Int) - 48)) / 10 < a
          · have hov : 9223372036854775808 < val r := by omega
            have HOV := Lib.hid (tailS_over1 hov)
            clear hvs hvt ha1 hov hv
            go_wp2
            go_ret2
            exact ⟨by rw [HOV.out]; rfl, rfl⟩
          · have hnx : a * 10 + ((r[k].toNat : Int) - 48) = (val (r.take (k + 1)) : Int) := by omega
            have hnl : a * 10 + ((r[k].toNat : Int) - 48) ≤ 9223372036854775808 := by omega
            have HNX := Lib.hid hnx
            clear hvs hvt ha1 hnx hv
            go_wp2
            go_round
            case rel => exact ⟨k + 1, _, by omega, by go_num, rfl, by omega, by omega, HNX⟩
            case measure => simp [intOf]; omega
        · have hvr : a = (val r : Int) := by rw [hv.out, ltake_all r hlt]
          have hok := tailS_ok1 (r := r) (by omega)
          rw [← hvr] at hok
          have HOK := Lib.hid hok
          clear hvr hv hok
          obtain ⟨m, hm⟩ : ∃ m, IntKind.u64.wrap (-a) = m := ⟨_, rfl⟩
          have hm2 := u64_back a ha0 hal
          rw [hm] at hm2
          have hm3 : wrap64 m = -a := by rw [← IntWalk.i64_left]; exact hm2
          go_wp2
          go_ret2
          exact ⟨by rw [HOK.out]; rfl, rfl⟩

set_option maxRecDepth 100000 in
set_option maxHeartbeats 2000000 in
theorem RParse_pos (c : UInt8) (t : List UInt8) (w : World) (hl : t.length + 1 ≤ 9223372036854775807) (h45 : c ≠ 45) :
    Calls Tryz.prog 76 #[.string (bs (c :: t))] w fun e w' => e = .returned (.tuple #[.int .i64 (parseS (c :: t)).1, .int .i64 (parseS (c :: t)).2]) ∧ w = w' := by
  obtain ⟨hm, hbd⟩ := body_pos t h45
  obtain ⟨r, hr⟩ : ∃ r, c :: t = r := ⟨_, rfl⟩
  have hgd := good_of' hm
  have hrl : r.length ≤ 9223372036854775807 := by rw [← hr]; exact hl
  have hpos : (0 : Int) < (r.length : Int) := by rw [← hr, List.length_cons]; omega
  have hpos' : 0 < r.length := by omega
  have hg0 : ((r[0].toNat : Int) == 45) = false := by
    rw [beq_eq_false_iff_ne]
    subst hr
    intro e
    apply h45
    rw [← UInt8.toNat_inj]
    have h45' : (45 : UInt8).toNat = 45 := rfl
    simp at e
    omega
  rw [hr] at hm hbd hgd ⊢
  clear hr
  cases hc : canon r with
  | false =>
    rw [parse_bad (by rw [hgd, hc])]
    have HC := Lib.hid hc; clear hc hm hbd hgd
    go_enter Tryz.func76, Tryz.ntmps76
    go_wp2_with (go_at_call 101; refine (Rdigits_any _ _ (by omega)).mono ?_; rw [HC.out]; rintro e w' ⟨rfl, rfl⟩)
    go_ret2
    exact ⟨rfl, rfl⟩
  | true =>
    have HC := Lib.hid hc
    rw [parse_tail (by rw [hgd, hc]), hm, hbd]
    have HA := Lib.hid (canon_all hc)
    clear hc hm hbd hgd
    go_enter Tryz.func76, Tryz.ntmps76
    go_wp2_with (go_at_call 101; refine (Rdigits_any _ _ (by omega)).mono ?_; rw [HC.out]; rintro e w' ⟨rfl, rfl⟩)
    go_loop [7, 8] (fun u i => ∃ (k : Nat) (a : Int), k ≤ r.length ∧ i = .int .i64 k ∧ u = .int .u64 a ∧ 0 ≤ a ∧ a ≤ 9223372036854775807 ∧ Hid (a = (val (r.take k) : Int))) (fun _ i => r.length - (intOf i).toNat)
    case atStart => exact ⟨0, 0, Nat.zero_le _, rfl, rfl, by omega, by omega, Lib.hid (by simp [val])⟩
    case round =>
      obtain ⟨k, a, hk, rfl, rfl, ha0, hal, hv⟩ := hrel
      by_cases hlt : k < r.length
      · have hlt' : (k : Int) < (r.length : Int) := by omega
        obtain ⟨d1, d2⟩ := dig_at_all HA.out k hlt
        have hvs := val_take_succ r k hlt
        have hvt := val_take_le r (k + 1)
        have ha1 := hv.out
        by_cases ho : (9223372036854775807 - ((r[k].toNat : Int) - 48)) / 10 < a
        · have hov : 9223372036854775807 < val r := by omega
          have HOV := Lib.hid (tailS_over2 hov)
          clear hvs hvt ha1 hov hv
          go_wp2
          go_ret2
          exact ⟨by rw [HOV.out]; rfl, rfl⟩
        · have hnx : a * 10 + ((r[k].toNat : Int) - 48) = (val (r.take (k + 1)) : Int) := by omega
          have hnl : a * 10 + ((r[k].toNat : Int) - 48) ≤ 9223372036854775807 := by omega
          have HNX := Lib.hid hnx
          clear hvs hvt ha1 hnx hv
          go_wp2
          go_round
          case rel => exact ⟨k + 1, _, by omega, by go_num, rfl, by omega, by omega, HNX⟩
          case measure => simp [intOf]; omega
      · have hvr : a = (val r : Int) := by rw [hv.out, ltake_all r hlt]
        have hok := tailS_ok2 (r := r) (by omega)
        rw [← hvr] at hok
        have HOK := Lib.hid hok
        clear hvr hv hok
        go_wp2
        go_ret2
        exact ⟨by rw [HOK.out]; rfl, rfl⟩

set_option maxRecDepth 100000 in
set_option maxHeartbeats 2000000 in
theorem RParse_any (l : List UInt8) (w : World) (hl : l.length ≤ 9223372036854775807) :
    Calls Tryz.prog 76 #[.string (bs l)] w fun e w' => e = .returned (.tuple #[.int .i64 (parseS l).1, .int .i64 (parseS l).2]) ∧ w = w' := by
  cases l with
  | nil =>
    have HC := Lib.hid canon_nil
    rw [parse_bad (show good [] = false from rfl)]
    go_enter Tryz.func76, Tryz.ntmps76
    go_wp2_with (go_at_call 101; refine (Rdigits_any _ _ (by omega)).mono ?_; rw [HC.out]; rintro e w' ⟨rfl, rfl⟩)
    go_ret2
    exact ⟨rfl, rfl⟩
  | cons c r =>
    by_cases h : c = 45
    · subst h; exact RParse_neg r w (by simpa using hl)
    · exact RParse_pos c r w (by simpa using hl) h
end Go.Proofs.YtkmmdkklpbafdaaGreatDoor
