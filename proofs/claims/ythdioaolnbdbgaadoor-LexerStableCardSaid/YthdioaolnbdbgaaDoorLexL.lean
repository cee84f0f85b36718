/- The walks of the law's small and of LexerJoins. No conditions. -/
import Derived.Test.YthdioaolnbdbgaaDoorLexK
namespace Go.Proofs.YthdioaolnbdbgaaDoor
open Go.RowKit

def smB (M : List Tk) : Bool := decide (M.length ≤ 40 ∧ ∀ x ∈ M, x.t.length ≤ 200)
theorem smB_no {M : List Tk} (h : ¬ (M.length ≤ 40 ∧ ∀ x ∈ M, x.t.length ≤ 200)) : smB M = false := by unfold smB; rw [decide_eq_false h]
theorem smB_yes {M : List Tk} (h : M.length ≤ 40 ∧ ∀ x ∈ M, x.t.length ≤ 200) : smB M = true := by unfold smB; rw [decide_eq_true h]

set_option maxRecDepth 100000 in
set_option maxHeartbeats 8000000 in
theorem small_any (va : Value) (M : List Tk) (w : World) (hA : CellsAt w va M.length (tkLs M)) (hM : M.length ≤ 8796093022208) :
    Calls Tryd.prog 21 #[va] w fun e w' => e = .returned (.bool (smB M)) ∧ Below w.heap.size w w' := by
  obtain ⟨aa, ca, rfl, -⟩ := id hA
  obtain ⟨R, hR⟩ : ∃ R, smB M = R := ⟨_, rfl⟩
  rw [hR]
  have HA := Lib.hid hA; have HR := Lib.hid hR; clear hA hR
  go_enter Tryd.func21, Tryd.ntmps21
  go_wp2
  go_loop [3] (fun i => ∃ k : Nat, k ≤ M.length ∧ k ≤ 41 ∧ i = .int .i64 k ∧ Hid (∀ x ∈ M.take k, x.t.length ≤ 200)) (fun i => 41 - (intOf i).toNat)
  case atStart => exact ⟨0, Nat.zero_le _, by omega, rfl, Lib.hid (by simp)⟩
  case round =>
    obtain ⟨k, hk, hk41, rfl, HQ⟩ := hrel
    by_cases hlt : k < M.length
    · have hlt' : (k : Int) < (M.length : Int) := by omega
      by_cases h41 : k < 41
      · have h41' : (k : Int) < 41 := by omega
        have hw1 : IntKind.i64.wrap ((k : Int) + 1) = (k : Int) + 1 := by rw [IntKind.wrap_i64]; omega
        obtain ⟨ba, oa, rfl, p0, p1, p2, p3⟩ := tok_cells HA.out hlt
        have HS := Lib.hid (take_one M k hlt)
        obtain ⟨⟨xk, xt, xn, xl⟩, hxe⟩ : ∃ x, M[k] = x := ⟨_, rfl⟩
        rw [hxe] at p0 p1 p2 p3
        simp only at p0 p1 p2 p3
        have HXE := Lib.hid hxe; clear hxe
        by_cases h2 : (200 : Int) < (xt.length : Int)
        · have HF := Lib.hid (show R = false by rw [← HR.out]; apply smB_no; intro h; have := h.2 M[k] (List.getElem_mem hlt); rw [HXE.out] at this; simp only at this; omega)
          go_wp2
          go_ret
          exact ⟨by rw [HF.out] <;> rfl, Below.refl _ _⟩
        have HN := Lib.hid (show ∀ x ∈ M.take (k + 1), x.t.length ≤ 200 by
          intro x hx
          rw [HS.out] at hx
          rcases List.mem_append.1 hx with h | h
          · exact HQ.out x h
          · rw [List.mem_singleton] at h; rw [h, HXE.out]; show xt.length ≤ 200; omega)
        go_wp2
        go_round
        case rel => exact ⟨k + 1, by omega, by omega, by go_num, HN⟩
        case measure => simp [intOf]; omega
      have h41' : ¬ (k : Int) < 41 := by omega
      have h40 : ¬ (M.length : Int) ≤ 40 := by omega
      have HF := Lib.hid (show R = false by rw [← HR.out]; apply smB_no; intro h; omega)
      go_wp2
      go_ret
      exact ⟨by rw [HF.out] <;> rfl, Below.refl _ _⟩
    · have hlt' : ¬ (k : Int) < (M.length : Int) := by omega
      by_cases h40 : (M.length : Int) ≤ 40
      · have HF := Lib.hid (show M.length ≤ 40 ∧ ∀ x ∈ M, x.t.length ≤ 200 from ⟨by omega, by have h := HQ.out; rw [List.take_of_length_le (by omega)] at h; exact h⟩)
        have HG := Lib.hid (show R = true by rw [← HR.out]; exact smB_yes HF.out)
        go_wp2
        go_ret
        exact ⟨by rw [HG.out] <;> rfl, Below.refl _ _⟩
      · have HF := Lib.hid (show R = false by rw [← HR.out]; apply smB_no; intro h; omega)
        go_wp2
        go_ret
        exact ⟨by rw [HF.out] <;> rfl, Below.refl _ _⟩
set_option maxRecDepth 100000 in
set_option maxHeartbeats 16000000 in
theorem joinsWalk7 (a : Option Addr) (c : Nat) (M : List Tk) {w : World} (hA : CellsAt w (.slice a M.length c) M.length (tkLs M)) (hM : M.length ≤ 8796093022208) (hx : ∀ x ∈ M, -9223372036854775808 ≤ x.n ∧ x.n ≤ 9223372036854775807) (_ : World) (hL : Laid w) :
    Calls Tryd.prog 7 #[.slice a M.length c] w fun e w' => e = .returned (.bool true) ∧ Below w.heap.size w w' := by
  have HA := Lib.hid hA; have HX := Lib.hid hx; clear hA hx
  go_enter Tryd.func7, Tryd.ntmps7
  go_wp2_with fail
  refine (small_any _ M _ HA.out hM).mono ?_
  obtain ⟨b, hb⟩ : ∃ b, smB M = b := ⟨_, rfl⟩
  rw [hb]
  rintro er w1 ⟨rfl, hb1⟩
  have HB := Lib.hid hb1; have HS := Lib.hid hb; clear hb hb1
  cases b with
  | false =>
    go_wp2_with fail
    refine (lives_any _ (hL.below HB.out)).mono ?_
    rintro er wz ⟨rfl, hbz⟩
    go_wp2
    go_ret
    exact ⟨rfl, btrans HB.out HB.out.size hbz⟩
  | true =>
    obtain ⟨hM40, ht200⟩ := of_decide_eq_true (show decide (M.length ≤ 40 ∧ ∀ x ∈ M, x.t.length ≤ 200) = true from HS.out)
    have HTK := Lib.hid (show ∀ x ∈ M, TkOk x from fun x h => ⟨by have := ht200 x h; omega, HX.out x h⟩)
    clear ht200
    obtain ⟨⟨T, e⟩, hj⟩ : ∃ r, joinT M = r := ⟨_, rfl⟩
    have q1 : (T == T) = true := by simp
    have q2 : (e == e) = true := by simp
    have HJ := Lib.hid hj; clear hj
    go_wp2_with fail
    refine (Join_any _ M _ (HA.out.below HB.out) (by omega) HTK.out (hL.below HB.out)).mono ?_
    rw [HJ.out]
    rintro er w2 ⟨rfl, hb1⟩
    have HB := Lib.hid (btrans HB.out HB.out.size hb1); clear hb1
    go_wp2_with fail
    refine (RJoin_any _ M _ (HA.out.below HB.out) (by omega) HTK.out).mono ?_
    rw [HJ.out]
    rintro er w3 ⟨rfl, hb1⟩
    have HB := Lib.hid (btrans HB.out HB.out.size hb1); clear hb1
    go_wp2_with fail
    refine (lives_any _ (hL.below HB.out)).mono ?_
    rintro er wz ⟨rfl, hbz⟩
    go_wp2
    go_ret
    exact ⟨rfl, btrans HB.out HB.out.size hbz⟩
end Go.Proofs.YthdioaolnbdbgaaDoor
