/- The walks of two laws of layer 45: Seal and Split agree with the reference. No conditions. -/
import Derived.Test.YtnghdolpmmdknaaSecLives
import Derived.Test.YtnghdolpmmdknaaSecRef3
import Derived.Deep.QuietTactic
import Derived.BigQuiet
namespace Go.Proofs.Ytnghdolpmmdknaa
open Go.RowKit

set_option maxRecDepth 100000 in
set_option maxHeartbeats 2000000 in
theorem sealsLaw (g p q : Int) (_wg : (Lit.int .i64 g).wf = true) (_wp : (Lit.int .i64 p).wf = true) (_wq : (Lit.int .i64 q).wf = true) (d : List UInt8) (hd : d.length ≤ 140737488351232) (w : World) :
    Calls Try.prog 8 #[.agg #[.int .i64 g, .int .i64 p, .int .i64 q], .string (bs d)] w fun e w' => e = .returned (.bool true) ∧ Below w.heap.size w w' := by
  clear _wg _wp _wq
  have hS0 := SBox.start w g p q
  have hdm : d.length ≤ 9223372036854775807 := by omega
  by_cases h100 : 100 < d.length
  · go_enter Try.func8, Try.ntmps8
    go_wp2_with (go_at_call 15; refine (lives_any _).mono ?_; rintro e w1 ⟨rfl, hb⟩)
    go_ret
    exact ⟨rfl, btrans hS0.2 hS0.2.size hb⟩
  · go_enter Try.func8, Try.ntmps8
    go_wp2_with fail
    refine (Seal_any _ _ _ _ _ hdm).mono ?_
    rintro e w1 ⟨rfl, hb⟩
    have hS1 := hS0.call hb; clear hb hS0
    obtain ⟨a0, a1, a2⟩ := hS1.cells
    go_wp2_with fail
    refine (R45Seal_any _ _ _ _ _ hdm).mono ?_
    rintro e w2 ⟨rfl, hb⟩
    have hS2 := hS1.call hb; clear hb hS1 a0 a1 a2
    obtain ⟨a0, a1, a2⟩ := hS2.cells
    have hs3 := keep3_mk hS2
    go_upto_region 5 with (fail)
    go_region_held3 (fun w' => w'.cell? ⟨w.heap.size, 0, none⟩ = some (.int .i64 g) ∧ w'.cell? ⟨w.heap.size, 1, none⟩ = some (.int .i64 p) ∧ w'.cell? ⟨w.heap.size, 2, none⟩ = some (.int .i64 q) ∧ SBox w g p q w')
      (first | assumption | exact hs3 | exact keep3_draw (by assumption) | exact keep3_call (by assumption) (by assumption))
      (first
        | (go_at_call 25; refine (Room_any _).mono ?_; rintro e w' ⟨rfl, rfl⟩)
        | (go_at_call 26; refine (RRoom_any _).mono ?_; rintro e w' ⟨rfl, rfl⟩)
        | (go_at_call 27; refine (ValidStamp_any _ _ _ _).mono ?_; rintro e w' ⟨rfl, hb⟩)
        | (go_at_call 28; refine (RValidStamp_any _ _ _ _).mono ?_; rintro e w' ⟨rfl, hb⟩)
        | (go_at_call 15; refine (lives_any _).mono ?_; rintro e w' ⟨rfl, hb⟩))
    all_goals go_wp2
    all_goals go_ret
    all_goals exact ⟨rfl, (keep3_box (g := g) (p := p) (q := q) (by assumption)).2⟩

set_option maxRecDepth 100000 in
set_option maxHeartbeats 2000000 in
theorem splitsLaw (g : Int) (_wg : (Lit.int .i64 g).wf = true) (l : List UInt8) (hl : l.length ≤ 140737488351232) (w : World) :
    Calls Try.prog 4 #[.int .i64 g, .string (bs l)] w fun e w' => e = .returned (.bool true) ∧ Below w.heap.size w w' := by
  clear _wg
  have hB0 := Below.refl w.heap.size w
  have hlm : l.length ≤ 1000000000000000 := by omega
  by_cases hmid : 400 < l.length ∧ l.length ≤ 40960
  · obtain ⟨h1, h2⟩ := hmid
    go_enter Try.func4, Try.ntmps4
    go_wp2_with (go_at_call 15; refine (lives_any _).mono ?_; rintro e w1 ⟨rfl, hb⟩)
    go_ret
    exact ⟨rfl, hb⟩
  · have hd : (decide (400 < l.length) && decide (l.length ≤ 40960)) = false := by
      rw [Bool.and_eq_false_iff, decide_eq_false_iff_not, decide_eq_false_iff_not]; omega
    have hmid' : l.length ≤ 400 ∨ 40960 < l.length := by omega
    clear hmid
    rcases hmid' with hm | hm
    all_goals
      clear hd
      go_enter Try.func4, Try.ntmps4
      go_wp2_with fail
      refine (Split_any _ _ _ hlm).mono ?_
      rintro e w1 ⟨v1, rfl, hown1, hb1⟩
      have hS1 := StrS.of_own hown1
      go_wp2_with fail
      refine (RSplit_any _ _ _ hlm).mono ?_
      rintro e w2 ⟨v2, rfl, hown2, hb2⟩
      have hS2 := StrS.of_own hown2
      have hS1 := hS1.below hb2
      have hb := btrans hb1 hb1.size hb2
      obtain ⟨L, hL⟩ : ∃ L, L = (splitS g l).1 := ⟨_, rfl⟩
      have hLl : L.length ≤ 1024 := by rw [hL]; exact split_len g l
      rw [← hL] at hS1 hS2
      clear hL hown1 hown2 hb1 hb2
      obtain ⟨a1, c1, rfl, hc1, hcell1⟩ := hS1
      obtain ⟨a2, c2, rfl, hc2, hcell2⟩ := hS2
      have HC1 := Lib.hid hcell1; clear hcell1
      have HC2 := Lib.hid hcell2; clear hcell2
      go_wp2
      go_loopw [9] (fun c wr => ∃ k : Nat, k ≤ L.length ∧ c = .int .i64 k ∧ Below w2.heap.size w2 wr) (fun c _ => L.length - (intOf c).toNat)
      case atStart => exact ⟨0, Nat.zero_le _, rfl, Below.refl _ _⟩
      case round =>
        obtain ⟨k, hk, rfl, hbw⟩ := hrel
        by_cases hlt : k < L.length
        · obtain ⟨b1, o1, rfl, hx1⟩ := HC1.out (by intro h; rw [h] at hlt; simp at hlt)
          obtain ⟨b2, o2, rfl, hx2⟩ := HC2.out (by intro h; rw [h] at hlt; simp at hlt)
          have e1 := hx1 k hlt
          have e2 := hx2 k hlt
          have k1 := ((bcell hbw).1 _ (o1 + k) (World.block_lt_of_cell? w2 _ e1)).trans e1
          have k2 := ((bcell hbw).1 _ (o2 + k) (World.block_lt_of_cell? w2 _ e2)).trans e2
          unfold strV at k1 k2
          have hlt' : (k : Int) < (L.length : Int) := by omega
          have hq : (L[k] == L[k]) = true := by simp
          clear hx1 hx2 e1 e2
          have hk0 : (0 : Int) ≤ (k : Int) := by omega
          go_wp2
          go_quiet (fail)
          go_wp2
          go_roundw
          case rel => exact ⟨k + 1, by omega, by go_num, bdrawN hbw _⟩
          case measure => simp [intOf]; omega
        · go_wp2_with (go_at_call 15; refine (lives_any _).mono ?_; rintro e w3 ⟨rfl, hb3⟩)
          go_ret
          have hw := btrans hb hb.size hbw
          exact ⟨rfl, btrans hw hw.size hb3⟩
end Go.Proofs.Ytnghdolpmmdknaa
