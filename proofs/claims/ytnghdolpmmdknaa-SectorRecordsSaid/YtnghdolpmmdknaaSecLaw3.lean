/- The walk of a law of layer 45: a record is found at the beginning of its sectors. No conditions. -/
import Derived.Test.YtnghdolpmmdknaaSecLives
import Derived.Test.YtnghdolpmmdknaaSecRef3
import Derived.Test.YtnghdolpmmdknaaStrs2
import Derived.Deep.QuietTactic
import Derived.BigQuiet
namespace Go.Proofs.Ytnghdolpmmdknaa
open Go.RowKit

theorem split_none {g : Int} {l : List UInt8} (h : (splitS g l).2 ≠ 0) : (splitS g l).1 = [] := by
  unfold splitS at h ⊢
  split
  · rfl
  · next h1 =>
    rw [if_neg h1] at h
    split
    · rfl
    · next h2 => rw [if_neg h2] at h; simp at h

set_option maxRecDepth 100000 in
set_option maxHeartbeats 4000000 in
theorem recordsWalk (g : Int) (l : List UInt8) (hl : l.length ≤ 140737488351232) (v0 : Value) (M : List (List UInt8)) (least most : Int) (w : World) (hS0 : StrS w v0 M) (hM : ∀ s ∈ M, s.length ≤ 9223372036854775807) :
    Calls Try.prog 6 #[.int .i64 g, .string (bs l), v0, .int .i64 least, .int .i64 most] w fun e w' => e = .returned (.bool true) ∧ Below w.heap.size w w' := by
  have hB0 := Below.refl w.heap.size w
  have hlm : l.length ≤ 1000000000000000 := by omega
  obtain ⟨a0, cap0, rfl, hcap0, hcell0⟩ := hS0
  have hS0 : StrS w (.slice a0 M.length cap0) M := ⟨a0, cap0, rfl, hcap0, hcell0⟩
  clear hcap0 hcell0
  have hML := Lib.hid hM; clear hM
  by_cases hbig : 300 < l.length ∨ 4 < M.length
  · rcases Nat.lt_or_ge 300 l.length with hx | hx
    · go_enter Try.func6, Try.ntmps6
      go_wp2_with (go_at_call 15; refine (lives_any _).mono ?_; rintro e w1 ⟨rfl, hb⟩)
      go_ret
      exact ⟨rfl, hb⟩
    · have hx2 : 4 < M.length := by omega
      clear hbig
      go_enter Try.func6, Try.ntmps6
      go_wp2_with (go_at_call 15; refine (lives_any _).mono ?_; rintro e w1 ⟨rfl, hb⟩)
      go_ret
      exact ⟨rfl, hb⟩
  · obtain ⟨hl3, hM4⟩ : l.length ≤ 300 ∧ M.length ≤ 4 := by omega
    clear hbig
    by_cases he : (splitS g l).2 = 0
    · obtain ⟨hg1, hg2, hp, hSe⟩ := split_ok (g := g) (l := l) (S := (splitS g l).1) (by rw [← he])
      have hpos := pieces_pos l.length
      have hpl : (splitS g l).1.length = pieces l.length := by rw [hSe, secs_length]
      obtain ⟨G, rfl⟩ : ∃ G : Nat, g = (G : Int) := ⟨g.toNat, by omega⟩
      rw [Int.toNat_natCast] at hSe
      obtain ⟨n, hn⟩ : ∃ n, n = pieces l.length := ⟨_, rfl⟩
      rw [← hn] at hSe hp hpos hpl
      have hJ := join_secs G l (by omega) (by omega) (secs G l n ++ M) (fun k hk => by rw [← hn] at hk; rw [List.getElem?_append_left (by rw [secs_length]; exact hk)]; exact secs_get G l n k hk) (by rw [List.length_append, secs_length, hn]; omega) least most
      have hC := join_cut G l (by omega) (by omega) least most ((secs G l n).take (n - 1)) (by rw [hn])
      rw [← hn] at hJ
      have HALL := Lib.hid (show ∀ s ∈ secs G l n, s.length ≤ 9223372036854775807 by
        intro s hs
        obtain ⟨i, _, rfl⟩ := List.mem_map.1 hs
        unfold secAt; rw [sealedL_length _ _ _ _ (by rw [List.length_take]; omega)]; decide)
      have HALLM := Lib.hid (show ∀ s ∈ secs G l n ++ M, s.length ≤ 9223372036854775807 from fun s hs => (List.mem_append.1 hs).elim (HALL.out s) (hML.out s))
      have HALLT := Lib.hid (show ∀ s ∈ (secs G l n).take (n - 1), s.length ≤ 9223372036854775807 from fun s hs => HALL.out s (List.mem_of_mem_take hs))
      have HSP := Lib.hid (show splitS (G : Int) l = (secs G l n, 0) by rw [← hSe, ← he])
      have HN := Lib.hid hn
      have HC := Lib.hid hC
      clear he hSe hpl hn hC
      have hsl : (secs G l n).length = n := secs_length _ _ _
      by_cases hin : least ≤ (G : Int) ∧ (G : Int) ≤ most
      · rw [if_pos hin] at hJ
        have HJ := Lib.hid hJ; clear hJ
        obtain ⟨hi1, hi2⟩ := hin
        go_enter Try.func6, Try.ntmps6
        go_wp2_with fail
        refine (Split_any _ _ _ hlm).mono ?_
        rw [HSP.out]
        rintro e w1 ⟨v1, rfl, hown1, hb1⟩
        have hS1 := StrS.of_own hown1
        have hS0 := hS0.below hb1
        rcases own_form hown1 with ⟨_, h0⟩ | ⟨gg, cap, rfl, hcap, _⟩
        · rw [hsl] at h0; omega
        · rw [hsl] at hcap
          obtain ⟨_, _, hcell1⟩ := strs_cells hS1
          clear hown1
          have hST : StrS w1 (.slice (some ⟨gg, 0, none⟩) (n - 1 : Nat) cap) ((secs G l n).take (n - 1)) := StrS.take (n - 1) (by rw [hsl]; omega) (by rw [hsl]; omega) hcell1
          have hHS1 := Lib.hid hS1; clear hS1 hcell1
          rw [hsl] at hHS1
          go_wp2_with (at_builtin; first
            | (refine wpList_append_strs rfl _ _ rfl w1.heap.size _ _ [] (secs G l n) (World.ownsRow_nil _ _ _ _) hHS1.out rfl rfl (by decide) (by rw [hsl]; omega) w1 (Below.refl _ _) (Nat.le_refl _) ?_; intro v2 w2 hown2 hb2; rw [List.nil_append] at hown2; have hS02 := hS0.below hb2)
            | (refine wpList_append_strs rfl _ _ rfl w1.heap.size _ _ (secs G l n) M hown2 hS02 rfl rfl (by rw [hsl]; omega) (by omega) w1 hb2 hb2.size ?_; intro v3 w3 hown3 hb3))
          have hS3 := StrS.of_own hown3
          have hST3 := hST.below hb3
          have hb03 := btrans hb1 hb1.size hb3
          clear hown2 hown3 hb2 hb3 hS02 hST hHS1 hS0 hb1
          refine (Join_any _ _ _ _ _ hS3 HALLM.out).mono ?_
          rw [HJ.out]
          rintro e w4 ⟨rfl, hb⟩
          have hST4 := hST3.below hb
          have hb04 := btrans hb03 hb03.size hb
          clear hb hb03 hST3 hS3
          go_wp2_with fail
          refine (Join_any _ _ _ _ _ hST4 HALLT.out).mono ?_
          rw [HC.out]; unfold joinFail
          rintro e w5 ⟨rfl, hb⟩
          have hb05 := btrans hb04 hb04.size hb
          clear hb hb04 hST4
          have hq : (l == l) = true := by simp
          go_wp2_with (go_at_call 15; refine (lives_any _).mono ?_; rintro e w6 ⟨rfl, hb⟩)
          go_ret
          exact ⟨rfl, btrans hb05 hb05.size hb⟩
      · rw [if_neg hin] at hJ
        have HJ := Lib.hid hJ; clear hJ
        have hor : (G : Int) < least ∨ (least ≤ (G : Int) ∧ most < (G : Int)) := by omega
        clear hin
        rcases hor with hi1 | ⟨hi1, hi2⟩
        all_goals
          go_enter Try.func6, Try.ntmps6
          go_wp2_with fail
          refine (Split_any _ _ _ hlm).mono ?_
          rw [HSP.out]
          rintro e w1 ⟨v1, rfl, hown1, hb1⟩
          have hS1 := StrS.of_own hown1
          have hS0 := hS0.below hb1
          rcases own_form hown1 with ⟨_, h0⟩ | ⟨gg, cap, rfl, hcap, _⟩
          · rw [hsl] at h0; omega
          · rw [hsl] at hcap
            obtain ⟨_, _, hcell1⟩ := strs_cells hS1
            clear hown1
            have hHS1 := Lib.hid hS1; clear hS1 hcell1
            rw [hsl] at hHS1
            go_wp2_with (at_builtin; first
              | (refine wpList_append_strs rfl _ _ rfl w1.heap.size _ _ [] (secs G l n) (World.ownsRow_nil _ _ _ _) hHS1.out rfl rfl (by decide) (by rw [hsl]; omega) w1 (Below.refl _ _) (Nat.le_refl _) ?_; intro v2 w2 hown2 hb2; rw [List.nil_append] at hown2; have hS02 := hS0.below hb2)
              | (refine wpList_append_strs rfl _ _ rfl w1.heap.size _ _ (secs G l n) M hown2 hS02 rfl rfl (by rw [hsl]; omega) (by omega) w1 hb2 hb2.size ?_; intro v3 w3 hown3 hb3))
            have hS3 := StrS.of_own hown3
            have hb03 := btrans hb1 hb1.size hb3
            clear hown2 hown3 hb2 hb3 hS02 hHS1 hS0 hb1
            refine (Join_any _ _ _ _ _ hS3 HALLM.out).mono ?_
            rw [HJ.out]; unfold joinFail
            rintro e w4 ⟨rfl, hb⟩
            have hb04 := btrans hb03 hb03.size hb
            clear hb hb03 hS3
            go_wp2_with (go_at_call 15; refine (lives_any _).mono ?_; rintro e w6 ⟨rfl, hb⟩)
            go_ret
            exact ⟨rfl, btrans hb04 hb04.size hb⟩
    · have hn := Lib.hid (split_none he)
      have her : ((splitS g l).2 == 0) = false := by simpa using he
      obtain ⟨er, hq⟩ : ∃ er, er = (splitS g l).2 := ⟨_, rfl⟩
      rw [← hq] at her he
      have HQ := Lib.hid hq; clear hq
      go_enter Try.func6, Try.ntmps6
      go_wp2_with fail
      refine (Split_any _ _ _ hlm).mono ?_
      rintro e w1 ⟨v1, rfl, hown1, hb1⟩
      rw [hn.out] at hown1
      rw [← HQ.out]
      rcases own_form hown1 with ⟨rfl, _⟩ | ⟨gg, cap, rfl, _, _⟩
      all_goals
        clear hown1
        go_wp2_with (go_at_call 15; refine (lives_any _).mono ?_; rintro e w2 ⟨rfl, hb⟩)
        go_ret
        exact ⟨rfl, btrans hb1 hb1.size hb⟩

theorem recordsLaw (g : Int) (_wg : (Lit.int .i64 g).wf = true) (l : List UInt8) (hl : l.length ≤ 140737488351232) (v0 : Value) (M : List (List UInt8)) {w0 : World} (hS0 : StrS w0 v0 M) (hM : ∀ s ∈ M, s.length ≤ 9223372036854775807)
    (least : Int) (_wl : (Lit.int .i64 least).wf = true) (most : Int) (_wm : (Lit.int .i64 most).wf = true) (w : World) (hw : w0 = w := by rfl) :
    Calls Try.prog 6 #[.int .i64 g, .string (bs l), v0, .int .i64 least, .int .i64 most] w fun e w' => e = .returned (.bool true) ∧ Below w.heap.size w w' := by
  subst hw; exact recordsWalk g l hl v0 M least most w0 hS0 hM
end Go.Proofs.Ytnghdolpmmdknaa
