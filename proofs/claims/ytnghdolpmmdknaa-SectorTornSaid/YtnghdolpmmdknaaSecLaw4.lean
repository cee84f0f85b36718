/- The walk of a law of layer 45: a torn sector never opens as the new one. No conditions. -/
import Derived.Test.YtnghdolpmmdknaaSecTornP
import Derived.Test.YtnghdolpmmdknaaSecLaw1
import Derived.Deep.QuietTactic
import Derived.BigQuiet
namespace Go.Proofs.Ytnghdolpmmdknaa
open Go.RowKit

theorem bx_drewN {W : World} {i : Nat} {x : Option Obj} (h : W.heap[i]? = x) (n : Nat) : (W.drewN n).heap[i]? = x := h
set_option maxRecDepth 100000 in
set_option maxHeartbeats 4000000 in
theorem tornWalk (o : List UInt8) (g p q : Int) (d : List UInt8) (n : Int) (w : World) (ho : o.length ≤ 1000000000000000) (hd : d.length ≤ 1000000000000000) :
    Calls Try.prog 7 #[.string (bs o), .agg #[.int .i64 g, .int .i64 p, .int .i64 q], .string (bs d), .int .i64 n] w fun e w' => e = .returned (.bool true) ∧ Below w.heap.size w w' := by
  have hB0 : Below w.heap.size w (w.alloc (.cells #[.int .i64 g, .int .i64 p, .int .i64 q] 24)) := (Below.refl _ _).alloc (Nat.le_refl _) _
  have hdm : d.length ≤ 9223372036854775807 := by omega
  by_cases hbad : o.length ≠ 64 ∨ 40 < d.length ∨ n < 0 ∨ 64 < n
  · have hor : (o.length < 64 ∨ 64 < o.length) ∨ (o.length = 64 ∧ 40 < d.length) ∨ (o.length = 64 ∧ d.length ≤ 40 ∧ n < 0) ∨ (o.length = 64 ∧ d.length ≤ 40 ∧ 0 ≤ n ∧ 64 < n) := by omega
    clear hbad
    rcases hor with (h1 | h1) | ⟨h1, h2⟩ | ⟨h1, h2, h3⟩ | ⟨h1, h2, h3, h4⟩
    all_goals
      go_enter Try.func7, Try.ntmps7
      go_wp2_with (go_at_call 15; refine (lives_any _).mono ?_; rintro e w1 ⟨rfl, hb⟩)
      go_ret
      exact ⟨rfl, btrans hB0 hB0.size hb⟩
  · obtain ⟨h64, h40, n0, n64⟩ : o.length = 64 ∧ d.length ≤ 40 ∧ 0 ≤ n ∧ n ≤ 64 := by omega
    clear hbad
    cases hst : stampB g p q with
    | false =>
      have HSE := Lib.hid (sealS_bad (l := d) hst)
      clear hst
      go_enter Try.func7, Try.ntmps7
      go_wp2_with fail
      refine (Seal_any _ _ _ _ _ hdm).mono ?_
      rw [HSE.out]
      rintro e w1 ⟨rfl, hb1⟩
      have hb2 := btrans hB0 hB0.size hb1
      go_wp2_with (go_at_call 15; refine (lives_any _).mono ?_; rintro e w2 ⟨rfl, hb⟩)
      go_ret
      exact ⟨rfl, btrans hb2 hb2.size hb⟩
    | true =>
      have HSE := Lib.hid (sealS_ok (l := d) hst h40)
      have HOP := Lib.hid (openS_seal hst h40)
      obtain ⟨t, ht⟩ : ∃ t, t = sealedL g.toNat p.toNat q.toNat d := ⟨_, rfl⟩
      have htl : t.length = 64 := by rw [ht]; exact sealedL_length _ _ _ _ h40
      rw [← ht] at HSE HOP
      have hbx0 : (w.alloc (.cells #[.int .i64 g, .int .i64 p, .int .i64 q] 24)).heap[w.heap.size]? = some (.cells #[.int .i64 g, .int .i64 p, .int .i64 q] 24 (0, 0)) := heap_alloc_new w _
      have HBX := Lib.hid hbx0; clear hbx0
      clear hst ht
      have ho64 : o.take 64 = o := List.take_of_length_le (by omega)
      have ht64 : t.take 64 = t := List.take_of_length_le (by omega)
      cases hsame : (o.drop 56 == t.drop 56) with
      | true =>
        go_enter Try.func7, Try.ntmps7
        go_wp2_with fail
        refine (Seal_any _ _ _ _ _ hdm).mono ?_
        rw [HSE.out]
        rintro e w1 ⟨rfl, hb1⟩
        have hb2 := btrans hB0 hB0.size hb1
        go_wp2
        go_quiet (fail)
        have hb3 := bdrawN hb2 nq
        go_wp2_with (go_at_call 15; refine (lives_any _).mono ?_; rintro e w2 ⟨rfl, hb⟩)
        go_ret
        exact ⟨rfl, btrans hb3 hb3.size hb⟩
      | false =>
        obtain ⟨m, rfl⟩ : ∃ m : Nat, n = (m : Int) := ⟨n.toNat, by omega⟩
        obtain ⟨tn, htn⟩ : ∃ tn, tn = t.take m ++ o.drop m := ⟨_, rfl⟩
        obtain ⟨g', p', q', d', er, ho1⟩ : ∃ g' p' q' d' er, openS tn = ((g', p', q'), d', er) := ⟨_, _, _, _, _, rfl⟩
        obtain ⟨g2, p2, q2, d2, er2, ho2⟩ : ∃ g2 p2 q2 d2 er2, openS o = ((g2, p2, q2), d2, er2) := ⟨_, _, _, _, _, rfl⟩
        have hf := torn_facts (torn_plain HOP.out (by simpa using hsame) htn (by omega) ho1 ho2)
        have HO1 := Lib.hid ho1; clear ho1
        have HO2 := Lib.hid ho2; clear ho2
        have htnl : tn.length ≤ 9223372036854775807 := by rw [htn, List.length_append, List.length_take, List.length_drop]; omega
        have hol : o.length ≤ 9223372036854775807 := by omega
        have HTN := Lib.hid htn; clear htn
        have HF := Lib.hid hf; clear hf
        go_enter Try.func7, Try.ntmps7
        go_wp2_with fail
        refine (Seal_any _ _ _ _ _ hdm).mono ?_
        rw [HSE.out]
        rintro e w1 ⟨rfl, hb1⟩
        have hb2 := btrans hB0 hB0.size hb1
        have hbx := (hb1.block _ (lt_of_heap HBX.out)).trans HBX.out
        clear hb1 HBX
        have HBX := Lib.hid hbx; clear hbx
        go_wp2
        go_quiet (fail)
        go_wp2
        go_quiet (fail)
        rw [← HTN.out]
        clear hB0
        go_wp2_with fail
        refine (Open_any _ _ htnl).mono ?_
        rw [HO1.out]
        rintro e w2 ⟨rfl, hb3⟩
        have hb4 := btrans (bdrawN hb2 _) (bdrawN hb2 _).size hb3
        have hbx2 := (hb3.block _ (lt_of_heap (bx_drewN HBX.out _))).trans (bx_drewN HBX.out _)
        clear hb3 hb2 HBX
        have hz2 := lt_of_heap hbx2
        have c0 : w2.cell? ⟨w.heap.size, 0, none⟩ = some (.int .i64 g) := by simp [World.cell?, hbx2]
        have c1 : w2.cell? ⟨w.heap.size, 1, none⟩ = some (.int .i64 p) := by simp [World.cell?, hbx2]
        clear hbx2
        have hb5 := hb4.alloc hb4.size (.cells #[.int .i64 g', .int .i64 p', .int .i64 q'] 24)
        clear hb4
        have HF := HF.out
        rcases HF with ⟨f1, f2⟩ | ⟨f1, f2, f3⟩ | ⟨f1, f2, f3, f4, f5⟩ | ⟨f1, f2, f3, f4, f5, f6, f7, f8⟩ | ⟨f1, f2, f3⟩ | ⟨f1, f2, f3, f4, f5⟩ | ⟨f1, f2, f3, f4⟩ | ⟨f1, f2, f3, f4, f5, f6⟩
        all_goals
          go_wp2_with fail
          refine (Open_any _ _ hol).mono ?_
          rw [HO2.out]
          rintro e w3 ⟨rfl, hb6⟩
          have hb7 := btrans hb5 hb5.size hb6
          clear hb6 c0 c1
          have hb8 := hb7.alloc hb7.size (.cells #[.int .i64 g2, .int .i64 p2, .int .i64 q2] 24)
          clear hb7
          go_wp2_with (go_at_call 15; refine (lives_any _).mono ?_; rintro e w4 ⟨rfl, hb⟩)
          go_ret
          exact ⟨rfl, btrans hb8 hb8.size hb⟩

theorem tornLaw (o : List UInt8) (ho : o.length ≤ 140737488351232) (g p q : Int) (_wg : (Lit.int .i64 g).wf = true) (_wp : (Lit.int .i64 p).wf = true) (_wq : (Lit.int .i64 q).wf = true) (d : List UInt8) (hd : d.length ≤ 140737488351232)
    (n : Int) (_wn : (Lit.int .i64 n).wf = true) (w : World) :
    Calls Try.prog 7 #[.string (bs o), .agg #[.int .i64 g, .int .i64 p, .int .i64 q], .string (bs d), .int .i64 n] w fun e w' => e = .returned (.bool true) ∧ Below w.heap.size w w' :=
  tornWalk o g p q d n w (by omega) (by omega)
end Go.Proofs.Ytnghdolpmmdknaa
