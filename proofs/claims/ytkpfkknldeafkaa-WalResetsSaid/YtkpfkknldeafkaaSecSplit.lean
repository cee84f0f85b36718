/- What sector's Split returns. No conditions but the record's own range. -/
import Derived.Test.YtkpfkknldeafkaaSecOpen
import Derived.Test.YtkpfkknldeafkaaStrs
namespace Go.Proofs.Ytkpfkknldeafkaa
open Go.RowKit

/-- the sectors of a record -/
def pieces (n : Nat) : Nat := max ((n + 39) / 40) 1
def secAt (g : Nat) (l : List UInt8) (i : Nat) : List UInt8 := sealedL g i (pieces l.length) ((l.drop (i * 40)).take 40)
def secs (g : Nat) (l : List UInt8) (k : Nat) : List (List UInt8) := (List.range k).map (secAt g l)
def splitS (g : Int) (l : List UInt8) : List (List UInt8) × Int :=
  if g < 1 ∨ 1099511627776 < g then ([], 1) else if 1024 < pieces l.length then ([], 2) else (secs g.toNat l (pieces l.length), 0)
theorem secs_succ (g : Nat) (l : List UInt8) (k : Nat) : secs g l (k + 1) = secs g l k ++ [secAt g l k] := by simp [secs, List.range_succ]
theorem secs_length (g : Nat) (l : List UInt8) (k : Nat) : (secs g l k).length = k := by simp [secs]

set_option maxRecDepth 100000 in
set_option maxHeartbeats 1000000 in
theorem Split_any (g : Int) (l : List UInt8) (w : World) (hl : l.length ≤ 1000000000000000) :
    Calls Try.prog 85 #[.int .i64 g, .string (bs l)] w fun e w' => ∃ v, e = .returned (.tuple #[v, .int .i64 (splitS g l).2]) ∧
      w'.ownsRow w.heap.size 9 1 v (splitS g l).1.length ((splitS g l).1.map strV) ∧ Below w.heap.size w w' := by
  have hB0 := Below.refl w.heap.size w
  by_cases h1 : g < 1 ∨ 1099511627776 < g
  · have hfin : splitS g l = ([], 1) := by unfold splitS; rw [if_pos h1]
    rw [hfin]
    clear hfin
    rcases h1 with h1 | h1
    · go_enter Try.func85, Try.ntmps85
      go_wp2
      go_ret2
      exact ⟨_, rfl, World.ownsRow_nil _ _ _ _, hB0⟩
    · have h1' : ¬ g < 1 := by omega
      go_enter Try.func85, Try.ntmps85
      go_wp2
      go_ret2
      exact ⟨_, rfl, World.ownsRow_nil _ _ _ _, hB0⟩
  · have g0 : 1 ≤ g := by omega
    have g1 : g ≤ 1099511627776 := by omega
    obtain ⟨n, hn⟩ : ∃ n, n = pieces l.length := ⟨_, rfl⟩
    have hmx : max (((l.length : Int) + 40 - 1) / 40) 1 = (n : Int) := by rw [hn]; unfold pieces; omega
    have hn0 : 1 ≤ n := by rw [hn]; unfold pieces; omega
    by_cases h2 : 1024 < n
    · have hfin : splitS g l = ([], 2) := by unfold splitS; rw [if_neg h1, ← hn, if_pos h2]
      rw [hfin]
      clear hfin hn h1
      go_enter Try.func85, Try.ntmps85
      go_wp2
      go_ret2
      exact ⟨_, rfl, World.ownsRow_nil _ _ _ _, hB0⟩
    · have hn3 : n ≤ 1024 := by omega
      have hfin : splitS g l = (secs g.toNat l n, 0) := by unfold splitS; rw [if_neg h1, ← hn, if_neg h2]
      rw [hfin]
      have hn4 : ∀ k, k < n → k * 40 ≤ l.length := by intro k hk; rw [hn] at hk; unfold pieces at hk; omega
      have HN4 := Lib.hid hn4; clear hn4
      have HN := Lib.hid hn; clear hn
      clear h1 h2 hfin
      go_enter Try.func85, Try.ntmps85
      go_wp2
      clear hmx
      go_loopw [7, 25] (fun v i wr => ∃ k : Nat, k ≤ n ∧ i = .int .i64 k ∧ wr.ownsRow w.heap.size 9 1 v (secs g.toNat l k).length ((secs g.toNat l k).map strV) ∧ Below w.heap.size w wr) (fun _ i _ => n - (intOf i).toNat)
      case atStart => exact ⟨0, Nat.zero_le _, rfl, World.ownsRow_nil _ _ _ _, hB0⟩
      case round =>
        obtain ⟨k, hk, rfl, hown, hbel⟩ := hrel
        by_cases hlt : k < n
        · have hk40 : k * 40 ≤ l.length := HN4.out k hlt
          obtain ⟨m, hm⟩ : ∃ m : Nat, min (((k : Int) + 1) * 40) (l.length : Int) = m := ⟨min ((k + 1) * 40) l.length, by omega⟩
          have hm1 : k * 40 ≤ m := by omega
          have hm2 : m ≤ l.length := by omega
          have hpl : ((l.take m).drop (k * 40)).length ≤ 40 := by rw [List.length_drop, List.length_take]; omega
          have hpe : (l.take m).drop (k * 40) = (l.drop (k * 40)).take 40 := by
            rw [List.drop_take]
            rcases Nat.lt_or_ge l.length ((k + 1) * 40) with h | h
            · rw [List.take_of_length_le (by rw [List.length_drop]; omega), List.take_of_length_le (by rw [List.length_drop]; omega)]
            · rw [show m - k * 40 = 40 by omega]
          have HPE := Lib.hid hpe; clear hpe
          have HPL := Lib.hid hpl; clear hpl
          go_wp2_with (first
            | (go_at_call 93; refine (sealed_any _ _ _ _ _ (by omega) (by omega) (by omega) (by omega) (by omega) (by omega) HPL.out).mono ?_; rintro e w1 ⟨rfl, hb⟩; have hown1 := own_below hown hb; have hbel1 := btrans hbel hbel.size hb)
            | (at_builtin; refine wpList_append_str rfl _ _ rfl w.heap.size _ (secs g.toNat l k) (sealedL g.toNat k n ((l.take m).drop (k * 40))) hown1 rfl rfl (by rw [secs_length]; omega) w hbel1 hbel1.size ?_; intro v2 w2 hown2 hbel2 _))
          rw [HPE.out, HN.out, show sealedL g.toNat k (pieces l.length) ((l.drop (k * 40)).take 40) = secAt g.toNat l k from rfl, ← secs_succ] at hown2
          go_wp2
          go_roundw
          case rel => exact ⟨k + 1, by omega, by go_num, hown2, hbel2⟩
          case measure => simp [intOf]; omega
        · go_wp2
          go_ret2
          obtain rfl : k = n := by omega
          exact ⟨_, rfl, hown, hbel⟩
end Go.Proofs.Ytkpfkknldeafkaa
