/- What the reference's Seal, Pieces, Split and Few (layer 45) return. No conditions but the numbers' own ranges. -/
import Derived.Test.YtkpfkknldeafkaaSecRef2
namespace Go.Proofs.Ytkpfkknldeafkaa
open Go.RowKit

set_option maxRecDepth 100000 in
set_option maxHeartbeats 400000 in
theorem R45Seal_any (g p q : Int) (l : List UInt8) (w : World) (hl : l.length ≤ 9223372036854775807) :
    Calls Try.prog 54 #[.agg #[.int .i64 g, .int .i64 p, .int .i64 q], .string (bs l)] w fun e w' => e = .returned (.tuple #[.string (bs (sealS g p q l).1), .int .i64 (sealS g p q l).2]) ∧ Below w.heap.size w w' := by
  have hB0 : Below w.heap.size w (w.alloc (.cells #[.int .i64 g, .int .i64 p, .int .i64 q] 87)) := (Below.refl _ _).alloc (Nat.le_refl _) _
  cases hs : stampB g p q with
  | false =>
    have hfin : sealS g p q l = ([], 1) := by unfold sealS; rw [hs]; rfl
    rw [hfin]
    have HS := Lib.hid hs; clear hs hfin
    go_enter Try.func54, Try.ntmps54
    go_wp2_with fail
    refine (RValidStamp_any _ _ _ _).mono ?_
    rw [HS.out]
    rintro e w1 ⟨rfl, hb⟩
    go_wp2
    go_ret2
    exact ⟨rfl, btrans hB0 hB0.size hb⟩
  | true =>
    have HS := Lib.hid hs; clear hs
    obtain ⟨g0, g1, p0, p1, q0, q1⟩ := stamp_bounds HS.out
    by_cases h40 : l.length ≤ 40
    · have hfin : sealS g p q l = (sealedL g.toNat p.toNat q.toNat l, 0) := by unfold sealS; rw [HS.out, if_pos h40]; rfl
      rw [hfin]
      clear hfin
      go_enter Try.func54, Try.ntmps54
      go_wp2_with fail
      refine (RValidStamp_any _ _ _ _).mono ?_
      rw [HS.out]
      rintro e w1 ⟨rfl, hb⟩
      have hB1 := btrans hB0 hB0.size hb
      have c0 := (bcell hb).1 w.heap.size 0 (by simp)
      have c1 := (bcell hb).1 w.heap.size 1 (by simp)
      have c2 := (bcell hb).1 w.heap.size 2 (by simp)
      rw [cell_box] at c0 c1 c2
      clear hb hB0
      go_wp2_with fail
      refine (Rsealed_any _ _ _ _ _ g0 g1 p0 p1 q0 q1 h40).mono ?_
      rintro e w2 ⟨rfl, hb2⟩
      go_wp2
      go_ret2
      exact ⟨rfl, btrans hB1 hB1.size hb2⟩
    · have hfin : sealS g p q l = ([], 2) := by unfold sealS; rw [HS.out, if_neg h40]; rfl
      rw [hfin]
      clear hfin
      go_enter Try.func54, Try.ntmps54
      go_wp2_with fail
      refine (RValidStamp_any _ _ _ _).mono ?_
      rw [HS.out]
      rintro e w1 ⟨rfl, hb⟩
      go_wp2
      go_ret2
      exact ⟨rfl, btrans hB0 hB0.size hb⟩

set_option maxRecDepth 100000 in
set_option maxHeartbeats 400000 in
theorem RPieces_any (n : Int) (w : World) (n0 : 0 ≤ n) (n1 : n ≤ 1000000000000000) :
    Calls Try.prog 111 #[.int .i64 n] w fun e w' => e = .returned (.int .i64 (pieces n.toNat : Nat)) ∧ w = w' := by
  have hp : max 1 ((n + 40 - 1) / 40) = ((pieces n.toNat : Nat) : Int) := by unfold pieces; omega
  go_enter Try.func111, Try.ntmps111
  go_wp2
  go_ret
  exact ⟨rfl, rfl⟩
set_option maxRecDepth 100000 in
set_option maxHeartbeats 1000000 in
theorem RSplit_any (g : Int) (l : List UInt8) (w : World) (hl : l.length ≤ 1000000000000000) :
    Calls Try.prog 89 #[.int .i64 g, .string (bs l)] w fun e w' => ∃ v, e = .returned (.tuple #[v, .int .i64 (splitS g l).2]) ∧
      w'.ownsRow w.heap.size 9 1 v (splitS g l).1.length ((splitS g l).1.map strV) ∧ Below w.heap.size w w' := by
  have hB0 := Below.refl w.heap.size w
  by_cases h1 : g < 1 ∨ 1099511627776 < g
  · have hfin : splitS g l = ([], 1) := by unfold splitS; rw [if_pos h1]
    rw [hfin]
    clear hfin
    rcases h1 with h1 | h1
    · go_enter Try.func89, Try.ntmps89
      go_wp2
      go_ret2
      exact ⟨_, rfl, World.ownsRow_nil _ _ _ _, hB0⟩
    · have h1' : ¬ g < 1 := by omega
      go_enter Try.func89, Try.ntmps89
      go_wp2
      go_ret2
      exact ⟨_, rfl, World.ownsRow_nil _ _ _ _, hB0⟩
  · have g0 : 1 ≤ g := by omega
    have g1 : g ≤ 1099511627776 := by omega
    obtain ⟨n, hn⟩ : ∃ n, n = pieces l.length := ⟨_, rfl⟩
    have hmx : ((pieces l.length : Nat) : Int) = (n : Int) := by rw [hn]
    have hn0 : 1 ≤ n := by rw [hn]; unfold pieces; omega
    by_cases h2 : 1024 < n
    · have hfin : splitS g l = ([], 2) := by unfold splitS; rw [if_neg h1, ← hn, if_pos h2]
      rw [hfin]
      clear hfin hn h1
      go_enter Try.func89, Try.ntmps89
      go_wp2_with (go_at_call 111; refine (RPieces_any _ _ (by omega) (by omega)).mono ?_; rintro e w' ⟨rfl, rfl⟩)
      go_ret2
      exact ⟨_, rfl, World.ownsRow_nil _ _ _ _, hB0⟩
    · have hn3 : n ≤ 1024 := by omega
      have hfin : splitS g l = (secs g.toNat l n, 0) := by unfold splitS; rw [if_neg h1, ← hn, if_neg h2]
      rw [hfin]
      have hn4 : ∀ k, k < n → k * 40 ≤ l.length := by intro k hk; rw [hn] at hk; unfold pieces at hk; omega
      have HN4 := Lib.hid hn4; clear hn4
      have HN := Lib.hid hn; clear hn
      clear h1 h2 hfin
      go_enter Try.func89, Try.ntmps89
      go_wp2_with (go_at_call 111; refine (RPieces_any _ _ (by omega) (by omega)).mono ?_; rintro e w' ⟨rfl, rfl⟩)
      clear hmx
      go_loopw [7, 8] (fun v i wr => ∃ k : Nat, k ≤ n ∧ i = .int .i64 k ∧ wr.ownsRow w.heap.size 9 1 v (secs g.toNat l k).length ((secs g.toNat l k).map strV) ∧ Below w.heap.size w wr) (fun _ i _ => n - (intOf i).toNat)
      case atStart => exact ⟨0, Nat.zero_le _, rfl, World.ownsRow_nil _ _ _ _, hB0⟩
      case round =>
        obtain ⟨k, hk, rfl, hown, hbel⟩ := hrel
        by_cases hlt : k < n
        · have hk40 : k * 40 ≤ l.length := HN4.out k hlt
          obtain ⟨m, hm⟩ : ∃ m : Nat, min (l.length : Int) ((k : Int) * 40 + 40) = m := ⟨min ((k + 1) * 40) l.length, by omega⟩
          have hm1 : k * 40 ≤ m := by omega
          have hm2 : m ≤ l.length := by omega
          have hpl : ((l.take m).drop (k * 40)).length ≤ 40 := by rw [List.length_drop, List.length_take]; omega
          have hpe : (l.take m).drop (k * 40) = (l.drop (k * 40)).take 40 := by
            rw [List.drop_take]
            rcases Nat.lt_or_ge l.length ((k + 1) * 40) with h | h
            · rw [List.take_of_length_le (by rw [List.length_drop]; omega), List.take_of_length_le (by rw [List.length_drop]; omega)]
            · rw [show m - k * 40 = 40 by omega]
          have HPE := Lib.hid hpe; clear hpe
          have HPL := Lib.hid hpl; clear hpl
          go_wp2_with (first
            | (go_at_call 95; refine (Rsealed_any _ _ _ _ _ (by omega) (by omega) (by omega) (by omega) (by omega) (by omega) HPL.out).mono ?_; rintro e w1 ⟨rfl, hb⟩; have hown1 := own_below hown hb; have hbel1 := btrans hbel hbel.size hb)
            | (at_builtin; refine wpList_append_str rfl _ _ rfl w.heap.size _ (secs g.toNat l k) (sealedL g.toNat k n ((l.take m).drop (k * 40))) hown1 rfl rfl (by rw [secs_length]; omega) w hbel1 hbel1.size ?_; intro v2 w2 hown2 hbel2 _))
          rw [HPE.out, HN.out, show sealedL g.toNat k (pieces l.length) ((l.drop (k * 40)).take 40) = secAt g.toNat l k from rfl, ← secs_succ] at hown2
          go_wp2
          go_roundw
          case rel => exact ⟨k + 1, by omega, by go_num, hown2, hbel2⟩
          case measure => simp [intOf]; omega
        · go_wp2
          go_ret2
          obtain rfl : k = n := by omega
          exact ⟨_, rfl, hown, hbel⟩

def FewPost (L : List (List UInt8)) (w : World) (e : Ending) (w' : World) : Prop := ∃ b, e = .returned (.bool b) ∧ (b = true → L.length ≤ 12 ∧ ∀ s ∈ L, s.length ≤ 100) ∧ w = w'
end Go.Proofs.Ytkpfkknldeafkaa
