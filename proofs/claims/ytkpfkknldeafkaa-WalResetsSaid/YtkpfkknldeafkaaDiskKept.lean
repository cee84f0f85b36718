/- The iterator of the indices of the pending writes that a crash keeps (layer 44). No conditions but the sizes. -/
import Derived.RangeFuncNested
import Derived.RangeFuncBound
import Derived.RangeFuncCalls
import Derived.RangeFuncLeaves
import Derived.Shelf.Abstract
import Derived.Shelf.RegionOpen
import Derived.OwnWalkIn
import Derived.TacticsInMore
import Derived.LoopNIn
import Derived.LoopIn
import Derived.Test.YtkpfkknldeafkaaDiskNew
namespace Go.Proofs.Ytkpfkknldeafkaa
open Go.RowKit Go.Shelf
attribute [local go_sem] Oper.semAt_some

/-- the kept ones among the first k indices -/
def kf (K : Nat) (kb : List Bool) (k : Nat) : List (Fin K) := ((List.finRange K).take k).filter (fun i => kb[i.1]?.getD false)
theorem kf_zero (K : Nat) (kb : List Bool) : kf K kb 0 = [] := rfl
set_option maxRecDepth 100000 in
theorem kf_step (K : Nat) (kb : List Bool) (k : Nat) (h : k < K) : kf K kb (k + 1) = kf K kb k ++ (if kb[k]?.getD false = true then [⟨k, h⟩] else []) := by
  unfold kf
  rw [List.take_succ_eq_append_getElem (by simpa using h), List.filter_append, List.getElem_finRange]
  congr 1
  cases hk : kb[k]?.getD false with
  | true => rw [if_pos rfl, List.filter_cons_of_pos (by exact hk)]; rfl
  | false => rw [if_neg (by decide), List.filter_cons_of_neg (by show ¬ kb[k]?.getD false = true; rw [hk]; decide)]; rfl
theorem kf_yes (K : Nat) (kb : List Bool) (k : Nat) (h : k < K) (hk : k < kb.length) (ht : kb[k] = true) : kf K kb (k + 1) = kf K kb k ++ [⟨k, h⟩] := by
  rw [kf_step K kb k h, if_pos (by rw [List.getElem?_eq_getElem hk, ht]; rfl)]
theorem kf_no (K : Nat) (kb : List Bool) (k : Nat) (h : k < K) (hk : ∀ h2 : k < kb.length, kb[k] = false) : kf K kb (k + 1) = kf K kb k := by
  rw [kf_step K kb k h, if_neg, List.append_nil]
  intro h3
  rcases Nat.lt_or_ge k kb.length with h4 | h4
  · rw [List.getElem?_eq_getElem h4, hk h4] at h3; cases h3
  · rw [List.getElem?_eq_none h4] at h3; cases h3
theorem kf_length (K : Nat) (kb : List Bool) (k : Nat) : (kf K kb k).length ≤ k := by
  unfold kf
  exact Nat.le_trans (List.length_filter_le _ _) (by simp; omega)

/-- v is a slice whose elements are the truth values kb, in blocks below n₀ -/
def BoS (n₀ : Nat) (W : World) (v : Value) (kb : List Bool) : Prop :=
  ∃ a cap, v = .slice a kb.length cap ∧ kb.length ≤ cap ∧ (kb ≠ [] → ∃ b off, a = some ⟨b, off, none⟩ ∧ b < n₀ ∧ ∀ i (h : i < kb.length), W.cell? ⟨b, off + i, none⟩ = some (.bool kb[i]))
theorem BoS.below {n₀ : Nat} {W W' : World} {v : Value} {kb : List Bool} (h : BoS n₀ W v kb) (hb : Below n₀ W W') : BoS n₀ W' v kb := by
  obtain ⟨a, cap, rfl, hc, hx⟩ := h
  refine ⟨a, cap, rfl, hc, fun hne => ?_⟩
  obtain ⟨b, off, rfl, hlt, hcell⟩ := hx hne
  exact ⟨b, off, rfl, hlt, fun i hi => (hb.cell (p := ⟨b, off + i, none⟩) hlt).trans (hcell i hi)⟩
/-- what a round keeps: whatever lies below n₀, and two boxes -/
def KpC (n₀ b1 b2 : Nat) (W W' : World) : Prop := Below n₀ W W' ∧ W'.heap[b1]? = W.heap[b1]? ∧ W'.heap[b2]? = W.heap[b2]?
theorem KpC.refl (n₀ b1 b2 : Nat) (W : World) : KpC n₀ b1 b2 W W := ⟨Below.refl _ _, rfl, rfl⟩
theorem KpC.trans {n₀ b1 b2 : Nat} {A B C : World} (h : KpC n₀ b1 b2 A B) (k : KpC n₀ b1 b2 B C) : KpC n₀ b1 b2 A C := ⟨h.1.trans k.1, k.2.1.trans h.2.1, k.2.2.trans h.2.2⟩

set_option maxRecDepth 100000 in
set_option maxHeartbeats 2000000 in
theorem kept1_in (F : Fence) (n : Nat) (h72 : F.fn 107) (hro : F.round = none) (hn : 1 ≤ n) (l Bd Bk n₀ K : Nat) (hK : K ≤ 9000000000000) (kb : List Bool) (pa ka : Option Addr) (pc kc : Nat) (J Jx : List (Fin K) → World → Prop)
    (hY : ∀ (pre : List (Fin K)) (x : Fin K) (W : World), J pre W → pre.length < K → YieldAt F (n - 1) Try.prog l #[.int .i64 (x.1 : Int)] W fun e W' =>
      (e = .returned (.bool true) ∧ J (pre ++ [x]) W' ∧ KpC n₀ Bd Bk W W') ∨ (e = .returned (.bool false) ∧ Jx (pre ++ [x]) W'))
    (W : World) (hBd : W.cell? ⟨Bd, 1, none⟩ = some (.slice pa K pc)) (hBk : Bx Bk #[.slice ka kb.length kc] 50 W) (hS : BoS n₀ W (.slice ka kb.length kc) kb) (h0 : J [] W) :
    CallsIn F n Try.prog 107 #[.func (.yield l) #[] #[], .pointer (some ⟨Bd, 0, none⟩), .pointer (some ⟨Bk, 0, none⟩)] W fun e W' => (∃ v, e = .returned v) ∧
      ((∃ ys, ys = kf K kb K ∧ J ys W') ∨ (∃ pre, (∃ k, k ≤ K ∧ pre = kf K kb k) ∧ Jx pre W')) := by
  refine callsIn_of_wp Try.func107 rfl h72 ?_ hro
  simp only [Try.ntmps107, List.size_toArray, List.length_cons, List.length_nil, Nat.reduceAdd, Nat.reduceSub, Array.replicate_succ, Array.replicate_zero, List.push_toArray, List.append_toArray, List.nil_append, List.cons_append]
  gi_wp2
  gi_loopw [8] (fun i wr => ∃ k : Nat, k ≤ K ∧ i = .int .i64 k ∧ J (kf K kb k) wr ∧ KpC n₀ Bd Bk W wr) (fun i _ => K - (intOf i).toNat)
  case atStart => exact ⟨0, Nat.zero_le _, rfl, h0, KpC.refl _ _ _ _⟩
  case round =>
    obtain ⟨k, hk, rfl, hJs, hnx⟩ := hrel
    have hBk2 : Bx Bk #[.slice ka kb.length kc] 50 wr := hnx.2.2.trans hBk
    have kc0 : wr.cell? ⟨Bk, 0, none⟩ = some (.slice ka kb.length kc) := hBk2.cell 0
    by_cases hlt : k < K
    · have hlt' : (k : Int) < (K : Int) := by omega
      by_cases hkk : k < kb.length
      · have hkk' : (k : Int) < (kb.length : Int) := by omega
        obtain ⟨a2, cap2, he, hc2, hx⟩ := hS.below hnx.1
        cases he
        obtain ⟨b, off, rfl, hb, hcell⟩ := hx (by intro h; rw [h] at hkk; simp at hkk)
        have c0 := hcell k hkk
        clear hx hcell
        cases hkb : kb[k] with
        | true =>
          rw [hkb] at c0
          obtain ⟨fn, tmps, assign, body, hy, hR⟩ := hY _ ⟨k, hlt⟩ wr hJs (Nat.lt_of_le_of_lt (kf_length _ _ _) hlt)
          dsimp only at hy
          have HE := Lib.hid (kf_yes K kb k hlt hkk hkb)
          clear hkb
          gi_wp2
          refine hR.mono ?_
          rintro e W3 (⟨rfl, hJ3, hk3⟩ | ⟨rfl, hJx3⟩)
          · gi_wp2
            go_roundw
            case rel => exact ⟨k + 1, by omega, by simp, by rw [HE.out]; exact hJ3, hnx.trans hk3⟩
            case measure => simp [intOf]; omega
          · gi_wp2
            refine bodyPost_ret (results_none rfl _ _ _) rfl ?_
            exact ⟨⟨_, rfl⟩, .inr ⟨_, ⟨k + 1, by omega, HE.out.symm⟩, hJx3⟩⟩
        | false =>
          rw [hkb] at c0
          have HE := Lib.hid (kf_no K kb k hlt (fun _ => hkb))
          clear hkb
          gi_wp2
          refine ⟨fun _ h => (by cases h), ?_⟩
          gi_wp2
          go_roundw
          case rel => exact ⟨k + 1, by omega, by simp, by rw [HE.out]; exact hJs, hnx⟩
          case measure => simp [intOf]; omega
      · have HE := Lib.hid (kf_no K kb k hlt (fun h => absurd h hkk))
        have hkk' : (kb.length : Int) ≤ (k : Int) := by omega
        gi_wp2
        refine ⟨fun _ h => (by cases h), ?_⟩
        gi_wp2
        go_roundw
        case rel => exact ⟨k + 1, by omega, by simp, by rw [HE.out]; exact hJs, hnx⟩
        case measure => simp [intOf]; omega
    · obtain rfl : k = K := by omega
      clear hlt
      gi_wp2
      go_end0
      exact ⟨⟨_, rfl⟩, .inl ⟨_, rfl, hJs⟩⟩

theorem kept_stops (F : Fence) (n : Nat) (h72 : F.fn 107) (hro : F.round = none) (hn : 1 ≤ n) (Bd Bk n₀ K : Nat) (hK : K ≤ 9000000000000) (kb : List Bool) (pa ka : Option Addr) (pc kc : Nat) (w : World) (hBdl : Bd < w.heap.size) (hBkl : Bk < w.heap.size) (hn₀ : n₀ ≤ w.heap.size)
    (hBd : w.cell? ⟨Bd, 1, none⟩ = some (.slice pa K pc)) (hBk : Bx Bk #[.slice ka kb.length kc] 50 w) (hS : BoS n₀ w (.slice ka kb.length kc) kb) :
    SeqStopsK F n Try.prog 107 #[.pointer (some ⟨Bd, 0, none⟩), .pointer (some ⟨Bk, 0, none⟩)] (fun x : Fin K => #[Value.int .i64 (x.1 : Int)]) (KpC n₀ Bd Bk) (fun ys => ys = kf K kb K) (fun pre => ∃ k, k ≤ K ∧ pre = kf K kb k) K w := fun l J Jx W hW _ _ hY h0 =>
  kept1_in F n h72 hro hn l Bd Bk n₀ K hK kb pa ka pc kc J Jx hY W ((hW.cell (p := ⟨Bd, 1, none⟩) hBdl).trans hBd) ((hW.block _ hBkl).trans hBk) (hS.below (hW.mono hn₀)) h0

set_option maxRecDepth 100000 in
set_option maxHeartbeats 1000000 in
theorem kept_any (sa pa ka : Option Addr) (sc pc n kc : Nat) (d : Dk) (w : World) :
    Calls Try.prog 70 #[.agg #[.slice sa d.S.length sc, .slice pa d.P.length pc, .int .i64 d.fuse, .int .i64 d.ops, .bool d.dead], .slice ka n kc] w fun e w' => e = .returned (.func (.func 107) #[] #[.pointer (some ⟨w.heap.size, 0, none⟩), .pointer (some ⟨w.heap.size + 1, 0, none⟩)]) ∧
      (w.alloc (.cells #[.slice sa d.S.length sc, .slice pa d.P.length pc, .int .i64 d.fuse, .int .i64 d.ops, .bool d.dead] 38)).alloc (.cells #[.slice ka n kc] 50) = w' := by
  go_enter Try.func70, Try.ntmps70
  go_wp2
  go_ret
  exact ⟨rfl, rfl⟩
end Go.Proofs.Ytkpfkknldeafkaa
