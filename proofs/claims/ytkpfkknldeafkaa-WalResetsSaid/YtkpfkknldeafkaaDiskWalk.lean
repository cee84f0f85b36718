/- What Valid, has, Read and clone of layer 44 (disk) return. No conditions but the sizes. -/
import Derived.Test.YtkpfkknldeafkaaDiskP
namespace Go.Proofs.Ytkpfkknldeafkaa
open Go.RowKit

/-- the two lists of a disk, as slices in memory -/
def Lists (W : World) (sa : Option Addr) (sc : Nat) (pa : Option Addr) (pc : Nat) (d : Dk) : Prop :=
  StrS W (.slice sa d.S.length sc) d.S ∧ WrS W (.slice pa d.P.length pc) d.P ∧ d.P.length ≤ 9000000000000 ∧ d.S.length ≤ 9000000000000
theorem Lists.below {W W' : World} {sa pa : Option Addr} {sc pc : Nat} {d : Dk} (h : Lists W sa sc pa pc d) (hb : Below W.heap.size W W') : Lists W' sa sc pa pc d := ⟨h.1.below hb, h.2.1.below hb, h.2.2⟩
theorem Lists.sec {W : World} {sa pa : Option Addr} {sc pc : Nat} {d : Dk} (h : Lists W sa sc pa pc d) (k : Nat) (hk : k < d.S.length) : ∃ b off, sa = some ⟨b, off, none⟩ ∧ d.S.length ≤ sc ∧ W.cell? ⟨b, off + k, none⟩ = some (.string (bs d.S[k])) := by
  obtain ⟨a, cap, he, hc, hx⟩ := h.1
  cases he
  obtain ⟨b, off, ha, hcell⟩ := hx (by intro h0; rw [h0] at hk; simp at hk)
  exact ⟨b, off, ha, hc, hcell k hk⟩
theorem Lists.pen {W : World} {sa pa : Option Addr} {sc pc : Nat} {d : Dk} (h : Lists W sa sc pa pc d) (k : Nat) (hk : k < d.P.length) : ∃ b off, pa = some ⟨b, off, none⟩ ∧ W.cell? ⟨b, off + k * 2, none⟩ = some (.int .i64 d.P[k].1) ∧ W.cell? ⟨b, off + k * 2 + 1, none⟩ = some (.string (bs d.P[k].2)) := by
  obtain ⟨a, cap, he, hc, hx⟩ := h.2.1
  cases he
  obtain ⟨b, off, ha, hcell⟩ := hx (by intro h0; rw [h0] at hk; simp at hk)
  exact ⟨b, off, ha, hcell k hk⟩

set_option maxRecDepth 100000 in
set_option maxHeartbeats 400000 in
theorem has_any (sa pa : Option Addr) (sc pc : Nat) (d : Dk) (n : Int) (w : World) :
    Calls Try.prog 99 #[.agg #[.slice sa d.S.length sc, .slice pa d.P.length pc, .int .i64 d.fuse, .int .i64 d.ops, .bool d.dead], .int .i64 n] w fun e w' => e = .returned (.bool (hasB d n)) ∧ Below w.heap.size w w' := by
  have hb := (Below.refl w.heap.size w).alloc (Nat.le_refl _) (.cells #[.slice sa d.S.length sc, .slice pa d.P.length pc, .int .i64 d.fuse, .int .i64 d.ops, .bool d.dead] 38)
  by_cases h0 : 0 ≤ n
  · by_cases h1 : n < (d.S.length : Int)
    · have HF := Lib.hid (show hasB d n = true by unfold hasB; simp [h0, h1])
      go_enter Try.func99, Try.ntmps99
      go_wp2
      go_ret
      exact ⟨by rw [HF.out]; rfl, hb⟩
    · have HF := Lib.hid (show hasB d n = false by unfold hasB; simp [h1])
      go_enter Try.func99, Try.ntmps99
      go_wp2
      go_ret
      exact ⟨by rw [HF.out]; rfl, hb⟩
  · have HF := Lib.hid (show hasB d n = false by unfold hasB; simp [h0])
    go_enter Try.func99, Try.ntmps99
    go_wp2
    go_ret
    exact ⟨by rw [HF.out]; rfl, hb⟩

set_option maxRecDepth 100000 in
set_option maxHeartbeats 4000000 in
theorem Valid_any (sa pa : Option Addr) (sc pc : Nat) (d : Dk) (w : World) (hD : Lists w sa sc pa pc d) :
    Calls Try.prog 69 #[.agg #[.slice sa d.S.length sc, .slice pa d.P.length pc, .int .i64 d.fuse, .int .i64 d.ops, .bool d.dead]] w fun e w' => e = .returned (.bool (validB d)) ∧ Below w.heap.size w w' := by
  have hb := (Below.refl w.heap.size w).alloc (Nat.le_refl _) (.cells #[.slice sa d.S.length sc, .slice pa d.P.length pc, .int .i64 d.fuse, .int .i64 d.ops, .bool d.dead] 38)
  cases hn : numsB d with
  | false =>
    have HF := Lib.hid (numsB_no d hn)
    have hno : ¬ (16 ≤ d.S.length ∧ d.S.length ≤ 1024 ∧ 0 ≤ d.fuse ∧ d.fuse ≤ 1099511627776 ∧ 0 ≤ d.ops ∧ d.ops ≤ 1099511627776) := by
      intro h; rw [(numsB_iff d).2 h] at hn; cases hn
    clear hn
    by_cases g0 : d.S.length < 16
    · clear hno
      go_enter Try.func69, Try.ntmps69
      go_wp2
      go_ret
      exact ⟨by rw [HF.out]; rfl, hb⟩
    · skip
      by_cases g1 : 1024 < d.S.length
      · clear hno
        go_enter Try.func69, Try.ntmps69
        go_wp2
        go_ret
        exact ⟨by rw [HF.out]; rfl, hb⟩
      · skip
        by_cases g2 : d.fuse < 0
        · clear hno
          go_enter Try.func69, Try.ntmps69
          go_wp2
          go_ret
          exact ⟨by rw [HF.out]; rfl, hb⟩
        · skip
          by_cases g3 : 1099511627776 < d.fuse
          · clear hno
            go_enter Try.func69, Try.ntmps69
            go_wp2
            go_ret
            exact ⟨by rw [HF.out]; rfl, hb⟩
          · skip
            by_cases g4 : d.ops < 0
            · clear hno
              go_enter Try.func69, Try.ntmps69
              go_wp2
              go_ret
              exact ⟨by rw [HF.out]; rfl, hb⟩
            · skip
              have g5 : 1099511627776 < d.ops := by omega
              clear hno
              go_enter Try.func69, Try.ntmps69
              go_wp2
              go_ret
              exact ⟨by rw [HF.out]; rfl, hb⟩
  | true =>
    obtain ⟨n1, n2, n3, n4, n5, n6⟩ := (numsB_iff d).1 hn
    have HN := Lib.hid hn
    have hPl := hD.2.2.1
    have hB0 := Bx.new w #[.slice sa d.S.length sc, .slice pa d.P.length pc, .int .i64 d.fuse, .int .i64 d.ops, .bool d.dead] 38
    clear hn
    go_enter Try.func69, Try.ntmps69
    go_wp2
    go_loopw [40] (fun i wr => ∃ k : Nat, k ≤ d.S.length ∧ i = .int .i64 k ∧ Hid ((d.S.take k).all len64 = true) ∧ Bx w.heap.size #[.slice sa d.S.length sc, .slice pa d.P.length pc, .int .i64 d.fuse, .int .i64 d.ops, .bool d.dead] 38 wr ∧ Below w.heap.size w wr) (fun i _ => d.S.length - (intOf i).toNat)
    case atStart => exact ⟨0, Nat.zero_le _, rfl, Lib.hid rfl, hB0, hb⟩
    case round =>
      obtain ⟨k, hk, rfl, HA, hB, hbw⟩ := hrel
      clear hB0 hb
      by_cases hlt : k < d.S.length
      · obtain ⟨b, off, rfl, hsc, c1⟩ := (hD.below (hbw.mono (Nat.le_refl _))).sec k hlt
        have hlt' : (k : Int) < (d.S.length : Int) := by omega
        by_cases h64 : d.S[k].length = 64
        · have t1 : ((d.S[k].length : Int) != 64) = false := by rw [h64]; rfl
          have HA2 : Hid ((d.S.take (k + 1)).all len64 = true) := Lib.hid (by
            rw [List.take_succ_eq_append_getElem hlt, List.all_append, HA.out]
            simp [(len64_iff _).2 h64])
          have H64 := Lib.hid h64; clear h64
          go_wp2
          go_roundw
          case rel => exact ⟨k + 1, by omega, by go_num, HA2, hB, hbw⟩
          case measure => simp [intOf]; omega
        · have t1 : ((d.S[k].length : Int) != 64) = true := by rw [bne_iff_ne]; omega
          have HF := Lib.hid (valid_sec k hlt h64)
          clear h64
          go_wp2
          go_ret
          exact ⟨by rw [HF.out]; rfl, hbw⟩
      · obtain rfl : k = d.S.length := by omega
        have a1 : wr.cell? ⟨w.heap.size, 1, none⟩ = some (.slice pa d.P.length pc) := hB.cell 1
        clear hlt
        go_wp2
        go_loopw [51] (fun i wr2 => ∃ k : Nat, k ≤ d.P.length ∧ i = .int .i64 k ∧ Hid ((d.P.take k).all (okW d.S.length) = true) ∧ Below w.heap.size w wr2) (fun i _ => d.P.length - (intOf i).toNat)
        case atStart => exact ⟨0, Nat.zero_le _, rfl, Lib.hid rfl, hbw⟩
        case round =>
          obtain ⟨j, hj, rfl, HP, hb2⟩ := hrel
          by_cases hlt : j < d.P.length
          · obtain ⟨b, off, rfl, c1, c2⟩ := (hD.below (hb2.mono (Nat.le_refl _))).pen j hlt
            have hlt' : (j : Int) < (d.P.length : Int) := by omega
            obtain ⟨x, hx⟩ : ∃ x, d.P[j] = x := ⟨_, rfl⟩
            rw [hx] at c1 c2
            have hb3 := hb2.alloc hb2.size (.cells #[.int .i64 x.1, .string (bs x.2)] 94)
            by_cases hok : 0 ≤ x.1 ∧ x.1 < (d.S.length : Int) ∧ x.2.length = 64
            · obtain ⟨k1, k2, k3⟩ := hok
              have t1 : ((x.2.length : Int) != 64) = false := by rw [k3]; rfl
              have HP2 : Hid ((d.P.take (j + 1)).all (okW d.S.length) = true) := Lib.hid (by
                rw [List.take_succ_eq_append_getElem hlt, List.all_append, HP.out, hx]
                simp [(okW_iff _ _).2 ⟨k1, k2, k3⟩])
              have HX := Lib.hid hx; clear hx
              have HK := Lib.hid k3; clear k3
              go_wp2
              go_roundw
              case rel => exact ⟨j + 1, by omega, by go_num, HP2, hb3⟩
              case measure => simp [intOf]; omega
            · have HF := Lib.hid (valid_pen j hlt (by rw [hx]; exact hok))
              have HX := Lib.hid hx; clear hx
              by_cases k1 : x.1 < 0
              · clear hok
                go_wp2
                go_ret
                exact ⟨by rw [HF.out]; rfl, hb3⟩
              · by_cases k2 : (d.S.length : Int) ≤ x.1
                · clear hok
                  go_wp2
                  go_ret
                  exact ⟨by rw [HF.out]; rfl, hb3⟩
                · have t1 : ((x.2.length : Int) != 64) = true := by rw [bne_iff_ne]; omega
                  clear hok
                  go_wp2
                  go_ret
                  exact ⟨by rw [HF.out]; rfl, hb3⟩
          · obtain rfl : j = d.P.length := by omega
            have HF := Lib.hid (valid_all HN.out HA.out HP.out)
            clear hlt
            go_wp2
            go_ret
            exact ⟨by rw [HF.out]; rfl, hb2⟩
end Go.Proofs.Ytkpfkknldeafkaa
