/- What Fuse and Read of the reference of layer 44 return. No conditions but the sizes. -/
import Derived.Test.YtkpfkknldeafkaaDiskRef2
namespace Go.Proofs.Ytkpfkknldeafkaa
open Go.RowKit

theorem rfuse_on {d : Dk} (n : Int) (h : validB d = true) : (fuseS d n).fuse = max 0 (min 1099511627776 n) := by rw [fuse_on n h]; simp only; omega
theorem rfuse_off {d : Dk} (n : Int) (h : validB d = false) : (fuseS d n).fuse = d.fuse := by rw [fuse_off n h]

set_option maxRecDepth 100000 in
set_option maxHeartbeats 4000000 in
theorem RRead_any (sa pa : Option Addr) (sc pc : Nat) (d : Dk) (n : Int) (w : World) (hD : Lists w sa sc pa pc d) :
    Calls Try.prog 32 #[.agg #[.slice sa d.S.length sc, .slice pa d.P.length pc, .int .i64 d.fuse, .int .i64 d.ops, .bool d.dead], .int .i64 n] w fun e w' => e = .returned (.tuple #[.string (bs (readS d n).1), .int .i64 (readS d n).2]) ∧ Below w.heap.size w w' := by
  have hb0 := (Below.refl w.heap.size w).alloc (Nat.le_refl _) (.cells #[.slice sa d.S.length sc, .slice pa d.P.length pc, .int .i64 d.fuse, .int .i64 d.ops, .bool d.dead] 38)
  have hX : Bx w.heap.size #[.slice sa d.S.length sc, .slice pa d.P.length pc, .int .i64 d.fuse, .int .i64 d.ops, .bool d.dead] 38 (w.alloc (.cells #[.slice sa d.S.length sc, .slice pa d.P.length pc, .int .i64 d.fuse, .int .i64 d.ops, .bool d.dead] 38)) := by
    have h := (Bx.new w #[.slice sa d.S.length sc, .slice pa d.P.length pc, .int .i64 d.fuse, .int .i64 d.ops, .bool d.dead] 38)
    simpa using h
  have HX := Lib.hid hX; clear hX
  have hD0 := hD.below hb0
  go_enter Try.func32, Try.ntmps32
  go_wp2_with fail
  refine (RValid_any _ _ _ _ _ _ hD0).mono ?_
  cases hv : validB d with
  | false =>
    have HF := Lib.hid (read_bad n (.inl hv))
    rintro e w1 ⟨rfl, hb1⟩
    have hbl1 := btrans hb0 hb0.size hb1
    clear hv
    go_wp2_with fail
    go_ret2
    exact ⟨by rw [HF.out]; rfl, hbl1⟩
  | true =>
    rintro e w1 ⟨rfl, hb1⟩
    have hX := HX.out.call hb1; clear HX; have HX := Lib.hid hX; clear hX
    have hbl1 := btrans hb0 hb0.size hb1
    have hD1 := hD0.below hb1
    have hX := HX.out
    have x0 : w1.cell? ⟨w.heap.size, 0, none⟩ = some (.slice sa d.S.length sc) := hX.cell 0
    have x1 : w1.cell? ⟨w.heap.size, 1, none⟩ = some (.slice pa d.P.length pc) := hX.cell 1
    have x2 : w1.cell? ⟨w.heap.size, 2, none⟩ = some (.int .i64 d.fuse) := hX.cell 2
    have x3 : w1.cell? ⟨w.heap.size, 3, none⟩ = some (.int .i64 d.ops) := hX.cell 3
    have x4 : w1.cell? ⟨w.heap.size, 4, none⟩ = some (.bool d.dead) := hX.cell 4
    have HV := Lib.hid hv; clear hv hX hb1
    go_wp2_with fail
    refine (Rexists_any _ _ _ _ _ _ _).mono ?_
    cases hh : hasB d n with
    | false =>
      have HF := Lib.hid (read_bad n (.inr hh))
      rintro e w2 ⟨rfl, hb2⟩
      have hbl2 := btrans hbl1 hbl1.size hb2
      clear hh
      go_wp2_with fail
      go_ret2
      exact ⟨by rw [HF.out]; rfl, hbl2⟩
    | true =>
      rintro e w2 ⟨rfl, hb2⟩
      have hX := HX.out.call hb2; clear HX; have HX := Lib.hid hX; clear hX
      have hbl2 := btrans hbl1 hbl1.size hb2
      have hD2 := hD1.below hb2
      clear x0 x1 x2 x3 x4 hb2 hD1 hD0 hb0 hbl1
      obtain ⟨m, hm, rfl⟩ : ∃ m : Nat, m < d.S.length ∧ n = m := by
        unfold hasB at hh; simp at hh; exact ⟨n.toNat, by omega, by omega⟩
      obtain ⟨b, off, rfl, hsc, c1⟩ := hD2.sec m hm
      have hX := HX.out
      have x0 : w2.cell? ⟨w.heap.size, 0, none⟩ = some (.slice (some ⟨b, off, none⟩) d.S.length sc) := hX.cell 0
      have x1 : w2.cell? ⟨w.heap.size, 1, none⟩ = some (.slice pa d.P.length pc) := hX.cell 1
      have x2 : w2.cell? ⟨w.heap.size, 2, none⟩ = some (.int .i64 d.fuse) := hX.cell 2
      have x3 : w2.cell? ⟨w.heap.size, 3, none⟩ = some (.int .i64 d.ops) := hX.cell 3
      have x4 : w2.cell? ⟨w.heap.size, 4, none⟩ = some (.bool d.dead) := hX.cell 4
      have HH := Lib.hid hh; clear hh hX
      have hm1 : (m : Int) < (d.S.length : Int) := by omega
      cases hd : d.dead with
      | true =>
        have HF := Lib.hid (read_dead m HV.out HH.out hd)
        rw [hd] at x4
        clear hd
        go_wp2_with fail
        go_ret2
        exact ⟨by rw [HF.out]; rfl, hbl2⟩
      | false =>
        have HF := Lib.hid (read_ok m hm HV.out HH.out hd)
        rw [hd] at x4
        have hX2 : Bx w.heap.size #[.slice (some ⟨b, off, none⟩) d.S.length sc, .slice pa d.P.length pc, .int .i64 d.fuse, .int .i64 d.ops, .bool d.dead] 38 w2 := HX.out
        clear hd
        have hPl := hD.2.2.1
        go_wp2
        go_loopw [6, 7] (fun s i wr => ∃ (k : Nat) (l : List UInt8), k ≤ d.P.length ∧ i = .int .i64 k ∧ s = .string (bs l) ∧ Hid (l = lastW d.S[m] (d.P.take k) m) ∧ Bx w.heap.size #[.slice (some ⟨b, off, none⟩) d.S.length sc, .slice pa d.P.length pc, .int .i64 d.fuse, .int .i64 d.ops, .bool d.dead] 38 wr ∧ Below w.heap.size w wr) (fun _ i _ => d.P.length - (intOf i).toNat)
        case atStart => exact ⟨0, _, Nat.zero_le _, rfl, rfl, Lib.hid rfl, hX2, hbl2⟩
        case round =>
          obtain ⟨j, l, hj, rfl, rfl, HL, hXr, hb3⟩ := hrel
          clear x0 x1 x2 x3 x4 hX2
          have x0 : wr.cell? ⟨w.heap.size, 0, none⟩ = some (.slice (some ⟨b, off, none⟩) d.S.length sc) := hXr.cell 0
          have x1 : wr.cell? ⟨w.heap.size, 1, none⟩ = some (.slice pa d.P.length pc) := hXr.cell 1
          have x2 : wr.cell? ⟨w.heap.size, 2, none⟩ = some (.int .i64 d.fuse) := hXr.cell 2
          have x3 : wr.cell? ⟨w.heap.size, 3, none⟩ = some (.int .i64 d.ops) := hXr.cell 3
          have x4 : wr.cell? ⟨w.heap.size, 4, none⟩ = some (.bool d.dead) := hXr.cell 4
          by_cases hlt : j < d.P.length
          · obtain ⟨b2, off2, h2, p1, p2⟩ := (hD.below (hb3.mono (Nat.le_refl _))).pen j hlt
            rw [h2] at x1
            have hlt' : (j : Int) < (d.P.length : Int) := by omega
            obtain ⟨x, hx⟩ : ∃ x, d.P[j] = x := ⟨_, rfl⟩
            rw [hx] at p1 p2
            by_cases he : x.1 = (m : Int)
            · have t1 : (x.1 == (m : Int)) = true := by rw [he]; exact beq_self_eq_true _
              have HL2 : Hid (x.2 = lastW d.S[m] (d.P.take (j + 1)) m) := Lib.hid (by rw [List.take_succ_eq_append_getElem hlt, hx, lastW_snoc, if_pos he])
              clear he hx
              go_wp2
              go_roundw
              case rel => exact ⟨j + 1, _, by omega, by go_num, rfl, HL2, hXr, hb3⟩
              case measure => simp [intOf]; omega
            · have t1 : (x.1 == (m : Int)) = false := by rw [beq_eq_false_iff_ne]; exact he
              have HL2 : Hid (l = lastW d.S[m] (d.P.take (j + 1)) m) := Lib.hid (by rw [List.take_succ_eq_append_getElem hlt, hx, lastW_snoc, if_neg he]; exact HL.out)
              clear he hx
              go_wp2
              go_roundw
              case rel => exact ⟨j + 1, _, by omega, by go_num, rfl, HL2, hXr, hb3⟩
              case measure => simp [intOf]; omega
          · obtain rfl : j = d.P.length := by omega
            have HL2 : Hid (l = lastW d.S[m] d.P m) := Lib.hid (by rw [HL.out, List.take_length])
            clear hlt HL
            go_wp2
            go_ret2
            exact ⟨by rw [HF.out, HL2.out]; rfl, hb3⟩
end Go.Proofs.Ytkpfkknldeafkaa
