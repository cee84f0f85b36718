/- What Write of the reference of layer 44 returns. No conditions but the sizes. -/
import Derived.Test.YtkpfkknldeafkaaDiskRef5
import Derived.Test.YtkpfkknldeafkaaAppend
namespace Go.Proofs.Ytkpfkknldeafkaa
open Go.RowKit

/-- what an operation of the reference returns: a disk somewhere in memory, and an error code -/
def RPost (r : Dk × Int) (w : World) (e : Ending) (w' : World) : Prop :=
  ∃ sa sc pa pc, e = .returned (.tuple #[.agg #[.slice sa r.1.S.length sc, .slice pa r.1.P.length pc, .int .i64 r.1.fuse, .int .i64 r.1.ops, .bool r.1.dead], .int .i64 r.2]) ∧ Lists w' sa sc pa pc r.1 ∧ Below w.heap.size w w'
set_option maxRecDepth 100000 in
theorem CellsAt.of_wr {W : World} {v : Value} {M : List (Int × List UInt8)} (h : WrS W v M) : CellsAt W v M.length (wcs M) := by
  obtain ⟨ad, cap, rfl, hc, hx⟩ := h
  refine ⟨ad, cap, rfl, fun hne => ?_⟩
  obtain ⟨b, off, rfl, hcell⟩ := hx (by intro h0; rw [h0] at hne; exact hne rfl)
  refine ⟨b, off, rfl, fun j y hj => ?_⟩
  obtain ⟨i, hi, hcase⟩ := wcs_at M j y hj
  obtain ⟨p1, p2⟩ := hcell i hi
  rcases hcase with ⟨rfl, rfl⟩ | ⟨rfl, rfl⟩
  · exact p1
  · rw [← Nat.add_assoc]; exact p2
set_option maxRecDepth 100000 in
theorem cellsAt_new (w : World) (n : Int) (data : List UInt8) : CellsAt (w.alloc (.cells #[.int .i64 n, .string (bs data)] 94)) (.slice (some ⟨w.heap.size, 0, none⟩) 1 1) 1 [.int .i64 n, strV data] := by
  refine ⟨_, _, rfl, fun _ => ⟨_, _, rfl, fun j y hj => ?_⟩⟩
  rw [Nat.zero_add]
  have h := (Bx.new w #[.int .i64 n, .string (bs data)] 94).cell j
  rw [h]
  rcases j with _ | _ | j
  · exact hj
  · exact hj
  · simp at hj
theorem own_set2x {B : Nat} {e : TypeId} {k : Nat} {v : Value} {n : Nat} {xs : List Value} {w : World} (h : w.ownsRow B e k v n xs) (b i : Nat) (hb : b < B) (u : Value) : (w.setCell ⟨b, i, none⟩ u).ownsRow B e k v n xs := own_set h b i hb u
theorem write_bad {d : Dk} (n : Int) (data : List UInt8) (h : validB d = false ∨ hasB d n = false ∨ ¬ data.length = 64) : writeS d n data = (d, 1) := by
  unfold writeS; rw [if_neg]; intro h2; rcases h with h | h | h
  · rw [h2.1] at h; cases h
  · rw [h2.2.1] at h; cases h
  · exact h h2.2.2
theorem write_dead {d : Dk} (n : Int) (data : List UInt8) (h : validB d = true) (h2 : hasB d n = true) (h3 : data.length = 64) (h4 : d.dead = true) : writeS d n data = (d, 18) := by
  unfold writeS; rw [if_pos ⟨h, h2, h3⟩, if_pos h4]
theorem write_go {d : Dk} (n : Int) (data : List UInt8) (h : validB d = true) (h2 : hasB d n = true) (h3 : data.length = 64) (h4 : d.dead = false) : writeS d n data = happenS d (addW n data) := by
  unfold writeS; rw [if_pos ⟨h, h2, h3⟩, if_neg (by rw [h4]; decide)]

set_option maxRecDepth 100000 in
set_option maxHeartbeats 4000000 in
theorem RWrite_any (sa pa : Option Addr) (sc pc : Nat) (d : Dk) (n : Int) (data : List UInt8) (w : World) (hD : Lists w sa sc pa pc d) (hp : d.P.length ≤ 8999999999999) :
    Calls Try.prog 63 #[.agg #[.slice sa d.S.length sc, .slice pa d.P.length pc, .int .i64 d.fuse, .int .i64 d.ops, .bool d.dead], .int .i64 n, .string (bs data)] w (RPost (writeS d n data) w) := by
  have hb0 := ((Below.refl w.heap.size w).alloc (Nat.le_refl _) (.cells #[.slice sa d.S.length sc, .slice pa d.P.length pc, .int .i64 d.fuse, .int .i64 d.ops, .bool d.dead] 38)).alloc (by simp) (.cells #[.slice none 0 0, .slice none 0 0, .int .i64 0, .int .i64 0, .bool false] 38)
  have hX : Bx w.heap.size #[.slice sa d.S.length sc, .slice pa d.P.length pc, .int .i64 d.fuse, .int .i64 d.ops, .bool d.dead] 38 ((w.alloc (.cells #[.slice sa d.S.length sc, .slice pa d.P.length pc, .int .i64 d.fuse, .int .i64 d.ops, .bool d.dead] 38)).alloc (.cells #[.slice none 0 0, .slice none 0 0, .int .i64 0, .int .i64 0, .bool false] 38)) := by
    have h := (Bx.new w #[.slice sa d.S.length sc, .slice pa d.P.length pc, .int .i64 d.fuse, .int .i64 d.ops, .bool d.dead] 38)
    have h := h.alloc (.cells #[.slice none 0 0, .slice none 0 0, .int .i64 0, .int .i64 0, .bool false] 38)
    simpa using h
  have HX := Lib.hid hX; clear hX
  have hR : Bx (w.heap.size + 1) #[.slice none 0 0, .slice none 0 0, .int .i64 0, .int .i64 0, .bool false] 38 ((w.alloc (.cells #[.slice sa d.S.length sc, .slice pa d.P.length pc, .int .i64 d.fuse, .int .i64 d.ops, .bool d.dead] 38)).alloc (.cells #[.slice none 0 0, .slice none 0 0, .int .i64 0, .int .i64 0, .bool false] 38)) := by
    have h := (Bx.new (w.alloc (.cells #[.slice sa d.S.length sc, .slice pa d.P.length pc, .int .i64 d.fuse, .int .i64 d.ops, .bool d.dead] 38)) #[.slice none 0 0, .slice none 0 0, .int .i64 0, .int .i64 0, .bool false] 38)
    simpa using h
  have HR := Lib.hid hR; clear hR
  have hD0 := hD.below hb0
  go_enter Try.func63, Try.ntmps63
  go_wp2_with fail
  refine (RValid_any _ _ _ _ _ _ hD0).mono ?_
  cases hv : validB d with
  | false =>
    have HF := Lib.hid (write_bad n data (.inl hv))
    rintro e w1 ⟨rfl, hb1⟩
    have hbl1 := btrans hb0 hb0.size hb1
    have hX := HX.out.call hb1
    have hR := HR.out.call hb1
    clear hv HX HR hb1
    have x0 : w1.cell? ⟨w.heap.size, 0, none⟩ = some (.slice sa d.S.length sc) := hX.cell 0
    have x1 : w1.cell? ⟨w.heap.size, 1, none⟩ = some (.slice pa d.P.length pc) := hX.cell 1
    have x2 : w1.cell? ⟨w.heap.size, 2, none⟩ = some (.int .i64 d.fuse) := hX.cell 2
    have x3 : w1.cell? ⟨w.heap.size, 3, none⟩ = some (.int .i64 d.ops) := hX.cell 3
    have x4 : w1.cell? ⟨w.heap.size, 4, none⟩ = some (.bool d.dead) := hX.cell 4
    have r0 : w1.cell? ⟨w.heap.size + 1, 0, none⟩ = some (.slice none 0 0) := hR.cell 0
    have r1 : w1.cell? ⟨w.heap.size + 1, 1, none⟩ = some (.slice none 0 0) := hR.cell 1
    have r2 : w1.cell? ⟨w.heap.size + 1, 2, none⟩ = some (.int .i64 0) := hR.cell 2
    have r3 : w1.cell? ⟨w.heap.size + 1, 3, none⟩ = some (.int .i64 0) := hR.cell 3
    have r4 : w1.cell? ⟨w.heap.size + 1, 4, none⟩ = some (.bool false) := hR.cell 4
    have g0 := hR.free 0
    have g1 := hR.free 1
    have g2 := hR.free 2
    have g3 := hR.free 3
    have g4 := hR.free 4
    have kk := (hR.sets (.slice sa d.S.length sc) (.slice pa d.P.length pc) (.int .i64 d.fuse) (.int .i64 d.ops) (.bool d.dead))
    have k0 := kk.cell 0
    have k1 := kk.cell 1
    have k2 := kk.cell 2
    have k3 := kk.cell 3
    have k4 := kk.cell 4
    simp only [List.getElem?_toArray, List.getElem?_cons_zero, List.getElem?_cons_succ] at k0 k1 k2 k3 k4
    clear kk
    have HB := Lib.hid hbl1
    clear hX hR
    go_wp2
    refine bodyPost_ret (v := .tuple #[.agg #[.slice sa d.S.length sc, .slice pa d.P.length pc, .int .i64 d.fuse, .int .i64 d.ops, .bool d.dead], .int .i64 1]) (by simp [results, Try.results63, go_sem, k0, k1, k2, k3, k4]) rfl ?_
    rw [HF.out]
    have hBF := below_sets HB.out (w.heap.size + 1) (by omega) (.slice sa d.S.length sc) (.slice pa d.P.length pc) (.int .i64 d.fuse) (.int .i64 d.ops) (.bool d.dead)
    exact ⟨sa, sc, pa, pc, rfl, hD.below hBF, hBF⟩
  | true =>
    rintro e w1 ⟨rfl, hb1⟩
    have hX := HX.out.call hb1; clear HX; have HX := Lib.hid hX; clear hX
    have hR := HR.out.call hb1; clear HR; have HR := Lib.hid hR; clear hR
    have hbl1 := btrans hb0 hb0.size hb1
    have hD1 := hD0.below hb1
    have hX := HX.out
    have x0 : w1.cell? ⟨w.heap.size, 0, none⟩ = some (.slice sa d.S.length sc) := hX.cell 0
    have x1 : w1.cell? ⟨w.heap.size, 1, none⟩ = some (.slice pa d.P.length pc) := hX.cell 1
    have x2 : w1.cell? ⟨w.heap.size, 2, none⟩ = some (.int .i64 d.fuse) := hX.cell 2
    have x3 : w1.cell? ⟨w.heap.size, 3, none⟩ = some (.int .i64 d.ops) := hX.cell 3
    have x4 : w1.cell? ⟨w.heap.size, 4, none⟩ = some (.bool d.dead) := hX.cell 4
    have HV := Lib.hid hv; clear hv hX hb1
    go_wp2_with fail
    refine (Rexists_any _ _ _ _ _ _ _).mono ?_
    cases hh : hasB d n with
    | false =>
      have HF := Lib.hid (write_bad n data (.inr (.inl hh)))
      rintro e w2 ⟨rfl, hb2⟩
      have hbl2 := btrans hbl1 hbl1.size hb2
      have hX := HX.out.call hb2
      have hR := HR.out.call hb2
      clear hh HX HR hb2 x0 x1 x2 x3 x4
      have x0 : w2.cell? ⟨w.heap.size, 0, none⟩ = some (.slice sa d.S.length sc) := hX.cell 0
      have x1 : w2.cell? ⟨w.heap.size, 1, none⟩ = some (.slice pa d.P.length pc) := hX.cell 1
      have x2 : w2.cell? ⟨w.heap.size, 2, none⟩ = some (.int .i64 d.fuse) := hX.cell 2
      have x3 : w2.cell? ⟨w.heap.size, 3, none⟩ = some (.int .i64 d.ops) := hX.cell 3
      have x4 : w2.cell? ⟨w.heap.size, 4, none⟩ = some (.bool d.dead) := hX.cell 4
      have r0 : w2.cell? ⟨w.heap.size + 1, 0, none⟩ = some (.slice none 0 0) := hR.cell 0
      have r1 : w2.cell? ⟨w.heap.size + 1, 1, none⟩ = some (.slice none 0 0) := hR.cell 1
      have r2 : w2.cell? ⟨w.heap.size + 1, 2, none⟩ = some (.int .i64 0) := hR.cell 2
      have r3 : w2.cell? ⟨w.heap.size + 1, 3, none⟩ = some (.int .i64 0) := hR.cell 3
      have r4 : w2.cell? ⟨w.heap.size + 1, 4, none⟩ = some (.bool false) := hR.cell 4
      have g0 := hR.free 0
      have g1 := hR.free 1
      have g2 := hR.free 2
      have g3 := hR.free 3
      have g4 := hR.free 4
      have kk := (hR.sets (.slice sa d.S.length sc) (.slice pa d.P.length pc) (.int .i64 d.fuse) (.int .i64 d.ops) (.bool d.dead))
      have k0 := kk.cell 0
      have k1 := kk.cell 1
      have k2 := kk.cell 2
      have k3 := kk.cell 3
      have k4 := kk.cell 4
      simp only [List.getElem?_toArray, List.getElem?_cons_zero, List.getElem?_cons_succ] at k0 k1 k2 k3 k4
      clear kk
      have HB := Lib.hid hbl2
      clear hX hR
      go_wp2
      refine bodyPost_ret (v := .tuple #[.agg #[.slice sa d.S.length sc, .slice pa d.P.length pc, .int .i64 d.fuse, .int .i64 d.ops, .bool d.dead], .int .i64 1]) (by simp [results, Try.results63, go_sem, k0, k1, k2, k3, k4]) rfl ?_
      rw [HF.out]
      have hBF := below_sets HB.out (w.heap.size + 1) (by omega) (.slice sa d.S.length sc) (.slice pa d.P.length pc) (.int .i64 d.fuse) (.int .i64 d.ops) (.bool d.dead)
      exact ⟨sa, sc, pa, pc, rfl, hD.below hBF, hBF⟩
    | true =>
      rintro e w2 ⟨rfl, hb2⟩
      have hX := HX.out.call hb2; clear HX; have HX := Lib.hid hX; clear hX
      have hR := HR.out.call hb2; clear HR; have HR := Lib.hid hR; clear hR
      have hbl2 := btrans hbl1 hbl1.size hb2
      have hD2 := hD1.below hb2
      have HH := Lib.hid hh
      clear hh hb2 x0 x1 x2 x3 x4
      by_cases h64 : data.length = 64
      · have t1 : ((data.length : Int) != 64) = false := by rw [h64]; rfl
        have H64 := Lib.hid h64; clear h64
        have hX := HX.out
        cases hd : d.dead with
        | true =>
          have HF := Lib.hid (write_dead n data HV.out HH.out H64.out hd)
          have hR := HR.out
          have x0 : w2.cell? ⟨w.heap.size, 0, none⟩ = some (.slice sa d.S.length sc) := hX.cell 0
          have x1 : w2.cell? ⟨w.heap.size, 1, none⟩ = some (.slice pa d.P.length pc) := hX.cell 1
          have x2 : w2.cell? ⟨w.heap.size, 2, none⟩ = some (.int .i64 d.fuse) := hX.cell 2
          have x3 : w2.cell? ⟨w.heap.size, 3, none⟩ = some (.int .i64 d.ops) := hX.cell 3
          have x4 : w2.cell? ⟨w.heap.size, 4, none⟩ = some (.bool d.dead) := hX.cell 4
          have r0 : w2.cell? ⟨w.heap.size + 1, 0, none⟩ = some (.slice none 0 0) := hR.cell 0
          have r1 : w2.cell? ⟨w.heap.size + 1, 1, none⟩ = some (.slice none 0 0) := hR.cell 1
          have r2 : w2.cell? ⟨w.heap.size + 1, 2, none⟩ = some (.int .i64 0) := hR.cell 2
          have r3 : w2.cell? ⟨w.heap.size + 1, 3, none⟩ = some (.int .i64 0) := hR.cell 3
          have r4 : w2.cell? ⟨w.heap.size + 1, 4, none⟩ = some (.bool false) := hR.cell 4
          have g0 := hR.free 0
          have g1 := hR.free 1
          have g2 := hR.free 2
          have g3 := hR.free 3
          have g4 := hR.free 4
          have kk := (hR.sets (.slice sa d.S.length sc) (.slice pa d.P.length pc) (.int .i64 d.fuse) (.int .i64 d.ops) (.bool true))
          have k0 := kk.cell 0
          have k1 := kk.cell 1
          have k2 := kk.cell 2
          have k3 := kk.cell 3
          have k4 := kk.cell 4
          simp only [List.getElem?_toArray, List.getElem?_cons_zero, List.getElem?_cons_succ] at k0 k1 k2 k3 k4
          clear kk
          have HB := Lib.hid hbl2
          have HDD := Lib.hid hd
          rw [hd] at x4
          clear hX hR hd HX HR
          go_wp2
          refine bodyPost_ret (v := .tuple #[.agg #[.slice sa d.S.length sc, .slice pa d.P.length pc, .int .i64 d.fuse, .int .i64 d.ops, .bool true], .int .i64 18]) (by simp [results, Try.results63, go_sem, k0, k1, k2, k3, k4]) rfl ?_
          rw [HF.out]
          have hBF := below_sets HB.out (w.heap.size + 1) (by omega) (.slice sa d.S.length sc) (.slice pa d.P.length pc) (.int .i64 d.fuse) (.int .i64 d.ops) (.bool true)
          exact ⟨sa, sc, pa, pc, by rw [HDD.out], hD.below hBF, hBF⟩
        | false =>
          have HG := Lib.hid (write_go n data HV.out HH.out H64.out hd)
          obtain ⟨hn, _, _⟩ := (validB_iff d).1 HV.out
          obtain ⟨n1, n2, n3, n4, n5, n6⟩ := (numsB_iff d).1 hn
          have x0 : w2.cell? ⟨w.heap.size, 0, none⟩ = some (.slice sa d.S.length sc) := hX.cell 0
          have x1 : w2.cell? ⟨w.heap.size, 1, none⟩ = some (.slice pa d.P.length pc) := hX.cell 1
          have x2 : w2.cell? ⟨w.heap.size, 2, none⟩ = some (.int .i64 d.fuse) := hX.cell 2
          have x3 : w2.cell? ⟨w.heap.size, 3, none⟩ = some (.int .i64 d.ops) := hX.cell 3
          have x4 : w2.cell? ⟨w.heap.size, 4, none⟩ = some (.bool false) := by rw [← hd]; exact hX.cell 4
          have HDD := Lib.hid hd
          clear hd hn hX
          go_wp2_with fail
          rw [show (.bool false : Value) = .bool d.dead by rw [HDD.out]]
          by_cases h1 : d.fuse = 1
          · have HQ := Lib.hid (happen_id_blown h1)
            have HF := Lib.hid (show writeS d n data = ({ d with ops := min (d.ops + 1) 1099511627776, fuse := 0, dead := true }, 18) by rw [HG.out]; unfold happenS; rw [if_pos h1])
            clear h1
            refine (Roper_any _ _ _ _ _ _ n3 n4 n5 n6).mono ?_
            rw [HQ.out]
            rintro e w3 ⟨rfl, hb3⟩
            have hbl3 := btrans hbl2 hbl2.size hb3
            have hR := HR.out.call hb3
            clear x0 x1 x2 x3 x4 hb3 HR
            have r0 : w3.cell? ⟨w.heap.size + 1, 0, none⟩ = some (.slice none 0 0) := hR.cell 0
            have r1 : w3.cell? ⟨w.heap.size + 1, 1, none⟩ = some (.slice none 0 0) := hR.cell 1
            have r2 : w3.cell? ⟨w.heap.size + 1, 2, none⟩ = some (.int .i64 0) := hR.cell 2
            have r3 : w3.cell? ⟨w.heap.size + 1, 3, none⟩ = some (.int .i64 0) := hR.cell 3
            have r4 : w3.cell? ⟨w.heap.size + 1, 4, none⟩ = some (.bool false) := hR.cell 4
            have g0 := hR.free 0
            have g1 := hR.free 1
            have g2 := hR.free 2
            have g3 := hR.free 3
            have g4 := hR.free 4
            have kk := (hR.sets (.slice sa d.S.length sc) (.slice pa d.P.length pc) (.int .i64 0) (.int .i64 (min (d.ops + 1) 1099511627776)) (.bool true)).alloc (.cells #[.slice sa d.S.length sc, .slice pa d.P.length pc, .int .i64 0, .int .i64 (min (d.ops + 1) 1099511627776), .bool true] 38)
            have k0 := kk.cell 0
            have k1 := kk.cell 1
            have k2 := kk.cell 2
            have k3 := kk.cell 3
            have k4 := kk.cell 4
            simp only [List.getElem?_toArray, List.getElem?_cons_zero, List.getElem?_cons_succ] at k0 k1 k2 k3 k4
            clear kk
            have hz : w.heap.size + 1 < w3.heap.size := hR.lt
            have HB := Lib.hid hbl3
            clear hR
            go_wp2
            refine bodyPost_ret (v := .tuple #[.agg #[.slice sa d.S.length sc, .slice pa d.P.length pc, .int .i64 0, .int .i64 (min (d.ops + 1) 1099511627776), .bool true], .int .i64 18]) (by simp [results, Try.results63, go_sem, k0, k1, k2, k3, k4]) rfl ?_
            rw [HF.out]
            have hBF := (below_sets HB.out (w.heap.size + 1) (by omega) (.slice sa d.S.length sc) (.slice pa d.P.length pc) (.int .i64 0) (.int .i64 (min (d.ops + 1) 1099511627776)) (.bool true)).alloc (by simp; omega) (.cells #[.slice sa d.S.length sc, .slice pa d.P.length pc, .int .i64 0, .int .i64 (min (d.ops + 1) 1099511627776), .bool true] 38)
            exact ⟨sa, sc, pa, pc, rfl, hD.below hBF, hBF⟩
          · have HQ := Lib.hid (happen_id_go h1)
            have HF := Lib.hid (show writeS d n data = (addW n data { d with ops := min (d.ops + 1) 1099511627776, fuse := max (d.fuse - 1) 0 }, 0) by rw [HG.out]; unfold happenS; rw [if_neg h1])
            clear h1
            refine (Roper_any _ _ _ _ _ _ n3 n4 n5 n6).mono ?_
            rw [HQ.out]
            rintro e w3 ⟨rfl, hb3⟩
            have hbl3 := btrans hbl2 hbl2.size hb3
            have hR := HR.out.call hb3
            have hX := HX.out.call hb3
            have hD3 := hD2.below hb3
            have hXn := hX.alloc (.cells #[.slice sa d.S.length sc, .slice pa d.P.length pc, .int .i64 (max (d.fuse - 1) 0), .int .i64 (min (d.ops + 1) 1099511627776), .bool d.dead] 38)
            clear x0 x1 x2 x3 x4 hb3 HR
            have x0 : (w3.alloc (.cells #[.slice sa d.S.length sc, .slice pa d.P.length pc, .int .i64 (max (d.fuse - 1) 0), .int .i64 (min (d.ops + 1) 1099511627776), .bool d.dead] 38)).cell? ⟨w.heap.size, 0, none⟩ = some (.slice sa d.S.length sc) := hXn.cell 0
            have x1 : (w3.alloc (.cells #[.slice sa d.S.length sc, .slice pa d.P.length pc, .int .i64 (max (d.fuse - 1) 0), .int .i64 (min (d.ops + 1) 1099511627776), .bool d.dead] 38)).cell? ⟨w.heap.size, 1, none⟩ = some (.slice pa d.P.length pc) := hXn.cell 1
            have x2 : (w3.alloc (.cells #[.slice sa d.S.length sc, .slice pa d.P.length pc, .int .i64 (max (d.fuse - 1) 0), .int .i64 (min (d.ops + 1) 1099511627776), .bool d.dead] 38)).cell? ⟨w.heap.size, 2, none⟩ = some (.int .i64 d.fuse) := hXn.cell 2
            have x3 : (w3.alloc (.cells #[.slice sa d.S.length sc, .slice pa d.P.length pc, .int .i64 (max (d.fuse - 1) 0), .int .i64 (min (d.ops + 1) 1099511627776), .bool d.dead] 38)).cell? ⟨w.heap.size, 3, none⟩ = some (.int .i64 d.ops) := hXn.cell 3
            have x4 : (w3.alloc (.cells #[.slice sa d.S.length sc, .slice pa d.P.length pc, .int .i64 (max (d.fuse - 1) 0), .int .i64 (min (d.ops + 1) 1099511627776), .bool d.dead] 38)).cell? ⟨w.heap.size, 4, none⟩ = some (.bool d.dead) := hXn.cell 4
            obtain ⟨i0, hi, hz0, hz1, hz2⟩ := info_parts infoWrite
            have hC := CellsAt.of_wr (hD3.below ((Below.refl _ _).alloc (Nat.le_refl _) (.cells #[.slice sa d.S.length sc, .slice pa d.P.length pc, .int .i64 (max (d.fuse - 1) 0), .int .i64 (min (d.ops + 1) 1099511627776), .bool d.dead] 38))).2.1
            have HC := Lib.hid hC; clear hC
            have hbn := hbl3.alloc hbl3.size (.cells #[.slice sa d.S.length sc, .slice pa d.P.length pc, .int .i64 (max (d.fuse - 1) 0), .int .i64 (min (d.ops + 1) 1099511627776), .bool d.dead] 38)
            have hszR : w.heap.size + 1 < w3.heap.size := hR.lt
            have hRn := hR.alloc (.cells #[.slice sa d.S.length sc, .slice pa d.P.length pc, .int .i64 (max (d.fuse - 1) 0), .int .i64 (min (d.ops + 1) 1099511627776), .bool d.dead] 38)
            have hNn := Bx.new w3 #[.slice sa d.S.length sc, .slice pa d.P.length pc, .int .i64 (max (d.fuse - 1) 0), .int .i64 (min (d.ops + 1) 1099511627776), .bool d.dead] 38
            have HRN := Lib.hid hRn; have HNN := Lib.hid hNn; have HX3 := Lib.hid hX; clear hRn hNn hR hX hXn
            go_wp2_with (at_builtin; refine wpList_append_any rfl _ _ 36 rfl (w3.heap.size + 1) 94 i0 (.agg #[.int .i64 0, .string ⟨#[]⟩]) 2 24 Try.underlying36 hi hz0 hz1 hz2 rfl (by decide) (.slice none 0 0) (.slice pa d.P.length pc) 0 d.P.length [] (wcs d.P) rfl (World.ownsRow_nil _ _ _ _) rfl HC.out (wcs_length _) (wcs_one _) (by unfold maxLen; omega) (by omega) w w.heap.size hbn (by simp) (by omega) ?_)
            intro v4 w4 hown4 hb4 hgrow4
            (try simp only [Nat.zero_add, List.nil_append] at hown4)
            have hR4 := grownBy_bx hgrow4 HRN.out (by simp [Value.ownBlock])
            have hN4 := grownBy_bx hgrow4 HNN.out (by simp [Value.ownBlock])
            have hsz4 : w3.heap.size + 1 ≤ w4.heap.size := hN4.lt
            have hne1 : some (w.heap.size + 1) ≠ v4.ownBlock := by intro e; have := (hown4.lt _ e.symm).1; omega
            have hne2 : some w3.heap.size ≠ v4.ownBlock := by intro e; have := (hown4.lt _ e.symm).1; omega
            have HO4 := Lib.hid hown4; have HR4 := Lib.hid hR4; have HN4 := Lib.hid hN4; have HB4 := Lib.hid hb4; have HE1 := Lib.hid hne1; have HE2 := Lib.hid hne2
            clear hown4 hR4 hN4 hb4 hgrow4 hne1 hne2 x0 x1 x2 x3 x4
            go_wp2_with (at_builtin; refine wpList_append_any rfl _ _ 36 rfl (w3.heap.size + 1) 94 i0 (.agg #[.int .i64 0, .string ⟨#[]⟩]) 2 24 Try.underlying36 hi hz0 hz1 hz2 rfl (by decide) v4 (.slice (some ⟨w4.heap.size, 0, none⟩) 1 1) d.P.length 1 (wcs d.P) [.int .i64 n, strV data] rfl (HO4.out.alloc _) rfl (cellsAt_new w4 n data) rfl (by intro u hu; simp at hu; rcases hu with rfl | rfl <;> rfl) (by unfold maxLen; omega) (by omega) w w.heap.size (HB4.out.alloc HB4.out.size _) (by simp; omega) (by omega) ?_)
            intro v5 w5 hown5 hb5 hgrow5
            obtain ⟨a5, c5, rfl⟩ := own_slice hown5
            have hR5 := grownBy_bx hgrow5 (HR4.out.alloc _) HE1.out
            have hN5 := grownBy_bx hgrow5 (HN4.out.alloc _) HE2.out
            have hN6 := hN5.set 1 (.slice a5 (d.P.length + 1) c5)
            have hR6 := hR5.other (i := 1) (c := w3.heap.size) (by omega) (.slice a5 (d.P.length + 1) c5)
            have hsz5 : w3.heap.size < w5.heap.size := hN5.lt
            have fx := hN5.free 1
            have y1 : w5.cell? ⟨w3.heap.size, 1, none⟩ = some (.slice pa d.P.length pc) := hN5.cell 1
            have x0 : (w5.setCell ⟨w3.heap.size, 1, none⟩ (.slice a5 (d.P.length + 1) c5)).cell? ⟨w3.heap.size, 0, none⟩ = some (.slice sa d.S.length sc) := hN6.cell 0
            have x1 : (w5.setCell ⟨w3.heap.size, 1, none⟩ (.slice a5 (d.P.length + 1) c5)).cell? ⟨w3.heap.size, 1, none⟩ = some (.slice a5 (d.P.length + 1) c5) := hN6.cell 1
            have x2 : (w5.setCell ⟨w3.heap.size, 1, none⟩ (.slice a5 (d.P.length + 1) c5)).cell? ⟨w3.heap.size, 2, none⟩ = some (.int .i64 (max (d.fuse - 1) 0)) := hN6.cell 2
            have x3 : (w5.setCell ⟨w3.heap.size, 1, none⟩ (.slice a5 (d.P.length + 1) c5)).cell? ⟨w3.heap.size, 3, none⟩ = some (.int .i64 (min (d.ops + 1) 1099511627776)) := hN6.cell 3
            have x4 : (w5.setCell ⟨w3.heap.size, 1, none⟩ (.slice a5 (d.P.length + 1) c5)).cell? ⟨w3.heap.size, 4, none⟩ = some (.bool d.dead) := hN6.cell 4
            have r0 : (w5.setCell ⟨w3.heap.size, 1, none⟩ (.slice a5 (d.P.length + 1) c5)).cell? ⟨w.heap.size + 1, 0, none⟩ = some (.slice none 0 0) := hR6.cell 0
            have r1 : (w5.setCell ⟨w3.heap.size, 1, none⟩ (.slice a5 (d.P.length + 1) c5)).cell? ⟨w.heap.size + 1, 1, none⟩ = some (.slice none 0 0) := hR6.cell 1
            have r2 : (w5.setCell ⟨w3.heap.size, 1, none⟩ (.slice a5 (d.P.length + 1) c5)).cell? ⟨w.heap.size + 1, 2, none⟩ = some (.int .i64 0) := hR6.cell 2
            have r3 : (w5.setCell ⟨w3.heap.size, 1, none⟩ (.slice a5 (d.P.length + 1) c5)).cell? ⟨w.heap.size + 1, 3, none⟩ = some (.int .i64 0) := hR6.cell 3
            have r4 : (w5.setCell ⟨w3.heap.size, 1, none⟩ (.slice a5 (d.P.length + 1) c5)).cell? ⟨w.heap.size + 1, 4, none⟩ = some (.bool false) := hR6.cell 4
            have g0 := hR6.free 0
            have g1 := hR6.free 1
            have g2 := hR6.free 2
            have g3 := hR6.free 3
            have g4 := hR6.free 4
            have HO5 := Lib.hid hown5; have HB5 := Lib.hid hb5; have HR5 := Lib.hid hR5; clear hown5 hb5 hgrow5 hR5 hN5 hN6 hR6
            go_wp2
            have KK := Lib.hid ((HR5.out.other (i := 1) (c := w3.heap.size) (by omega) (.slice a5 (d.P.length + 1) c5)).sets (.slice sa d.S.length sc) (.slice a5 (d.P.length + 1) c5) (.int .i64 (max (d.fuse - 1) 0)) (.int .i64 (min (d.ops + 1) 1099511627776)) (.bool d.dead))
            have k0 := KK.out.cell 0
            have k1 := KK.out.cell 1
            have k2 := KK.out.cell 2
            have k3 := KK.out.cell 3
            have k4 := KK.out.cell 4
            simp only [List.getElem?_toArray, List.getElem?_cons_zero, List.getElem?_cons_succ] at k0 k1 k2 k3 k4
            refine bodyPost_ret (v := .tuple #[.agg #[.slice sa d.S.length sc, .slice a5 (d.P.length + 1) c5, .int .i64 (max (d.fuse - 1) 0), .int .i64 (min (d.ops + 1) 1099511627776), .bool d.dead], .int .i64 0]) (by simp [results, Try.results63, go_sem, k0, k1, k2, k3, k4]) rfl ?_
            rw [HF.out]
            have hBF := below_sets (below_set HB5.out w3.heap.size 1 (by have := hbl3.size; omega) (.slice a5 (d.P.length + 1) c5)) (w.heap.size + 1) (by omega) (.slice sa d.S.length sc) (.slice a5 (d.P.length + 1) c5) (.int .i64 (max (d.fuse - 1) 0)) (.int .i64 (min (d.ops + 1) 1099511627776)) (.bool d.dead)
            refine ⟨sa, sc, a5, c5, by simp [addW], ⟨(hD.below hBF).1, ?_, by simp [addW]; omega, (hD.below hBF).2.2.2⟩, hBF⟩
            have hW := own_set2x (own_set2x (own_set2x (own_set2x (own_set2x (own_set2x HO5.out w3.heap.size 1 (by omega) (.slice a5 (d.P.length + 1) c5)) (w.heap.size + 1) 0 (by omega) (.slice sa d.S.length sc)) (w.heap.size + 1) 1 (by omega) (.slice a5 (d.P.length + 1) c5)) (w.heap.size + 1) 2 (by omega) (.int .i64 (max (d.fuse - 1) 0))) (w.heap.size + 1) 3 (by omega) (.int .i64 (min (d.ops + 1) 1099511627776))) (w.heap.size + 1) 4 (by omega) (.bool d.dead)
            refine WrS.of_own (B := w3.heap.size + 1) ?_
            rw [show (addW n data { d with ops := min (d.ops + 1) 1099511627776, fuse := max (d.fuse - 1) 0 }).P = d.P ++ [(n, data)] from rfl, wcs_append, List.length_append]
            exact hW
      · have t1 : ((data.length : Int) != 64) = true := by rw [bne_iff_ne]; omega
        have HF := Lib.hid (write_bad (d := d) n data (.inr (.inr h64)))
        have hX := HX.out
        have hR := HR.out
        clear h64 HX HR
        have x0 : w2.cell? ⟨w.heap.size, 0, none⟩ = some (.slice sa d.S.length sc) := hX.cell 0
        have x1 : w2.cell? ⟨w.heap.size, 1, none⟩ = some (.slice pa d.P.length pc) := hX.cell 1
        have x2 : w2.cell? ⟨w.heap.size, 2, none⟩ = some (.int .i64 d.fuse) := hX.cell 2
        have x3 : w2.cell? ⟨w.heap.size, 3, none⟩ = some (.int .i64 d.ops) := hX.cell 3
        have x4 : w2.cell? ⟨w.heap.size, 4, none⟩ = some (.bool d.dead) := hX.cell 4
        have r0 : w2.cell? ⟨w.heap.size + 1, 0, none⟩ = some (.slice none 0 0) := hR.cell 0
        have r1 : w2.cell? ⟨w.heap.size + 1, 1, none⟩ = some (.slice none 0 0) := hR.cell 1
        have r2 : w2.cell? ⟨w.heap.size + 1, 2, none⟩ = some (.int .i64 0) := hR.cell 2
        have r3 : w2.cell? ⟨w.heap.size + 1, 3, none⟩ = some (.int .i64 0) := hR.cell 3
        have r4 : w2.cell? ⟨w.heap.size + 1, 4, none⟩ = some (.bool false) := hR.cell 4
        have g0 := hR.free 0
        have g1 := hR.free 1
        have g2 := hR.free 2
        have g3 := hR.free 3
        have g4 := hR.free 4
        have kk := (hR.sets (.slice sa d.S.length sc) (.slice pa d.P.length pc) (.int .i64 d.fuse) (.int .i64 d.ops) (.bool d.dead))
        have k0 := kk.cell 0
        have k1 := kk.cell 1
        have k2 := kk.cell 2
        have k3 := kk.cell 3
        have k4 := kk.cell 4
        simp only [List.getElem?_toArray, List.getElem?_cons_zero, List.getElem?_cons_succ] at k0 k1 k2 k3 k4
        clear kk
        have HB := Lib.hid hbl2
        clear hX hR
        go_wp2
        refine bodyPost_ret (v := .tuple #[.agg #[.slice sa d.S.length sc, .slice pa d.P.length pc, .int .i64 d.fuse, .int .i64 d.ops, .bool d.dead], .int .i64 1]) (by simp [results, Try.results63, go_sem, k0, k1, k2, k3, k4]) rfl ?_
        rw [HF.out]
        have hBF := below_sets HB.out (w.heap.size + 1) (by omega) (.slice sa d.S.length sc) (.slice pa d.P.length pc) (.int .i64 d.fuse) (.int .i64 d.ops) (.bool d.dead)
        exact ⟨sa, sc, pa, pc, rfl, hD.below hBF, hBF⟩
end Go.Proofs.Ytkpfkknldeafkaa
