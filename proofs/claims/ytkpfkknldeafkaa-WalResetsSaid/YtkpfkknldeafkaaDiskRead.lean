/- What Fuse and Read of layer 44 (disk) return. No conditions but the sizes. -/
import Derived.Test.YtkpfkknldeafkaaDiskOps
namespace Go.Proofs.Ytkpfkknldeafkaa
open Go.RowKit
theorem fuse_off {d : Dk} (n : Int) (h : validB d = false) : fuseS d n = d := by unfold fuseS; rw [h]; rfl
theorem fuse_on {d : Dk} (n : Int) (h : validB d = true) : fuseS d n = { d with fuse := min (max n 0) 1099511627776 } := by unfold fuseS; rw [h]; rfl
theorem read_bad {d : Dk} (n : Int) (h : validB d = false ∨ hasB d n = false) : readS d n = ([], 1) := by
  unfold readS; rw [if_neg]; intro h2; rcases h with h | h
  · rw [h2.1] at h; cases h
  · rw [h2.2] at h; cases h
theorem read_dead {d : Dk} (n : Int) (h : validB d = true) (h2 : hasB d n = true) (h3 : d.dead = true) : readS d n = ([], 18) := by
  unfold readS; rw [if_pos ⟨h, h2⟩, if_pos h3]
theorem read_ok {d : Dk} (m : Nat) (hm : m < d.S.length) (h : validB d = true) (h2 : hasB d m = true) (h3 : d.dead = false) : readS d m = (lastW d.S[m] d.P m, 0) := by
  unfold readS; rw [if_pos ⟨h, h2⟩, if_neg (by rw [h3]; decide)]
  rw [Int.toNat_natCast, List.getD_eq_getElem?_getD, List.getElem?_eq_getElem hm]; rfl

set_option maxRecDepth 100000 in
set_option maxHeartbeats 4000000 in
theorem Fuse_any (sa pa : Option Addr) (sc pc : Nat) (d : Dk) (n : Int) (w : World) (hD : Lists w sa sc pa pc d) :
    Calls Try.prog 33 #[.agg #[.slice sa d.S.length sc, .slice pa d.P.length pc, .int .i64 d.fuse, .int .i64 d.ops, .bool d.dead], .int .i64 n] w (ClonePost (fuseS d n) w) := by
  have hb0 := ((Below.refl w.heap.size w).alloc (Nat.le_refl _) (.cells #[.slice sa d.S.length sc, .slice pa d.P.length pc, .int .i64 d.fuse, .int .i64 d.ops, .bool d.dead] 38)).alloc (by simp) (.cells #[.slice none 0 0, .slice none 0 0, .int .i64 0, .int .i64 0, .bool false] 38)
  have hX : Bx w.heap.size #[.slice sa d.S.length sc, .slice pa d.P.length pc, .int .i64 d.fuse, .int .i64 d.ops, .bool d.dead] 38 ((w.alloc (.cells #[.slice sa d.S.length sc, .slice pa d.P.length pc, .int .i64 d.fuse, .int .i64 d.ops, .bool d.dead] 38)).alloc (.cells #[.slice none 0 0, .slice none 0 0, .int .i64 0, .int .i64 0, .bool false] 38)) := by
    have h := (Bx.new w #[.slice sa d.S.length sc, .slice pa d.P.length pc, .int .i64 d.fuse, .int .i64 d.ops, .bool d.dead] 38)
    have h := h.alloc (.cells #[.slice none 0 0, .slice none 0 0, .int .i64 0, .int .i64 0, .bool false] 38)
    simpa using h
  have HX := Lib.hid hX; clear hX
  have hR : Bx (w.heap.size + 1) #[.slice none 0 0, .slice none 0 0, .int .i64 0, .int .i64 0, .bool false] 38 ((w.alloc (.cells #[.slice sa d.S.length sc, .slice pa d.P.length pc, .int .i64 d.fuse, .int .i64 d.ops, .bool d.dead] 38)).alloc (.cells #[.slice none 0 0, .slice none 0 0, .int .i64 0, .int .i64 0, .bool false] 38)) := by
    have h := (Bx.new (w.alloc (.cells #[.slice sa d.S.length sc, .slice pa d.P.length pc, .int .i64 d.fuse, .int .i64 d.ops, .bool d.dead] 38)) #[.slice none 0 0, .slice none 0 0, .int .i64 0, .int .i64 0, .bool false] 38)
    simpa using h
  have HR := Lib.hid hR; clear hR
  have hD0 := hD.below hb0
  go_enter Try.func33, Try.ntmps33
  go_wp2_with fail
  refine (clone_any _ _ _ _ _ _ hD0).mono ?_
  rintro e w1 ⟨a1, c1, a2, c2, rfl, hO, hb1⟩
  have hX := HX.out.call hb1; clear HX; have HX := Lib.hid hX; clear hX
  have hR := HR.out.call hb1; clear HR; have HR := Lib.hid hR; clear hR
  have hbl1 := btrans hb0 hb0.size hb1
  have hbl2 := hbl1.alloc hbl1.size (.cells #[.slice a1 d.S.length c1, .slice a2 d.P.length c2, .int .i64 d.fuse, .int .i64 d.ops, .bool d.dead] 38)
  have hX := HX.out.alloc (.cells #[.slice a1 d.S.length c1, .slice a2 d.P.length c2, .int .i64 d.fuse, .int .i64 d.ops, .bool d.dead] 38)
  have hY := Bx.new w1 #[.slice a1 d.S.length c1, .slice a2 d.P.length c2, .int .i64 d.fuse, .int .i64 d.ops, .bool d.dead] 38
  have hR := HR.out.alloc (.cells #[.slice a1 d.S.length c1, .slice a2 d.P.length c2, .int .i64 d.fuse, .int .i64 d.ops, .bool d.dead] 38)
  have hO1 := hO.alloc (.cells #[.slice a1 d.S.length c1, .slice a2 d.P.length c2, .int .i64 d.fuse, .int .i64 d.ops, .bool d.dead] 38)
  have hne := hO.sne
  have hzz : w.heap.size + 2 ≤ w1.heap.size := by have := hb1.size; simp at this; omega
  have x0 : (w1.alloc (.cells #[.slice a1 d.S.length c1, .slice a2 d.P.length c2, .int .i64 d.fuse, .int .i64 d.ops, .bool d.dead] 38)).cell? ⟨w.heap.size, 0, none⟩ = some (.slice sa d.S.length sc) := hX.cell 0
  have x1 : (w1.alloc (.cells #[.slice a1 d.S.length c1, .slice a2 d.P.length c2, .int .i64 d.fuse, .int .i64 d.ops, .bool d.dead] 38)).cell? ⟨w.heap.size, 1, none⟩ = some (.slice pa d.P.length pc) := hX.cell 1
  have x2 : (w1.alloc (.cells #[.slice a1 d.S.length c1, .slice a2 d.P.length c2, .int .i64 d.fuse, .int .i64 d.ops, .bool d.dead] 38)).cell? ⟨w.heap.size, 2, none⟩ = some (.int .i64 d.fuse) := hX.cell 2
  have x3 : (w1.alloc (.cells #[.slice a1 d.S.length c1, .slice a2 d.P.length c2, .int .i64 d.fuse, .int .i64 d.ops, .bool d.dead] 38)).cell? ⟨w.heap.size, 3, none⟩ = some (.int .i64 d.ops) := hX.cell 3
  have x4 : (w1.alloc (.cells #[.slice a1 d.S.length c1, .slice a2 d.P.length c2, .int .i64 d.fuse, .int .i64 d.ops, .bool d.dead] 38)).cell? ⟨w.heap.size, 4, none⟩ = some (.bool d.dead) := hX.cell 4
  have hD1 := hD.below hbl2
  have HX := Lib.hid hX; have HY := Lib.hid hY; have HR := Lib.hid hR; have HO := Lib.hid hO1; have HNE := Lib.hid hne
  clear hX hY hR hO hO1 hne hb1 hbl1 hb0 hD0
  go_wp2_with fail
  refine (Valid_any _ _ _ _ _ _ hD1).mono ?_
  cases hv : validB d with
  | false =>
    have HF := Lib.hid (fuse_off n hv)
    rintro e w2 ⟨rfl, hb2⟩
    have hY := HY.out.call hb2
    have hR := HR.out.call hb2
    have hO := HO.out.call hb2
    have hbl3 := btrans hbl2 hbl2.size hb2
    have hz2 : w1.heap.size < w2.heap.size := hY.lt
    clear x0 x1 x2 x3 x4 hv hb2 HY HR HO HX
    have y0 : w2.cell? ⟨w1.heap.size, 0, none⟩ = some (.slice a1 d.S.length c1) := hY.cell 0
    have y1 : w2.cell? ⟨w1.heap.size, 1, none⟩ = some (.slice a2 d.P.length c2) := hY.cell 1
    have y2 : w2.cell? ⟨w1.heap.size, 2, none⟩ = some (.int .i64 d.fuse) := hY.cell 2
    have y3 : w2.cell? ⟨w1.heap.size, 3, none⟩ = some (.int .i64 d.ops) := hY.cell 3
    have y4 : w2.cell? ⟨w1.heap.size, 4, none⟩ = some (.bool d.dead) := hY.cell 4
    have hR2 := hR
    have hO2 := hO.mono (B' := w.heap.size + 2) (by simp)
    have hbl4 := hbl3
    have r0 : w2.cell? ⟨w.heap.size + 1, 0, none⟩ = some (.slice none 0 0) := hR2.cell 0
    have r1 : w2.cell? ⟨w.heap.size + 1, 1, none⟩ = some (.slice none 0 0) := hR2.cell 1
    have r2 : w2.cell? ⟨w.heap.size + 1, 2, none⟩ = some (.int .i64 0) := hR2.cell 2
    have r3 : w2.cell? ⟨w.heap.size + 1, 3, none⟩ = some (.int .i64 0) := hR2.cell 3
    have r4 : w2.cell? ⟨w.heap.size + 1, 4, none⟩ = some (.bool false) := hR2.cell 4
    have g0 := hR2.free 0
    have g1 := hR2.free 1
    have g2 := hR2.free 2
    have g3 := hR2.free 3
    have g4 := hR2.free 4
    have kk := (hR2.sets (.slice a1 d.S.length c1) (.slice a2 d.P.length c2) (.int .i64 d.fuse) (.int .i64 d.ops) (.bool d.dead))
    have k0 := kk.cell 0
    have k1 := kk.cell 1
    have k2 := kk.cell 2
    have k3 := kk.cell 3
    have k4 := kk.cell 4
    simp only [List.getElem?_toArray, List.getElem?_cons_zero, List.getElem?_cons_succ] at k0 k1 k2 k3 k4
    clear kk
    have HO := Lib.hid hO2; have HB := Lib.hid hbl4
    clear hO2 hbl4 hO hR hR2 hY hbl3
    go_wp2
    refine bodyPost_ret (v := .agg #[.slice a1 d.S.length c1, .slice a2 d.P.length c2, .int .i64 d.fuse, .int .i64 d.ops, .bool d.dead]) (by simp [results, Try.results33, go_sem, k0, k1, k2, k3, k4]) rfl ?_
    rw [HF.out]
    refine ⟨a1, c1, a2, c2, rfl, ?_, ?_⟩
    · exact (HO.out.sets (w.heap.size + 1) (by omega) _ _ _ _ _).mono (by omega)
    · exact below_sets HB.out (w.heap.size + 1) (by omega) _ _ _ _ _
  | true =>
    have HF := Lib.hid (fuse_on n hv)
    rintro e w2 ⟨rfl, hb2⟩
    have hY := HY.out.call hb2
    have hR := HR.out.call hb2
    have hO := HO.out.call hb2
    have hbl3 := btrans hbl2 hbl2.size hb2
    have hz2 : w1.heap.size < w2.heap.size := hY.lt
    clear x0 x1 x2 x3 x4 hv hb2 HY HR HO HX
    have y0 : w2.cell? ⟨w1.heap.size, 0, none⟩ = some (.slice a1 d.S.length c1) := hY.cell 0
    have y1 : w2.cell? ⟨w1.heap.size, 1, none⟩ = some (.slice a2 d.P.length c2) := hY.cell 1
    have y2 : w2.cell? ⟨w1.heap.size, 2, none⟩ = some (.int .i64 d.fuse) := hY.cell 2
    have y3 : w2.cell? ⟨w1.heap.size, 3, none⟩ = some (.int .i64 d.ops) := hY.cell 3
    have y4 : w2.cell? ⟨w1.heap.size, 4, none⟩ = some (.bool d.dead) := hY.cell 4
    have fy := hY.free 2
    have hY2 := hY.set 2 (.int .i64 (min (max n 0) 1099511627776))
    have hR2 := hR.other (i := 2) (c := w1.heap.size) (by omega) (.int .i64 (min (max n 0) 1099511627776))
    have hO2 : Owned (w.heap.size + 2) { d with fuse := min (max n 0) 1099511627776 } (w2.setCell ⟨w1.heap.size, 2, none⟩ (.int .i64 (min (max n 0) 1099511627776))) (.slice a1 d.S.length c1) (.slice a2 d.P.length c2) := by
      obtain ⟨B1, o1, o2, o3, o4, o5⟩ := hO
      exact ⟨B1, by simpa using o1, o2, own_mono (own_set2 o3 w1.heap.size 2 HNE.out.1 (.int .i64 (min (max n 0) 1099511627776))) (by simp), own_set2 o4 w1.heap.size 2 HNE.out.2 (.int .i64 (min (max n 0) 1099511627776)), by simpa using o5⟩
    have hbl4 := below_set hbl3 w1.heap.size 2 (by omega) (.int .i64 (min (max n 0) 1099511627776))
    have z0 : (w2.setCell ⟨w1.heap.size, 2, none⟩ (.int .i64 (min (max n 0) 1099511627776))).cell? ⟨w1.heap.size, 0, none⟩ = some (.slice a1 d.S.length c1) := hY2.cell 0
    have z1 : (w2.setCell ⟨w1.heap.size, 2, none⟩ (.int .i64 (min (max n 0) 1099511627776))).cell? ⟨w1.heap.size, 1, none⟩ = some (.slice a2 d.P.length c2) := hY2.cell 1
    have z2 : (w2.setCell ⟨w1.heap.size, 2, none⟩ (.int .i64 (min (max n 0) 1099511627776))).cell? ⟨w1.heap.size, 2, none⟩ = some (.int .i64 (min (max n 0) 1099511627776)) := hY2.cell 2
    have z3 : (w2.setCell ⟨w1.heap.size, 2, none⟩ (.int .i64 (min (max n 0) 1099511627776))).cell? ⟨w1.heap.size, 3, none⟩ = some (.int .i64 d.ops) := hY2.cell 3
    have z4 : (w2.setCell ⟨w1.heap.size, 2, none⟩ (.int .i64 (min (max n 0) 1099511627776))).cell? ⟨w1.heap.size, 4, none⟩ = some (.bool d.dead) := hY2.cell 4
    have r0 : (w2.setCell ⟨w1.heap.size, 2, none⟩ (.int .i64 (min (max n 0) 1099511627776))).cell? ⟨w.heap.size + 1, 0, none⟩ = some (.slice none 0 0) := hR2.cell 0
    have r1 : (w2.setCell ⟨w1.heap.size, 2, none⟩ (.int .i64 (min (max n 0) 1099511627776))).cell? ⟨w.heap.size + 1, 1, none⟩ = some (.slice none 0 0) := hR2.cell 1
    have r2 : (w2.setCell ⟨w1.heap.size, 2, none⟩ (.int .i64 (min (max n 0) 1099511627776))).cell? ⟨w.heap.size + 1, 2, none⟩ = some (.int .i64 0) := hR2.cell 2
    have r3 : (w2.setCell ⟨w1.heap.size, 2, none⟩ (.int .i64 (min (max n 0) 1099511627776))).cell? ⟨w.heap.size + 1, 3, none⟩ = some (.int .i64 0) := hR2.cell 3
    have r4 : (w2.setCell ⟨w1.heap.size, 2, none⟩ (.int .i64 (min (max n 0) 1099511627776))).cell? ⟨w.heap.size + 1, 4, none⟩ = some (.bool false) := hR2.cell 4
    have g0 := hR2.free 0
    have g1 := hR2.free 1
    have g2 := hR2.free 2
    have g3 := hR2.free 3
    have g4 := hR2.free 4
    have kk := (hR2.sets (.slice a1 d.S.length c1) (.slice a2 d.P.length c2) (.int .i64 (min (max n 0) 1099511627776)) (.int .i64 d.ops) (.bool d.dead))
    have k0 := kk.cell 0
    have k1 := kk.cell 1
    have k2 := kk.cell 2
    have k3 := kk.cell 3
    have k4 := kk.cell 4
    simp only [List.getElem?_toArray, List.getElem?_cons_zero, List.getElem?_cons_succ] at k0 k1 k2 k3 k4
    clear kk
    have HO := Lib.hid hO2; have HB := Lib.hid hbl4
    clear hO2 hbl4 hO hR hR2 hY hbl3 hY2
    go_wp2
    refine bodyPost_ret (v := .agg #[.slice a1 d.S.length c1, .slice a2 d.P.length c2, .int .i64 (min (max n 0) 1099511627776), .int .i64 d.ops, .bool d.dead]) (by simp [results, Try.results33, go_sem, k0, k1, k2, k3, k4]) rfl ?_
    rw [HF.out]
    refine ⟨a1, c1, a2, c2, rfl, ?_, ?_⟩
    · exact (HO.out.sets (w.heap.size + 1) (by omega) _ _ _ _ _).mono (by omega)
    · exact below_sets HB.out (w.heap.size + 1) (by omega) _ _ _ _ _

set_option maxRecDepth 100000 in
set_option maxHeartbeats 4000000 in
theorem Read_any (sa pa : Option Addr) (sc pc : Nat) (d : Dk) (n : Int) (w : World) (hD : Lists w sa sc pa pc d) :
    Calls Try.prog 59 #[.agg #[.slice sa d.S.length sc, .slice pa d.P.length pc, .int .i64 d.fuse, .int .i64 d.ops, .bool d.dead], .int .i64 n] w fun e w' => e = .returned (.tuple #[.string (bs (readS d n).1), .int .i64 (readS d n).2]) ∧ Below w.heap.size w w' := by
  have hb0 := (Below.refl w.heap.size w).alloc (Nat.le_refl _) (.cells #[.slice sa d.S.length sc, .slice pa d.P.length pc, .int .i64 d.fuse, .int .i64 d.ops, .bool d.dead] 38)
  have hX : Bx w.heap.size #[.slice sa d.S.length sc, .slice pa d.P.length pc, .int .i64 d.fuse, .int .i64 d.ops, .bool d.dead] 38 (w.alloc (.cells #[.slice sa d.S.length sc, .slice pa d.P.length pc, .int .i64 d.fuse, .int .i64 d.ops, .bool d.dead] 38)) := by
    have h := (Bx.new w #[.slice sa d.S.length sc, .slice pa d.P.length pc, .int .i64 d.fuse, .int .i64 d.ops, .bool d.dead] 38)
    simpa using h
  have HX := Lib.hid hX; clear hX
  have hD0 := hD.below hb0
  go_enter Try.func59, Try.ntmps59
  go_wp2_with fail
  refine (Valid_any _ _ _ _ _ _ hD0).mono ?_
  cases hv : validB d with
  | false =>
    have HF := Lib.hid (read_bad n (.inl hv))
    rintro e w1 ⟨rfl, hb1⟩
    have hbl1 := btrans hb0 hb0.size hb1
    clear hv
    go_wp2_with fail
    go_ret2
    exact ⟨by rw [HF.out]; rfl, hbl1⟩
  | true =>
    rintro e w1 ⟨rfl, hb1⟩
    have hX := HX.out.call hb1; clear HX; have HX := Lib.hid hX; clear hX
    have hbl1 := btrans hb0 hb0.size hb1
    have hD1 := hD0.below hb1
    have hX := HX.out
    have x0 : w1.cell? ⟨w.heap.size, 0, none⟩ = some (.slice sa d.S.length sc) := hX.cell 0
    have x1 : w1.cell? ⟨w.heap.size, 1, none⟩ = some (.slice pa d.P.length pc) := hX.cell 1
    have x2 : w1.cell? ⟨w.heap.size, 2, none⟩ = some (.int .i64 d.fuse) := hX.cell 2
    have x3 : w1.cell? ⟨w.heap.size, 3, none⟩ = some (.int .i64 d.ops) := hX.cell 3
    have x4 : w1.cell? ⟨w.heap.size, 4, none⟩ = some (.bool d.dead) := hX.cell 4
    have HV := Lib.hid hv; clear hv hX hb1
    go_wp2_with fail
    refine (has_any _ _ _ _ _ _ _).mono ?_
    cases hh : hasB d n with
    | false =>
      have HF := Lib.hid (read_bad n (.inr hh))
      rintro e w2 ⟨rfl, hb2⟩
      have hbl2 := btrans hbl1 hbl1.size hb2
      clear hh
      go_wp2_with fail
      go_ret2
      exact ⟨by rw [HF.out]; rfl, hbl2⟩
    | true =>
      rintro e w2 ⟨rfl, hb2⟩
      have hX := HX.out.call hb2; clear HX; have HX := Lib.hid hX; clear hX
      have hbl2 := btrans hbl1 hbl1.size hb2
      have hD2 := hD1.below hb2
      clear x0 x1 x2 x3 x4 hb2 hD1 hD0 hb0 hbl1
      obtain ⟨m, hm, rfl⟩ : ∃ m : Nat, m < d.S.length ∧ n = m := by
        unfold hasB at hh; simp at hh; exact ⟨n.toNat, by omega, by omega⟩
      obtain ⟨b, off, rfl, hsc, c1⟩ := hD2.sec m hm
      have hX := HX.out
      have x0 : w2.cell? ⟨w.heap.size, 0, none⟩ = some (.slice (some ⟨b, off, none⟩) d.S.length sc) := hX.cell 0
      have x1 : w2.cell? ⟨w.heap.size, 1, none⟩ = some (.slice pa d.P.length pc) := hX.cell 1
      have x2 : w2.cell? ⟨w.heap.size, 2, none⟩ = some (.int .i64 d.fuse) := hX.cell 2
      have x3 : w2.cell? ⟨w.heap.size, 3, none⟩ = some (.int .i64 d.ops) := hX.cell 3
      have x4 : w2.cell? ⟨w.heap.size, 4, none⟩ = some (.bool d.dead) := hX.cell 4
      have HH := Lib.hid hh; clear hh hX
      have hm1 : (m : Int) < (d.S.length : Int) := by omega
      cases hd : d.dead with
      | true =>
        have HF := Lib.hid (read_dead m HV.out HH.out hd)
        rw [hd] at x4
        clear hd
        go_wp2_with fail
        go_ret2
        exact ⟨by rw [HF.out]; rfl, hbl2⟩
      | false =>
        have HF := Lib.hid (read_ok m hm HV.out HH.out hd)
        rw [hd] at x4
        clear hd
        have hPl := hD.2.2.1
        go_wp2
        go_loopw [6, 28] (fun s i wr => ∃ (k : Nat) (l : List UInt8), k ≤ d.P.length ∧ i = .int .i64 k ∧ s = .string (bs l) ∧ Hid (l = lastW d.S[m] (d.P.take k) m) ∧ Below w.heap.size w wr) (fun _ i _ => d.P.length - (intOf i).toNat)
        case atStart => exact ⟨0, _, Nat.zero_le _, rfl, rfl, Lib.hid rfl, hbl2⟩
        case round =>
          obtain ⟨j, l, hj, rfl, rfl, HL, hb3⟩ := hrel
          by_cases hlt : j < d.P.length
          · obtain ⟨b2, off2, rfl, p1, p2⟩ := (hD.below (hb3.mono (Nat.le_refl _))).pen j hlt
            have hlt' : (j : Int) < (d.P.length : Int) := by omega
            obtain ⟨x, hx⟩ : ∃ x, d.P[j] = x := ⟨_, rfl⟩
            rw [hx] at p1 p2
            have hb4 := hb3.alloc hb3.size (.cells #[.int .i64 x.1, .string (bs x.2)] 94)
            by_cases he : x.1 = (m : Int)
            · have t1 : (x.1 == (m : Int)) = true := by rw [he]; exact beq_self_eq_true _
              have HL2 : Hid (x.2 = lastW d.S[m] (d.P.take (j + 1)) m) := Lib.hid (by rw [List.take_succ_eq_append_getElem hlt, hx, lastW_snoc, if_pos he])
              clear he hx
              go_wp2
              go_roundw
              case rel => exact ⟨j + 1, _, by omega, by go_num, rfl, HL2, hb4⟩
              case measure => simp [intOf]; omega
            · have t1 : (x.1 == (m : Int)) = false := by rw [beq_eq_false_iff_ne]; exact he
              have HL2 : Hid (l = lastW d.S[m] (d.P.take (j + 1)) m) := Lib.hid (by rw [List.take_succ_eq_append_getElem hlt, hx, lastW_snoc, if_neg he]; exact HL.out)
              clear he hx
              go_wp2
              go_roundw
              case rel => exact ⟨j + 1, _, by omega, by go_num, rfl, HL2, hb4⟩
              case measure => simp [intOf]; omega
          · obtain rfl : j = d.P.length := by omega
            have HL2 : Hid (l = lastW d.S[m] d.P m) := Lib.hid (by rw [HL.out, List.take_length])
            clear hlt HL
            go_wp2
            go_ret2
            exact ⟨by rw [HF.out, HL2.out]; rfl, hb3⟩
end Go.Proofs.Ytkpfkknldeafkaa
