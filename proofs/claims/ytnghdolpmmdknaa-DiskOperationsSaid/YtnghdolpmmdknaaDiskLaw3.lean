/- The walk of DiskOperations. No conditions. -/
import Derived.Test.YtnghdolpmmdknaaDiskLaw1
namespace Go.Proofs.Ytnghdolpmmdknaa
open Go.RowKit

theorem new_len (n : Int) : (newS n).1.S.length ≤ 1024 ∧ (newS n).1.P.length = 0 := by
  unfold newS
  split
  · rename_i h; simp; omega
  · simp
theorem write_len (d : Dk) (n : Int) (data : List UInt8) : (writeS d n data).1.S.length = d.S.length ∧ (writeS d n data).1.P.length ≤ d.P.length + 1 := by
  unfold writeS happenS
  split
  · split
    · exact ⟨rfl, by simp⟩
    · split
      · exact ⟨rfl, by simp⟩
      · exact ⟨rfl, by simp [addW]⟩
  · exact ⟨rfl, by simp⟩
theorem sync_len (d : Dk) : (syncS d).1.S.length = d.S.length ∧ (syncS d).1.P.length ≤ d.P.length := by
  unfold syncS happenS
  split
  · split
    · exact ⟨rfl, by simp⟩
    · split
      · exact ⟨rfl, by simp⟩
      · exact ⟨by simp [syncD, perform_len], by simp [syncD]⟩
  · exact ⟨rfl, by simp⟩
theorem fuse_len (d : Dk) (n : Int) : (fuseS d n).S = d.S ∧ (fuseS d n).P = d.P ∧ (fuseS d n).ops = d.ops ∧ (fuseS d n).dead = d.dead := by
  unfold fuseS; split <;> exact ⟨rfl, rfl, rfl, rfl⟩
theorem Bx.sets_ne {b c : Nat} {cs : Array Value} {T : TypeId} {W : World} (h : Bx b cs T W) (hne : b ≠ c) (u0 u1 u2 u3 u4 : Value) :
    Bx b cs T (((((W.setCell ⟨c, 0, none⟩ u0).setCell ⟨c, 1, none⟩ u1).setCell ⟨c, 2, none⟩ u2).setCell ⟨c, 3, none⟩ u3).setCell ⟨c, 4, none⟩ u4) :=
  ((((h.other hne u0).other hne u1).other hne u2).other hne u3).other hne u4
theorem box_nostr {B o : Nat} {s : List UInt8} {T : TypeId} {W : World} {i2 i3 : Int} {b4 : Bool} {a0 a1 : Option Addr} {n0 c0 n1 c1 : Nat} (h : Bx B #[.slice a0 n0 c0, .slice a1 n1 c1, .int .i64 i2, .int .i64 i3, .bool b4] T W) : W.cell? ⟨B, o, none⟩ ≠ some (strV s) := by
  rw [h.cell o]
  match o with
  | 0 | 1 | 2 | 3 | 4 => intro e; cases e
  | n + 5 => intro e; simp at e
theorem cell1_sets {W : World} {b i c : Nat} {u : Value} (h : W.cell? ⟨b, i, none⟩ = some u) (h1 : c ≠ b) (u0 u1 u2 u3 u4 : Value) :
    (((((W.setCell ⟨c, 0, none⟩ u0).setCell ⟨c, 1, none⟩ u1).setCell ⟨c, 2, none⟩ u2).setCell ⟨c, 3, none⟩ u3).setCell ⟨c, 4, none⟩ u4).cell? ⟨b, i, none⟩ = some u :=
  cell1_set _ h1 (cell1_set _ h1 (cell1_set _ h1 (cell1_set _ h1 (cell1_set _ h1 h))))
/-- a disk's lists stand when a disk's box is written -/
theorem Lists.sets_box {W : World} {sa pa : Option Addr} {sc pc : Nat} {d : Dk} (h : Lists W sa sc pa pc d) {B : Nat} {T : TypeId} {i2 i3 : Int} {b4 : Bool} {a0 a1 : Option Addr} {n0 c0 n1 c1 : Nat} (hB : Bx B #[.slice a0 n0 c0, .slice a1 n1 c1, .int .i64 i2, .int .i64 i3, .bool b4] T W) (u0 u1 u2 u3 u4 : Value) :
    Lists (((((W.setCell ⟨B, 0, none⟩ u0).setCell ⟨B, 1, none⟩ u1).setCell ⟨B, 2, none⟩ u2).setCell ⟨B, 3, none⟩ u3).setCell ⟨B, 4, none⟩ u4) sa sc pa pc d := by
  obtain ⟨⟨a, cap, he, hc, hx⟩, ⟨a', cap', he', hc', hx'⟩, h3, h4⟩ := h
  refine ⟨⟨a, cap, he, hc, fun hne => ?_⟩, ⟨a', cap', he', hc', fun hne => ?_⟩, h3, h4⟩
  · obtain ⟨b, off, ha, hcell⟩ := hx hne
    refine ⟨b, off, ha, fun i hi => cell1_sets (hcell i hi) ?_ _ _ _ _ _⟩
    intro e; subst e; exact box_nostr hB (hcell i hi)
  · obtain ⟨b, off, ha, hcell⟩ := hx' hne
    refine ⟨b, off, ha, fun i hi => ?_⟩
    have hne2 : B ≠ b := by intro e; subst e; exact box_nostr hB (hcell i hi).2
    exact ⟨cell1_sets (hcell i hi).1 hne2 _ _ _ _ _, cell1_sets (hcell i hi).2 hne2 _ _ _ _ _⟩
theorem RFuse_use (sa pa : Option Addr) (sc pc : Nat) (d q : Dk) (n : Int) (w : World) (hD : Lists w sa sc pa pc d) (hq : fuseS d n = q) :
    Calls Try.prog 44 #[.agg #[.slice sa d.S.length sc, .slice pa d.P.length pc, .int .i64 d.fuse, .int .i64 d.ops, .bool d.dead], .int .i64 n] w fun e w' => e = .returned (.agg #[.slice sa q.S.length sc, .slice pa q.P.length pc, .int .i64 q.fuse, .int .i64 q.ops, .bool q.dead]) ∧ Below w.heap.size w w' := by
  refine (RFuse_any sa pa sc pc d n w hD).mono ?_
  rintro e w' ⟨rfl, hb⟩
  obtain ⟨g1, g2, g3, g4⟩ := fuse_len d n
  refine ⟨?_, hb⟩
  rw [← hq, g1, g2, g3, g4]
theorem lists_fuse {W : World} {sa pa : Option Addr} {sc pc : Nat} {d q : Dk} {n : Int} (h : Lists W sa sc pa pc d) (hq : fuseS d n = q) : Lists W sa sc pa pc q := by
  obtain ⟨g1, g2, _, _⟩ := fuse_len d n
  unfold Lists at h ⊢
  rw [← hq, g1, g2]; exact h

theorem cells15_below {W W' : World} {b0 i0 b1 i1 b2 i2 b3 i3 b4 i4 b5 i5 b6 i6 b7 i7 b8 i8 b9 i9 b10 i10 b11 i11 b12 i12 b13 i13 b14 i14 : Nat} {u0 u1 u2 u3 u4 u5 u6 u7 u8 u9 u10 u11 u12 u13 u14 : Value} (h : W.cell? ⟨b0, i0, none⟩ = some u0 ∧ W.cell? ⟨b1, i1, none⟩ = some u1 ∧ W.cell? ⟨b2, i2, none⟩ = some u2 ∧ W.cell? ⟨b3, i3, none⟩ = some u3 ∧ W.cell? ⟨b4, i4, none⟩ = some u4 ∧ W.cell? ⟨b5, i5, none⟩ = some u5 ∧ W.cell? ⟨b6, i6, none⟩ = some u6 ∧ W.cell? ⟨b7, i7, none⟩ = some u7 ∧ W.cell? ⟨b8, i8, none⟩ = some u8 ∧ W.cell? ⟨b9, i9, none⟩ = some u9 ∧ W.cell? ⟨b10, i10, none⟩ = some u10 ∧ W.cell? ⟨b11, i11, none⟩ = some u11 ∧ W.cell? ⟨b12, i12, none⟩ = some u12 ∧ W.cell? ⟨b13, i13, none⟩ = some u13 ∧ W.cell? ⟨b14, i14, none⟩ = some u14) (hb : Below W.heap.size W W') : W'.cell? ⟨b0, i0, none⟩ = some u0 ∧ W'.cell? ⟨b1, i1, none⟩ = some u1 ∧ W'.cell? ⟨b2, i2, none⟩ = some u2 ∧ W'.cell? ⟨b3, i3, none⟩ = some u3 ∧ W'.cell? ⟨b4, i4, none⟩ = some u4 ∧ W'.cell? ⟨b5, i5, none⟩ = some u5 ∧ W'.cell? ⟨b6, i6, none⟩ = some u6 ∧ W'.cell? ⟨b7, i7, none⟩ = some u7 ∧ W'.cell? ⟨b8, i8, none⟩ = some u8 ∧ W'.cell? ⟨b9, i9, none⟩ = some u9 ∧ W'.cell? ⟨b10, i10, none⟩ = some u10 ∧ W'.cell? ⟨b11, i11, none⟩ = some u11 ∧ W'.cell? ⟨b12, i12, none⟩ = some u12 ∧ W'.cell? ⟨b13, i13, none⟩ = some u13 ∧ W'.cell? ⟨b14, i14, none⟩ = some u14 := by
  obtain ⟨h0, h1, h2, h3, h4, h5, h6, h7, h8, h9, h10, h11, h12, h13, h14⟩ := h
  exact ⟨cell1_below h0 hb, cell1_below h1 hb, cell1_below h2 hb, cell1_below h3 hb, cell1_below h4 hb, cell1_below h5 hb, cell1_below h6 hb, cell1_below h7 hb, cell1_below h8 hb, cell1_below h9 hb, cell1_below h10 hb, cell1_below h11 hb, cell1_below h12 hb, cell1_below h13 hb, cell1_below h14 hb⟩

set_option maxRecDepth 100000 in
set_option maxHeartbeats 16000000 in
theorem operationsWalk (sa pa : Option Addr) (sc pc : Nat) (d : Dk) (n : Int) (data : List UInt8) (w : World) (hD : Lists w sa sc pa pc d) (hpn : d.P.length ≤ 8999999999998) :
    Calls Try.prog 12 #[.agg #[.slice sa d.S.length sc, .slice pa d.P.length pc, .int .i64 d.fuse, .int .i64 d.ops, .bool d.dead], .int .i64 n, .string (bs data)] w fun e w' => e = .returned (.bool true) ∧ Below w.heap.size w w' := by
  have l3 := hD.2.2.1
  have l4 := hD.2.2.2
  obtain ⟨⟨q1, q1e⟩, hq1⟩ : ∃ q, newS n = q := ⟨_, rfl⟩
  have lq1 := new_len n
  rw [hq1] at lq1
  have Hq1 := Lib.hid hq1; clear hq1
  have tq1 : (q1e != q1e) = false := by simp
  have uq1 : (q1e == q1e) = true := by simp
  obtain ⟨⟨q2, q2e⟩, hq2⟩ : ∃ q, writeS d n data = q := ⟨_, rfl⟩
  have lq2 := write_len d n data
  rw [hq2] at lq2
  have Hq2 := Lib.hid hq2; clear hq2
  have tq2 : (q2e != q2e) = false := by simp
  have uq2 : (q2e == q2e) = true := by simp
  obtain ⟨⟨q3, q3e⟩, hq3⟩ : ∃ q, syncS d = q := ⟨_, rfl⟩
  have lq3 := sync_len d
  rw [hq3] at lq3
  have Hq3 := Lib.hid hq3; clear hq3
  have tq3 : (q3e != q3e) = false := by simp
  have uq3 : (q3e == q3e) = true := by simp
  obtain ⟨q4, hq4⟩ : ∃ q, fuseS d n = q := ⟨_, rfl⟩
  obtain ⟨g1, g2, g3, g4⟩ := fuse_len d n
  rw [hq4] at g1 g2 g3 g4
  have Hq4 := Lib.hid hq4; clear hq4
  simp only at lq1 lq2 lq3
  have S1 := Lib.hid (show q1.S.length ≤ 9000000000000 by omega); have P1 := Lib.hid (show q1.P.length ≤ 9000000000000 by omega)
  have S2 := Lib.hid (show q2.S.length ≤ 9000000000000 by omega); have P2 := Lib.hid (show q2.P.length ≤ 9000000000000 by omega)
  have S3 := Lib.hid (show q3.S.length ≤ 9000000000000 by omega); have P3 := Lib.hid (show q3.P.length ≤ 9000000000000 by omega)
  have S4 := Lib.hid (show q4.S.length ≤ 9000000000000 by rw [g1]; exact l4); have P4 := Lib.hid (show q4.P.length ≤ 9000000000000 by rw [g2]; exact l3)
  have G1 := Lib.hid g1; have G2 := Lib.hid g2; have G3 := Lib.hid g3; have G4 := Lib.hid g4; clear g1 g2 g3 g4 lq1 lq2 lq3 l3 l4
  obtain ⟨v, hv⟩ : ∃ v, validB d = v := ⟨_, rfl⟩
  have HV := Lib.hid hv; clear hv
  have tv : (v != v) = false := by simp
  obtain ⟨⟨s5, e5⟩, h5⟩ : ∃ q, readS d n = q := ⟨_, rfl⟩
  have H5 := Lib.hid h5; clear h5
  have ts : (s5 != s5) = false := by simp
  have te : (e5 != e5) = false := by simp
  have hb0 := (Below.refl w.heap.size w).alloc (Nat.le_refl _) (.cells #[.slice sa d.S.length sc, .slice pa d.P.length pc, .int .i64 d.fuse, .int .i64 d.ops, .bool d.dead] 47)
  have HX0 := Lib.hid (Bx.new w #[.slice sa d.S.length sc, .slice pa d.P.length pc, .int .i64 d.fuse, .int .i64 d.ops, .bool d.dead] 47); have HD0 := Lib.hid (hD.below hb0); have HDw := Lib.hid hD; clear hD
  go_enter Try.func12, Try.ntmps12
  go_wp2_with fail
  refine (New_any n _).mono ?_
  rw [Hq1.out]
  rintro e w1 ⟨a1, c1, a2, c2, rfl, hO1, hb1⟩
  have hal := (Below.refl w1.heap.size w1).alloc (Nat.le_refl _) (.cells #[.slice a1 q1.S.length c1, .slice a2 q1.P.length c2, .int .i64 q1.fuse, .int .i64 q1.ops, .bool q1.dead] 47)
  have HX1 := Lib.hid ((HX0.out.call hb1).alloc (.cells #[.slice a1 q1.S.length c1, .slice a2 q1.P.length c2, .int .i64 q1.fuse, .int .i64 q1.ops, .bool q1.dead] 47)); have HA1 := Lib.hid (Bx.new w1 #[.slice a1 q1.S.length c1, .slice a2 q1.P.length c2, .int .i64 q1.fuse, .int .i64 q1.ops, .bool q1.dead] 47); have HLA := Lib.hid ((hO1.lists (d := q1) P1.out S1.out).below hal); have HB1 := Lib.hid ((btrans hb0 hb0.size hb1).alloc (btrans hb0 hb0.size hb1).size (.cells #[.slice a1 q1.S.length c1, .slice a2 q1.P.length c2, .int .i64 q1.fuse, .int .i64 q1.ops, .bool q1.dead] 47))
  have z1 : w.heap.size < w1.heap.size := by have := hb1.size; simp at this; omega
  clear hal hO1 hb1 hb0 HX0
  go_wp2_with fail
  refine (RNew_any n _).mono ?_
  rw [Hq1.out]
  rintro e w2 ⟨a3, c3, a4, c4, rfl, hO2, hb2⟩
  have hal := (Below.refl w2.heap.size w2).alloc (Nat.le_refl _) (.cells #[.slice a3 q1.S.length c3, .slice a4 q1.P.length c4, .int .i64 q1.fuse, .int .i64 q1.ops, .bool q1.dead] 47)
  have HX2 := Lib.hid ((HX1.out.call hb2).alloc (.cells #[.slice a3 q1.S.length c3, .slice a4 q1.P.length c4, .int .i64 q1.fuse, .int .i64 q1.ops, .bool q1.dead] 47)); have HA2 := Lib.hid ((HA1.out.call hb2).alloc (.cells #[.slice a3 q1.S.length c3, .slice a4 q1.P.length c4, .int .i64 q1.fuse, .int .i64 q1.ops, .bool q1.dead] 47)); have HB2 := Lib.hid (Bx.new w2 #[.slice a3 q1.S.length c3, .slice a4 q1.P.length c4, .int .i64 q1.fuse, .int .i64 q1.ops, .bool q1.dead] 47); have HLA2 := Lib.hid ((HLA.out.below hb2).below hal); have HLB2 := Lib.hid ((hO2.lists (d := q1) P1.out S1.out).below hal); have HBL2 := Lib.hid ((btrans HB1.out HB1.out.size hb2).alloc (btrans HB1.out HB1.out.size hb2).size (.cells #[.slice a3 q1.S.length c3, .slice a4 q1.P.length c4, .int .i64 q1.fuse, .int .i64 q1.ops, .bool q1.dead] 47))
  have z2 : w1.heap.size < w2.heap.size := by have := hb2.size; simp at this; omega
  clear hal hO2 hb2 HX1 HA1 HLA HB1
  have x0 : (w2.alloc (.cells #[.slice a3 q1.S.length c3, .slice a4 q1.P.length c4, .int .i64 q1.fuse, .int .i64 q1.ops, .bool q1.dead] 47)).cell? ⟨w.heap.size, 0, none⟩ = some (.slice sa d.S.length sc) := HX2.out.cell 0
  have x1 : (w2.alloc (.cells #[.slice a3 q1.S.length c3, .slice a4 q1.P.length c4, .int .i64 q1.fuse, .int .i64 q1.ops, .bool q1.dead] 47)).cell? ⟨w.heap.size, 1, none⟩ = some (.slice pa d.P.length pc) := HX2.out.cell 1
  have x2 : (w2.alloc (.cells #[.slice a3 q1.S.length c3, .slice a4 q1.P.length c4, .int .i64 q1.fuse, .int .i64 q1.ops, .bool q1.dead] 47)).cell? ⟨w.heap.size, 2, none⟩ = some (.int .i64 d.fuse) := HX2.out.cell 2
  have x3 : (w2.alloc (.cells #[.slice a3 q1.S.length c3, .slice a4 q1.P.length c4, .int .i64 q1.fuse, .int .i64 q1.ops, .bool q1.dead] 47)).cell? ⟨w.heap.size, 3, none⟩ = some (.int .i64 d.ops) := HX2.out.cell 3
  have x4 : (w2.alloc (.cells #[.slice a3 q1.S.length c3, .slice a4 q1.P.length c4, .int .i64 q1.fuse, .int .i64 q1.ops, .bool q1.dead] 47)).cell? ⟨w.heap.size, 4, none⟩ = some (.bool d.dead) := HX2.out.cell 4
  have y0 : (w2.alloc (.cells #[.slice a3 q1.S.length c3, .slice a4 q1.P.length c4, .int .i64 q1.fuse, .int .i64 q1.ops, .bool q1.dead] 47)).cell? ⟨w1.heap.size, 0, none⟩ = some (.slice a1 q1.S.length c1) := HA2.out.cell 0
  have y1 : (w2.alloc (.cells #[.slice a3 q1.S.length c3, .slice a4 q1.P.length c4, .int .i64 q1.fuse, .int .i64 q1.ops, .bool q1.dead] 47)).cell? ⟨w1.heap.size, 1, none⟩ = some (.slice a2 q1.P.length c2) := HA2.out.cell 1
  have y2 : (w2.alloc (.cells #[.slice a3 q1.S.length c3, .slice a4 q1.P.length c4, .int .i64 q1.fuse, .int .i64 q1.ops, .bool q1.dead] 47)).cell? ⟨w1.heap.size, 2, none⟩ = some (.int .i64 q1.fuse) := HA2.out.cell 2
  have y3 : (w2.alloc (.cells #[.slice a3 q1.S.length c3, .slice a4 q1.P.length c4, .int .i64 q1.fuse, .int .i64 q1.ops, .bool q1.dead] 47)).cell? ⟨w1.heap.size, 3, none⟩ = some (.int .i64 q1.ops) := HA2.out.cell 3
  have y4 : (w2.alloc (.cells #[.slice a3 q1.S.length c3, .slice a4 q1.P.length c4, .int .i64 q1.fuse, .int .i64 q1.ops, .bool q1.dead] 47)).cell? ⟨w1.heap.size, 4, none⟩ = some (.bool q1.dead) := HA2.out.cell 4
  have z0 : (w2.alloc (.cells #[.slice a3 q1.S.length c3, .slice a4 q1.P.length c4, .int .i64 q1.fuse, .int .i64 q1.ops, .bool q1.dead] 47)).cell? ⟨w2.heap.size, 0, none⟩ = some (.slice a3 q1.S.length c3) := HB2.out.cell 0
  have z1' : (w2.alloc (.cells #[.slice a3 q1.S.length c3, .slice a4 q1.P.length c4, .int .i64 q1.fuse, .int .i64 q1.ops, .bool q1.dead] 47)).cell? ⟨w2.heap.size, 1, none⟩ = some (.slice a4 q1.P.length c4) := HB2.out.cell 1
  have z2' : (w2.alloc (.cells #[.slice a3 q1.S.length c3, .slice a4 q1.P.length c4, .int .i64 q1.fuse, .int .i64 q1.ops, .bool q1.dead] 47)).cell? ⟨w2.heap.size, 2, none⟩ = some (.int .i64 q1.fuse) := HB2.out.cell 2
  have z3 : (w2.alloc (.cells #[.slice a3 q1.S.length c3, .slice a4 q1.P.length c4, .int .i64 q1.fuse, .int .i64 q1.ops, .bool q1.dead] 47)).cell? ⟨w2.heap.size, 3, none⟩ = some (.int .i64 q1.ops) := HB2.out.cell 3
  have z4 : (w2.alloc (.cells #[.slice a3 q1.S.length c3, .slice a4 q1.P.length c4, .int .i64 q1.fuse, .int .i64 q1.ops, .bool q1.dead] 47)).cell? ⟨w2.heap.size, 4, none⟩ = some (.bool q1.dead) := HB2.out.cell 4
  have hs0 : (w2.alloc (.cells #[.slice a3 q1.S.length c3, .slice a4 q1.P.length c4, .int .i64 q1.fuse, .int .i64 q1.ops, .bool q1.dead] 47)).drew.cell? ⟨w.heap.size, 0, none⟩ = some (.slice sa d.S.length sc) ∧ (w2.alloc (.cells #[.slice a3 q1.S.length c3, .slice a4 q1.P.length c4, .int .i64 q1.fuse, .int .i64 q1.ops, .bool q1.dead] 47)).drew.cell? ⟨w.heap.size, 1, none⟩ = some (.slice pa d.P.length pc) ∧ (w2.alloc (.cells #[.slice a3 q1.S.length c3, .slice a4 q1.P.length c4, .int .i64 q1.fuse, .int .i64 q1.ops, .bool q1.dead] 47)).drew.cell? ⟨w.heap.size, 2, none⟩ = some (.int .i64 d.fuse) ∧ (w2.alloc (.cells #[.slice a3 q1.S.length c3, .slice a4 q1.P.length c4, .int .i64 q1.fuse, .int .i64 q1.ops, .bool q1.dead] 47)).drew.cell? ⟨w.heap.size, 3, none⟩ = some (.int .i64 d.ops) ∧ (w2.alloc (.cells #[.slice a3 q1.S.length c3, .slice a4 q1.P.length c4, .int .i64 q1.fuse, .int .i64 q1.ops, .bool q1.dead] 47)).drew.cell? ⟨w.heap.size, 4, none⟩ = some (.bool d.dead) ∧ (w2.alloc (.cells #[.slice a3 q1.S.length c3, .slice a4 q1.P.length c4, .int .i64 q1.fuse, .int .i64 q1.ops, .bool q1.dead] 47)).drew.cell? ⟨w1.heap.size, 0, none⟩ = some (.slice a1 q1.S.length c1) ∧ (w2.alloc (.cells #[.slice a3 q1.S.length c3, .slice a4 q1.P.length c4, .int .i64 q1.fuse, .int .i64 q1.ops, .bool q1.dead] 47)).drew.cell? ⟨w1.heap.size, 1, none⟩ = some (.slice a2 q1.P.length c2) ∧ (w2.alloc (.cells #[.slice a3 q1.S.length c3, .slice a4 q1.P.length c4, .int .i64 q1.fuse, .int .i64 q1.ops, .bool q1.dead] 47)).drew.cell? ⟨w1.heap.size, 2, none⟩ = some (.int .i64 q1.fuse) ∧ (w2.alloc (.cells #[.slice a3 q1.S.length c3, .slice a4 q1.P.length c4, .int .i64 q1.fuse, .int .i64 q1.ops, .bool q1.dead] 47)).drew.cell? ⟨w1.heap.size, 3, none⟩ = some (.int .i64 q1.ops) ∧ (w2.alloc (.cells #[.slice a3 q1.S.length c3, .slice a4 q1.P.length c4, .int .i64 q1.fuse, .int .i64 q1.ops, .bool q1.dead] 47)).drew.cell? ⟨w1.heap.size, 4, none⟩ = some (.bool q1.dead) ∧ (w2.alloc (.cells #[.slice a3 q1.S.length c3, .slice a4 q1.P.length c4, .int .i64 q1.fuse, .int .i64 q1.ops, .bool q1.dead] 47)).drew.cell? ⟨w2.heap.size, 0, none⟩ = some (.slice a3 q1.S.length c3) ∧ (w2.alloc (.cells #[.slice a3 q1.S.length c3, .slice a4 q1.P.length c4, .int .i64 q1.fuse, .int .i64 q1.ops, .bool q1.dead] 47)).drew.cell? ⟨w2.heap.size, 1, none⟩ = some (.slice a4 q1.P.length c4) ∧ (w2.alloc (.cells #[.slice a3 q1.S.length c3, .slice a4 q1.P.length c4, .int .i64 q1.fuse, .int .i64 q1.ops, .bool q1.dead] 47)).drew.cell? ⟨w2.heap.size, 2, none⟩ = some (.int .i64 q1.fuse) ∧ (w2.alloc (.cells #[.slice a3 q1.S.length c3, .slice a4 q1.P.length c4, .int .i64 q1.fuse, .int .i64 q1.ops, .bool q1.dead] 47)).drew.cell? ⟨w2.heap.size, 3, none⟩ = some (.int .i64 q1.ops) ∧ (w2.alloc (.cells #[.slice a3 q1.S.length c3, .slice a4 q1.P.length c4, .int .i64 q1.fuse, .int .i64 q1.ops, .bool q1.dead] 47)).drew.cell? ⟨w2.heap.size, 4, none⟩ = some (.bool q1.dead) := ⟨x0, x1, x2, x3, x4, y0, y1, y2, y3, y4, z0, z1', z2', z3, z4⟩
  go_wp2_with fail
  refine wp_region_held_drew (S := (fun w' => w'.cell? ⟨w.heap.size, 0, none⟩ = some (.slice sa d.S.length sc) ∧ w'.cell? ⟨w.heap.size, 1, none⟩ = some (.slice pa d.P.length pc) ∧ w'.cell? ⟨w.heap.size, 2, none⟩ = some (.int .i64 d.fuse) ∧ w'.cell? ⟨w.heap.size, 3, none⟩ = some (.int .i64 d.ops) ∧ w'.cell? ⟨w.heap.size, 4, none⟩ = some (.bool d.dead) ∧ w'.cell? ⟨w1.heap.size, 0, none⟩ = some (.slice a1 q1.S.length c1) ∧ w'.cell? ⟨w1.heap.size, 1, none⟩ = some (.slice a2 q1.P.length c2) ∧ w'.cell? ⟨w1.heap.size, 2, none⟩ = some (.int .i64 q1.fuse) ∧ w'.cell? ⟨w1.heap.size, 3, none⟩ = some (.int .i64 q1.ops) ∧ w'.cell? ⟨w1.heap.size, 4, none⟩ = some (.bool q1.dead) ∧ w'.cell? ⟨w2.heap.size, 0, none⟩ = some (.slice a3 q1.S.length c3) ∧ w'.cell? ⟨w2.heap.size, 1, none⟩ = some (.slice a4 q1.P.length c4) ∧ w'.cell? ⟨w2.heap.size, 2, none⟩ = some (.int .i64 q1.fuse) ∧ w'.cell? ⟨w2.heap.size, 3, none⟩ = some (.int .i64 q1.ops) ∧ w'.cell? ⟨w2.heap.size, 4, none⟩ = some (.bool q1.dead))) (by kernel_rfl) ?_ (fun hHeld => ?_)
  · exact hs0
  refine takeH (i := 0) (v := ?vv1) 25 rfl rfl (by kernel_rfl) (by kernel_rfl) (by kernel_rfl) (fun _ _ _ h => h) (Or.inl ⟨by kernel_rfl, ?yy1⟩) (by assumption) ?_
  case yy1 => intro w hSw; (try dsimp only at hSw); go_simp; (try with_reducible rfl)
  simp only [List.setIfInBounds_toArray, List.set_cons_zero, List.set_cons_succ]
  refine takeH (i := 1) (v := ?vv2) 26 rfl rfl (by kernel_rfl) (by kernel_rfl) (by kernel_rfl) (fun _ _ _ h => h) (Or.inl ⟨by kernel_rfl, ?yy2⟩) (by assumption) ?_
  case yy2 => intro w hSw; (try dsimp only at hSw); go_simp; (try with_reducible rfl)
  simp only [List.setIfInBounds_toArray, List.set_cons_zero, List.set_cons_succ]
  refine wpAnyH_ready (rs := [2]) (by kernel_rfl) (by simp) ?_
  refine (AllReadyH.cons rfl (fun K hK => ?_) AllReadyH.nil)
  go_simp
  (refine (RSame_any _ _ _ _ _ _ _ _ q1 _ (HLA2.out.below ((Below.refl _ _).drew)) (HLB2.out.below ((Below.refl _ _).drew))).mono ?_; rintro e w3 ⟨rfl, hb3⟩)
  (try go_wp2_with fail)
  refine hK.out _ _ ?_ (fun hHeld => ?_)
  · exact cells15_below hHeld hb3
  clear hK K
  (try simp only [Act.put, List.setIfInBounds_toArray, List.set_cons_zero, List.set_cons_succ])
  refine takeH (i := 3) (v := ?vv3) 28 rfl rfl (by kernel_rfl) (by kernel_rfl) (by kernel_rfl) (fun _ _ _ h => h) (Or.inl ⟨by kernel_rfl, ?yy3⟩) (by assumption) ?_
  case yy3 => intro w hSw; (try dsimp only at hSw); go_simp; (try with_reducible rfl)
  simp only [List.setIfInBounds_toArray, List.set_cons_zero, List.set_cons_succ]
  refine takeH (i := 4) (v := ?vv4) 29 rfl rfl (by kernel_rfl) (by kernel_rfl) (by kernel_rfl) (fun _ _ _ h => h) (Or.inl ⟨by kernel_rfl, ?yy4⟩) (by assumption) ?_
  case yy4 => intro w hSw; (try dsimp only at hSw); go_simp; (try with_reducible rfl)
  simp only [List.setIfInBounds_toArray, List.set_cons_zero, List.set_cons_succ]
  refine takeH (i := 5) (v := ?vv5) 30 rfl rfl (by kernel_rfl) (by kernel_rfl) (by kernel_rfl) (fun _ _ _ h => h) (Or.inl ⟨by kernel_rfl, ?yy5⟩) (by assumption) ?_
  case yy5 => intro w hSw; (try dsimp only at hSw); go_simp; (try with_reducible rfl)
  simp only [List.setIfInBounds_toArray, List.set_cons_zero, List.set_cons_succ]
  refine takeH (i := 6) (v := ?vv6) 31 rfl rfl (by kernel_rfl) (by kernel_rfl) (by kernel_rfl) (fun _ _ _ h => h) (Or.inl ⟨by kernel_rfl, ?yy6⟩) (by assumption) ?_
  case yy6 => intro w hSw; (try dsimp only at hSw); go_simp; (try with_reducible rfl)
  simp only [List.setIfInBounds_toArray, List.set_cons_zero, List.set_cons_succ]
  refine takeH (i := 7) (v := ?vv7) 32 rfl rfl (by kernel_rfl) (by kernel_rfl) (by kernel_rfl) (fun _ _ _ h => h) (Or.inl ⟨by kernel_rfl, ?yy7⟩) (by assumption) ?_
  case yy7 => intro w hSw; (try dsimp only at hSw); go_simp; (try with_reducible rfl)
  simp only [List.setIfInBounds_toArray, List.set_cons_zero, List.set_cons_succ]
  refine takeH (i := 8) (v := ?vv8) 33 rfl rfl (by kernel_rfl) (by kernel_rfl) (by kernel_rfl) (fun _ _ _ h => h) (Or.inl ⟨by kernel_rfl, ?yy8⟩) (by assumption) ?_
  case yy8 => intro w hSw; (try dsimp only at hSw); go_simp; (try with_reducible rfl)
  simp only [List.setIfInBounds_toArray, List.set_cons_zero, List.set_cons_succ]
  refine takeH (i := 9) (v := ?vv9) 34 rfl rfl (by kernel_rfl) (by kernel_rfl) (by kernel_rfl) (fun _ _ _ h => h) (Or.inl ⟨by kernel_rfl, ?yy9⟩) (by assumption) ?_
  case yy9 => intro w hSw; (try dsimp only at hSw); go_simp; (try with_reducible rfl)
  simp only [List.setIfInBounds_toArray, List.set_cons_zero, List.set_cons_succ]
  refine takeH (i := 10) (v := ?vv10) 35 rfl rfl (by kernel_rfl) (by kernel_rfl) (by kernel_rfl) (fun _ _ _ h => h) (Or.inl ⟨by kernel_rfl, ?yy10⟩) (by assumption) ?_
  case yy10 => intro w hSw; (try dsimp only at hSw); go_simp; (try with_reducible rfl)
  simp only [List.setIfInBounds_toArray, List.set_cons_zero, List.set_cons_succ]
  refine takeH (i := 12) (v := ?vv11) 37 rfl rfl (by kernel_rfl) (by kernel_rfl) (by kernel_rfl) (fun _ _ _ h => h) (Or.inl ⟨by kernel_rfl, ?yy11⟩) (by assumption) ?_
  case yy11 => intro w hSw; (try dsimp only at hSw); go_simp; (try with_reducible rfl)
  simp only [List.setIfInBounds_toArray, List.set_cons_zero, List.set_cons_succ]
  refine wpAnyH_ready (rs := [11]) (by kernel_rfl) (by simp) ?_
  refine (AllReadyH.cons rfl (fun K hK => ?_) AllReadyH.nil)
  go_simp
  (refine (Valid_any _ _ _ _ d _ (HDw.out.below (btrans HBL2.out.drew HBL2.out.size hb3))).mono ?_; rw [HV.out]; rintro e w4 ⟨rfl, hb4⟩)
  (try go_wp2_with fail)
  refine hK.out _ _ ?_ (fun hHeld => ?_)
  · exact cells15_below hHeld hb4
  clear hK K
  (try simp only [Act.put, List.setIfInBounds_toArray, List.set_cons_zero, List.set_cons_succ])
  refine wpAnyH_ready (rs := [13]) (by kernel_rfl) (by simp) ?_
  refine (AllReadyH.cons rfl (fun K hK => ?_) AllReadyH.nil)
  go_simp
  (refine (RValid_any _ _ _ _ d _ ((HDw.out.below (btrans HBL2.out.drew HBL2.out.size hb3)).below hb4)).mono ?_; rw [HV.out]; rintro e w5 ⟨rfl, hb5⟩)
  (try go_wp2_with fail)
  refine hK.out _ _ ?_ (fun hHeld => ?_)
  · exact cells15_below hHeld hb5
  clear hK K
  (try simp only [Act.put, List.setIfInBounds_toArray, List.set_cons_zero, List.set_cons_succ])
  refine takeH (i := 14) (v := ?vv12) 39 rfl rfl (by kernel_rfl) (by kernel_rfl) (by kernel_rfl) (fun _ _ _ h => h) (Or.inl ⟨by kernel_rfl, ?yy12⟩) (by assumption) ?_
  case yy12 => intro w hSw; (try dsimp only at hSw); go_simp; (try with_reducible rfl)
  simp only [List.setIfInBounds_toArray, List.set_cons_zero, List.set_cons_succ]
  refine takeH (i := 15) (v := ?vv13) 40 rfl rfl (by kernel_rfl) (by kernel_rfl) (by kernel_rfl) (fun _ _ _ h => h) (Or.inl ⟨by kernel_rfl, ?yy13⟩) (by assumption) ?_
  case yy13 => intro w hSw; (try dsimp only at hSw); go_simp; (try with_reducible rfl)
  simp only [List.setIfInBounds_toArray, List.set_cons_zero, List.set_cons_succ]
  refine wpAnyH_done (by kernel_rfl) ?_ _
  have H35 := btrans (btrans (Below.refl _ _).drew (Nat.le_refl _) hb3) (Nat.le_trans (Nat.le_refl _) hb3.size) hb4
  have H25 := Lib.hid (btrans H35 H35.size hb5)
  clear H35 hb3 hb4 hb5 hHeld hs0 x0 x1 x2 x3 x4 y0 y1 y2 y3 y4 z0 z1' z2' z3 z4
  have HX := Lib.hid (HX2.out.call H25.out); have HA := Lib.hid (HA2.out.call H25.out); have HB := Lib.hid (HB2.out.call H25.out); have HBL := Lib.hid (btrans HBL2.out HBL2.out.size H25.out); have HDD := Lib.hid (HDw.out.below HBL.out); clear HX2 HA2 HB2 HBL2 HLA2 HLB2 H25 HD0
  have x0 : w5.cell? ⟨w.heap.size, 0, none⟩ = some (.slice sa d.S.length sc) := HX.out.cell 0
  have x1 : w5.cell? ⟨w.heap.size, 1, none⟩ = some (.slice pa d.P.length pc) := HX.out.cell 1
  have x2 : w5.cell? ⟨w.heap.size, 2, none⟩ = some (.int .i64 d.fuse) := HX.out.cell 2
  have x3 : w5.cell? ⟨w.heap.size, 3, none⟩ = some (.int .i64 d.ops) := HX.out.cell 3
  have x4 : w5.cell? ⟨w.heap.size, 4, none⟩ = some (.bool d.dead) := HX.out.cell 4
  go_wp2_with fail
  refine (Read_any _ _ _ _ d n _ HDD.out).mono ?_
  rw [H5.out]
  rintro e w6 ⟨rfl, hb6⟩
  clear x0 x1 x2 x3 x4
  have K6 := Lib.hid hb6; clear hb6
  have x0 : w6.cell? ⟨w.heap.size, 0, none⟩ = some (.slice sa d.S.length sc) := (HX.out.call K6.out).cell 0
  have x1 : w6.cell? ⟨w.heap.size, 1, none⟩ = some (.slice pa d.P.length pc) := (HX.out.call K6.out).cell 1
  have x2 : w6.cell? ⟨w.heap.size, 2, none⟩ = some (.int .i64 d.fuse) := (HX.out.call K6.out).cell 2
  have x3 : w6.cell? ⟨w.heap.size, 3, none⟩ = some (.int .i64 d.ops) := (HX.out.call K6.out).cell 3
  have x4 : w6.cell? ⟨w.heap.size, 4, none⟩ = some (.bool d.dead) := (HX.out.call K6.out).cell 4
  go_wp2_with fail
  refine (RRead_any _ _ _ _ d n _ (HDD.out.below K6.out)).mono ?_
  rw [H5.out]
  rintro e w7 ⟨rfl, hb7⟩
  clear x0 x1 x2 x3 x4
  have K7 := Lib.hid (btrans K6.out K6.out.size hb7); clear hb7 K6
  have HX7 := Lib.hid (HX.out.call K7.out); have HA7 := Lib.hid (HA.out.call K7.out); have HB7 := Lib.hid (HB.out.call K7.out); have HBL7 := Lib.hid (btrans HBL.out HBL.out.size K7.out); have HD7 := Lib.hid (HDD.out.below K7.out); clear HX HA HB HBL HDD K7
  have x0 : w7.cell? ⟨w.heap.size, 0, none⟩ = some (.slice sa d.S.length sc) := HX7.out.cell 0
  have x1 : w7.cell? ⟨w.heap.size, 1, none⟩ = some (.slice pa d.P.length pc) := HX7.out.cell 1
  have x2 : w7.cell? ⟨w.heap.size, 2, none⟩ = some (.int .i64 d.fuse) := HX7.out.cell 2
  have x3 : w7.cell? ⟨w.heap.size, 3, none⟩ = some (.int .i64 d.ops) := HX7.out.cell 3
  have x4 : w7.cell? ⟨w.heap.size, 4, none⟩ = some (.bool d.dead) := HX7.out.cell 4
  go_wp2_with fail
  refine (Write_any _ _ _ _ d n data _ HD7.out (by omega)).mono ?_
  rw [Hq2.out]
  rintro e w8 ⟨p8, r8, s8, t8, rfl, hO, hb⟩
  clear x0 x1 x2 x3 x4
  have KB := Lib.hid hb; clear hb
  have hXn := HX7.out.call KB.out; have hAn := HA7.out.call KB.out; have hBn := HB7.out.call KB.out; have hBLn := btrans HBL7.out HBL7.out.size KB.out
  have hLn := hO.lists (d := q2) P2.out S2.out
  have y0 : w8.cell? ⟨w1.heap.size, 0, none⟩ = some (.slice a1 q1.S.length c1) := hAn.cell 0
  have y1 : w8.cell? ⟨w1.heap.size, 1, none⟩ = some (.slice a2 q1.P.length c2) := hAn.cell 1
  have y2 : w8.cell? ⟨w1.heap.size, 2, none⟩ = some (.int .i64 q1.fuse) := hAn.cell 2
  have y3 : w8.cell? ⟨w1.heap.size, 3, none⟩ = some (.int .i64 q1.ops) := hAn.cell 3
  have y4 : w8.cell? ⟨w1.heap.size, 4, none⟩ = some (.bool q1.dead) := hAn.cell 4
  have g0 := hAn.free 0
  have g1 := hAn.free 1
  have g2 := hAn.free 2
  have g3 := hAn.free 3
  have g4 := hAn.free 4
  have x0 : (((((w8.setCell ⟨w1.heap.size, 0, none⟩ (.slice p8 q2.S.length r8)).setCell ⟨w1.heap.size, 1, none⟩ (.slice s8 q2.P.length t8)).setCell ⟨w1.heap.size, 2, none⟩ (.int .i64 q2.fuse)).setCell ⟨w1.heap.size, 3, none⟩ (.int .i64 q2.ops)).setCell ⟨w1.heap.size, 4, none⟩ (.bool q2.dead)).cell? ⟨w.heap.size, 0, none⟩ = some (.slice sa d.S.length sc) := (hXn.sets_ne (c := w1.heap.size) (by omega) (.slice p8 q2.S.length r8) (.slice s8 q2.P.length t8) (.int .i64 q2.fuse) (.int .i64 q2.ops) (.bool q2.dead)).cell 0
  have x1 : (((((w8.setCell ⟨w1.heap.size, 0, none⟩ (.slice p8 q2.S.length r8)).setCell ⟨w1.heap.size, 1, none⟩ (.slice s8 q2.P.length t8)).setCell ⟨w1.heap.size, 2, none⟩ (.int .i64 q2.fuse)).setCell ⟨w1.heap.size, 3, none⟩ (.int .i64 q2.ops)).setCell ⟨w1.heap.size, 4, none⟩ (.bool q2.dead)).cell? ⟨w.heap.size, 1, none⟩ = some (.slice pa d.P.length pc) := (hXn.sets_ne (c := w1.heap.size) (by omega) (.slice p8 q2.S.length r8) (.slice s8 q2.P.length t8) (.int .i64 q2.fuse) (.int .i64 q2.ops) (.bool q2.dead)).cell 1
  have x2 : (((((w8.setCell ⟨w1.heap.size, 0, none⟩ (.slice p8 q2.S.length r8)).setCell ⟨w1.heap.size, 1, none⟩ (.slice s8 q2.P.length t8)).setCell ⟨w1.heap.size, 2, none⟩ (.int .i64 q2.fuse)).setCell ⟨w1.heap.size, 3, none⟩ (.int .i64 q2.ops)).setCell ⟨w1.heap.size, 4, none⟩ (.bool q2.dead)).cell? ⟨w.heap.size, 2, none⟩ = some (.int .i64 d.fuse) := (hXn.sets_ne (c := w1.heap.size) (by omega) (.slice p8 q2.S.length r8) (.slice s8 q2.P.length t8) (.int .i64 q2.fuse) (.int .i64 q2.ops) (.bool q2.dead)).cell 2
  have x3 : (((((w8.setCell ⟨w1.heap.size, 0, none⟩ (.slice p8 q2.S.length r8)).setCell ⟨w1.heap.size, 1, none⟩ (.slice s8 q2.P.length t8)).setCell ⟨w1.heap.size, 2, none⟩ (.int .i64 q2.fuse)).setCell ⟨w1.heap.size, 3, none⟩ (.int .i64 q2.ops)).setCell ⟨w1.heap.size, 4, none⟩ (.bool q2.dead)).cell? ⟨w.heap.size, 3, none⟩ = some (.int .i64 d.ops) := (hXn.sets_ne (c := w1.heap.size) (by omega) (.slice p8 q2.S.length r8) (.slice s8 q2.P.length t8) (.int .i64 q2.fuse) (.int .i64 q2.ops) (.bool q2.dead)).cell 3
  have x4 : (((((w8.setCell ⟨w1.heap.size, 0, none⟩ (.slice p8 q2.S.length r8)).setCell ⟨w1.heap.size, 1, none⟩ (.slice s8 q2.P.length t8)).setCell ⟨w1.heap.size, 2, none⟩ (.int .i64 q2.fuse)).setCell ⟨w1.heap.size, 3, none⟩ (.int .i64 q2.ops)).setCell ⟨w1.heap.size, 4, none⟩ (.bool q2.dead)).cell? ⟨w.heap.size, 4, none⟩ = some (.bool d.dead) := (hXn.sets_ne (c := w1.heap.size) (by omega) (.slice p8 q2.S.length r8) (.slice s8 q2.P.length t8) (.int .i64 q2.fuse) (.int .i64 q2.ops) (.bool q2.dead)).cell 4
  have HXn := Lib.hid hXn; have HAn := Lib.hid hAn; have HBn := Lib.hid hBn; have HBLn := Lib.hid hBLn; have HLn := Lib.hid hLn; have hszn := KB.out.size; clear hXn hAn hBn hBLn hLn hO
  go_wp2_with fail
  refine (RWrite_any _ _ _ _ d n data _ (HDw.out.below (below_sets HBLn.out (w1.heap.size) (by omega) (.slice p8 q2.S.length r8) (.slice s8 q2.P.length t8) (.int .i64 q2.fuse) (.int .i64 q2.ops) (.bool q2.dead))) (by omega)).mono ?_
  rw [Hq2.out]
  rintro e w9 ⟨p9, r9, s9, t9, rfl, hL, hb⟩
  clear x0 x1 x2 x3 x4 y0 y1 y2 y3 y4 g0 g1 g2 g3 g4
  have HXm := Lib.hid ((HXn.out.sets_ne (c := w1.heap.size) (by omega) (.slice p8 q2.S.length r8) (.slice s8 q2.P.length t8) (.int .i64 q2.fuse) (.int .i64 q2.ops) (.bool q2.dead)).call hb); have HAm := Lib.hid ((HAn.out.sets (.slice p8 q2.S.length r8) (.slice s8 q2.P.length t8) (.int .i64 q2.fuse) (.int .i64 q2.ops) (.bool q2.dead)).call hb); have HBm := Lib.hid ((HBn.out.sets_ne (c := w1.heap.size) (by omega) (.slice p8 q2.S.length r8) (.slice s8 q2.P.length t8) (.int .i64 q2.fuse) (.int .i64 q2.ops) (.bool q2.dead)).call hb); have HLa := Lib.hid ((HLn.out.sets_box HAn.out (.slice p8 q2.S.length r8) (.slice s8 q2.P.length t8) (.int .i64 q2.fuse) (.int .i64 q2.ops) (.bool q2.dead)).below hb); have HBLm := Lib.hid (btrans (below_sets HBLn.out (w1.heap.size) (by omega) (.slice p8 q2.S.length r8) (.slice s8 q2.P.length t8) (.int .i64 q2.fuse) (.int .i64 q2.ops) (.bool q2.dead)) (below_sets HBLn.out (w1.heap.size) (by omega) (.slice p8 q2.S.length r8) (.slice s8 q2.P.length t8) (.int .i64 q2.fuse) (.int .i64 q2.ops) (.bool q2.dead)).size hb); have HLb := Lib.hid hL; have hszm := HBm.out.lt
  clear hL hb HXn HAn HBn HBLn HLn KB hszn
  clear HX7 HA7 HB7 HBL7 HD7
  have y0 : w9.cell? ⟨w2.heap.size, 0, none⟩ = some (.slice a3 q1.S.length c3) := HBm.out.cell 0
  have y1 : w9.cell? ⟨w2.heap.size, 1, none⟩ = some (.slice a4 q1.P.length c4) := HBm.out.cell 1
  have y2 : w9.cell? ⟨w2.heap.size, 2, none⟩ = some (.int .i64 q1.fuse) := HBm.out.cell 2
  have y3 : w9.cell? ⟨w2.heap.size, 3, none⟩ = some (.int .i64 q1.ops) := HBm.out.cell 3
  have y4 : w9.cell? ⟨w2.heap.size, 4, none⟩ = some (.bool q1.dead) := HBm.out.cell 4
  have g0 := HBm.out.free 0
  have g1 := HBm.out.free 1
  have g2 := HBm.out.free 2
  have g3 := HBm.out.free 3
  have g4 := HBm.out.free 4
  have x0 : (((((w9.setCell ⟨w2.heap.size, 0, none⟩ (.slice p9 q2.S.length r9)).setCell ⟨w2.heap.size, 1, none⟩ (.slice s9 q2.P.length t9)).setCell ⟨w2.heap.size, 2, none⟩ (.int .i64 q2.fuse)).setCell ⟨w2.heap.size, 3, none⟩ (.int .i64 q2.ops)).setCell ⟨w2.heap.size, 4, none⟩ (.bool q2.dead)).cell? ⟨w1.heap.size, 0, none⟩ = some (.slice p8 q2.S.length r8) := (HAm.out.sets_ne (c := w2.heap.size) (by omega) (.slice p9 q2.S.length r9) (.slice s9 q2.P.length t9) (.int .i64 q2.fuse) (.int .i64 q2.ops) (.bool q2.dead)).cell 0
  have x1 : (((((w9.setCell ⟨w2.heap.size, 0, none⟩ (.slice p9 q2.S.length r9)).setCell ⟨w2.heap.size, 1, none⟩ (.slice s9 q2.P.length t9)).setCell ⟨w2.heap.size, 2, none⟩ (.int .i64 q2.fuse)).setCell ⟨w2.heap.size, 3, none⟩ (.int .i64 q2.ops)).setCell ⟨w2.heap.size, 4, none⟩ (.bool q2.dead)).cell? ⟨w1.heap.size, 1, none⟩ = some (.slice s8 q2.P.length t8) := (HAm.out.sets_ne (c := w2.heap.size) (by omega) (.slice p9 q2.S.length r9) (.slice s9 q2.P.length t9) (.int .i64 q2.fuse) (.int .i64 q2.ops) (.bool q2.dead)).cell 1
  have x2 : (((((w9.setCell ⟨w2.heap.size, 0, none⟩ (.slice p9 q2.S.length r9)).setCell ⟨w2.heap.size, 1, none⟩ (.slice s9 q2.P.length t9)).setCell ⟨w2.heap.size, 2, none⟩ (.int .i64 q2.fuse)).setCell ⟨w2.heap.size, 3, none⟩ (.int .i64 q2.ops)).setCell ⟨w2.heap.size, 4, none⟩ (.bool q2.dead)).cell? ⟨w1.heap.size, 2, none⟩ = some (.int .i64 q2.fuse) := (HAm.out.sets_ne (c := w2.heap.size) (by omega) (.slice p9 q2.S.length r9) (.slice s9 q2.P.length t9) (.int .i64 q2.fuse) (.int .i64 q2.ops) (.bool q2.dead)).cell 2
  have x3 : (((((w9.setCell ⟨w2.heap.size, 0, none⟩ (.slice p9 q2.S.length r9)).setCell ⟨w2.heap.size, 1, none⟩ (.slice s9 q2.P.length t9)).setCell ⟨w2.heap.size, 2, none⟩ (.int .i64 q2.fuse)).setCell ⟨w2.heap.size, 3, none⟩ (.int .i64 q2.ops)).setCell ⟨w2.heap.size, 4, none⟩ (.bool q2.dead)).cell? ⟨w1.heap.size, 3, none⟩ = some (.int .i64 q2.ops) := (HAm.out.sets_ne (c := w2.heap.size) (by omega) (.slice p9 q2.S.length r9) (.slice s9 q2.P.length t9) (.int .i64 q2.fuse) (.int .i64 q2.ops) (.bool q2.dead)).cell 3
  have x4 : (((((w9.setCell ⟨w2.heap.size, 0, none⟩ (.slice p9 q2.S.length r9)).setCell ⟨w2.heap.size, 1, none⟩ (.slice s9 q2.P.length t9)).setCell ⟨w2.heap.size, 2, none⟩ (.int .i64 q2.fuse)).setCell ⟨w2.heap.size, 3, none⟩ (.int .i64 q2.ops)).setCell ⟨w2.heap.size, 4, none⟩ (.bool q2.dead)).cell? ⟨w1.heap.size, 4, none⟩ = some (.bool q2.dead) := (HAm.out.sets_ne (c := w2.heap.size) (by omega) (.slice p9 q2.S.length r9) (.slice s9 q2.P.length t9) (.int .i64 q2.fuse) (.int .i64 q2.ops) (.bool q2.dead)).cell 4
  have z0 : (((((w9.setCell ⟨w2.heap.size, 0, none⟩ (.slice p9 q2.S.length r9)).setCell ⟨w2.heap.size, 1, none⟩ (.slice s9 q2.P.length t9)).setCell ⟨w2.heap.size, 2, none⟩ (.int .i64 q2.fuse)).setCell ⟨w2.heap.size, 3, none⟩ (.int .i64 q2.ops)).setCell ⟨w2.heap.size, 4, none⟩ (.bool q2.dead)).cell? ⟨w2.heap.size, 0, none⟩ = some (.slice p9 q2.S.length r9) := (HBm.out.sets (.slice p9 q2.S.length r9) (.slice s9 q2.P.length t9) (.int .i64 q2.fuse) (.int .i64 q2.ops) (.bool q2.dead)).cell 0
  have z1 : (((((w9.setCell ⟨w2.heap.size, 0, none⟩ (.slice p9 q2.S.length r9)).setCell ⟨w2.heap.size, 1, none⟩ (.slice s9 q2.P.length t9)).setCell ⟨w2.heap.size, 2, none⟩ (.int .i64 q2.fuse)).setCell ⟨w2.heap.size, 3, none⟩ (.int .i64 q2.ops)).setCell ⟨w2.heap.size, 4, none⟩ (.bool q2.dead)).cell? ⟨w2.heap.size, 1, none⟩ = some (.slice s9 q2.P.length t9) := (HBm.out.sets (.slice p9 q2.S.length r9) (.slice s9 q2.P.length t9) (.int .i64 q2.fuse) (.int .i64 q2.ops) (.bool q2.dead)).cell 1
  have z2 : (((((w9.setCell ⟨w2.heap.size, 0, none⟩ (.slice p9 q2.S.length r9)).setCell ⟨w2.heap.size, 1, none⟩ (.slice s9 q2.P.length t9)).setCell ⟨w2.heap.size, 2, none⟩ (.int .i64 q2.fuse)).setCell ⟨w2.heap.size, 3, none⟩ (.int .i64 q2.ops)).setCell ⟨w2.heap.size, 4, none⟩ (.bool q2.dead)).cell? ⟨w2.heap.size, 2, none⟩ = some (.int .i64 q2.fuse) := (HBm.out.sets (.slice p9 q2.S.length r9) (.slice s9 q2.P.length t9) (.int .i64 q2.fuse) (.int .i64 q2.ops) (.bool q2.dead)).cell 2
  have z3 : (((((w9.setCell ⟨w2.heap.size, 0, none⟩ (.slice p9 q2.S.length r9)).setCell ⟨w2.heap.size, 1, none⟩ (.slice s9 q2.P.length t9)).setCell ⟨w2.heap.size, 2, none⟩ (.int .i64 q2.fuse)).setCell ⟨w2.heap.size, 3, none⟩ (.int .i64 q2.ops)).setCell ⟨w2.heap.size, 4, none⟩ (.bool q2.dead)).cell? ⟨w2.heap.size, 3, none⟩ = some (.int .i64 q2.ops) := (HBm.out.sets (.slice p9 q2.S.length r9) (.slice s9 q2.P.length t9) (.int .i64 q2.fuse) (.int .i64 q2.ops) (.bool q2.dead)).cell 3
  have z4 : (((((w9.setCell ⟨w2.heap.size, 0, none⟩ (.slice p9 q2.S.length r9)).setCell ⟨w2.heap.size, 1, none⟩ (.slice s9 q2.P.length t9)).setCell ⟨w2.heap.size, 2, none⟩ (.int .i64 q2.fuse)).setCell ⟨w2.heap.size, 3, none⟩ (.int .i64 q2.ops)).setCell ⟨w2.heap.size, 4, none⟩ (.bool q2.dead)).cell? ⟨w2.heap.size, 4, none⟩ = some (.bool q2.dead) := (HBm.out.sets (.slice p9 q2.S.length r9) (.slice s9 q2.P.length t9) (.int .i64 q2.fuse) (.int .i64 q2.ops) (.bool q2.dead)).cell 4
  go_wp2_with fail
  refine (RSame_any _ _ _ _ _ _ _ _ q2 _ (HLa.out.sets_box HBm.out (.slice p9 q2.S.length r9) (.slice s9 q2.P.length t9) (.int .i64 q2.fuse) (.int .i64 q2.ops) (.bool q2.dead)) (HLb.out.sets_box HBm.out (.slice p9 q2.S.length r9) (.slice s9 q2.P.length t9) (.int .i64 q2.fuse) (.int .i64 q2.ops) (.bool q2.dead))).mono ?_
  rintro e w10 ⟨rfl, hb⟩
  clear x0 x1 x2 x3 x4 y0 y1 y2 y3 y4 z0 z1 z2 z3 z4 g0 g1 g2 g3 g4
  have HX7 := Lib.hid ((HXm.out.sets_ne (c := w2.heap.size) (by omega) (.slice p9 q2.S.length r9) (.slice s9 q2.P.length t9) (.int .i64 q2.fuse) (.int .i64 q2.ops) (.bool q2.dead)).call hb); have HA7 := Lib.hid ((HAm.out.sets_ne (c := w2.heap.size) (by omega) (.slice p9 q2.S.length r9) (.slice s9 q2.P.length t9) (.int .i64 q2.fuse) (.int .i64 q2.ops) (.bool q2.dead)).call hb); have HB7 := Lib.hid ((HBm.out.sets (.slice p9 q2.S.length r9) (.slice s9 q2.P.length t9) (.int .i64 q2.fuse) (.int .i64 q2.ops) (.bool q2.dead)).call hb); have HBL7 := Lib.hid (btrans (below_sets HBLm.out (w2.heap.size) (by omega) (.slice p9 q2.S.length r9) (.slice s9 q2.P.length t9) (.int .i64 q2.fuse) (.int .i64 q2.ops) (.bool q2.dead)) (below_sets HBLm.out (w2.heap.size) (by omega) (.slice p9 q2.S.length r9) (.slice s9 q2.P.length t9) (.int .i64 q2.fuse) (.int .i64 q2.ops) (.bool q2.dead)).size hb); have HD7 := Lib.hid (HDw.out.below (btrans (below_sets HBLm.out (w2.heap.size) (by omega) (.slice p9 q2.S.length r9) (.slice s9 q2.P.length t9) (.int .i64 q2.fuse) (.int .i64 q2.ops) (.bool q2.dead)) (below_sets HBLm.out (w2.heap.size) (by omega) (.slice p9 q2.S.length r9) (.slice s9 q2.P.length t9) (.int .i64 q2.fuse) (.int .i64 q2.ops) (.bool q2.dead)).size hb)); clear hb HXm HAm HBm HBLm HLa HLb hszm
  have x0 : w10.cell? ⟨w.heap.size, 0, none⟩ = some (.slice sa d.S.length sc) := HX7.out.cell 0
  have x1 : w10.cell? ⟨w.heap.size, 1, none⟩ = some (.slice pa d.P.length pc) := HX7.out.cell 1
  have x2 : w10.cell? ⟨w.heap.size, 2, none⟩ = some (.int .i64 d.fuse) := HX7.out.cell 2
  have x3 : w10.cell? ⟨w.heap.size, 3, none⟩ = some (.int .i64 d.ops) := HX7.out.cell 3
  have x4 : w10.cell? ⟨w.heap.size, 4, none⟩ = some (.bool d.dead) := HX7.out.cell 4
  go_wp2_with fail
  refine (Sync_any _ _ _ _ d _ HD7.out).mono ?_
  rw [Hq3.out]
  rintro e w11 ⟨p11, r11, s11, t11, rfl, hO, hb⟩
  clear x0 x1 x2 x3 x4
  have KB := Lib.hid hb; clear hb
  have hXn := HX7.out.call KB.out; have hAn := HA7.out.call KB.out; have hBn := HB7.out.call KB.out; have hBLn := btrans HBL7.out HBL7.out.size KB.out
  have hLn := hO.lists (d := q3) P3.out S3.out
  have y0 : w11.cell? ⟨w1.heap.size, 0, none⟩ = some (.slice p8 q2.S.length r8) := hAn.cell 0
  have y1 : w11.cell? ⟨w1.heap.size, 1, none⟩ = some (.slice s8 q2.P.length t8) := hAn.cell 1
  have y2 : w11.cell? ⟨w1.heap.size, 2, none⟩ = some (.int .i64 q2.fuse) := hAn.cell 2
  have y3 : w11.cell? ⟨w1.heap.size, 3, none⟩ = some (.int .i64 q2.ops) := hAn.cell 3
  have y4 : w11.cell? ⟨w1.heap.size, 4, none⟩ = some (.bool q2.dead) := hAn.cell 4
  have g0 := hAn.free 0
  have g1 := hAn.free 1
  have g2 := hAn.free 2
  have g3 := hAn.free 3
  have g4 := hAn.free 4
  have x0 : (((((w11.setCell ⟨w1.heap.size, 0, none⟩ (.slice p11 q3.S.length r11)).setCell ⟨w1.heap.size, 1, none⟩ (.slice s11 q3.P.length t11)).setCell ⟨w1.heap.size, 2, none⟩ (.int .i64 q3.fuse)).setCell ⟨w1.heap.size, 3, none⟩ (.int .i64 q3.ops)).setCell ⟨w1.heap.size, 4, none⟩ (.bool q3.dead)).cell? ⟨w.heap.size, 0, none⟩ = some (.slice sa d.S.length sc) := (hXn.sets_ne (c := w1.heap.size) (by omega) (.slice p11 q3.S.length r11) (.slice s11 q3.P.length t11) (.int .i64 q3.fuse) (.int .i64 q3.ops) (.bool q3.dead)).cell 0
  have x1 : (((((w11.setCell ⟨w1.heap.size, 0, none⟩ (.slice p11 q3.S.length r11)).setCell ⟨w1.heap.size, 1, none⟩ (.slice s11 q3.P.length t11)).setCell ⟨w1.heap.size, 2, none⟩ (.int .i64 q3.fuse)).setCell ⟨w1.heap.size, 3, none⟩ (.int .i64 q3.ops)).setCell ⟨w1.heap.size, 4, none⟩ (.bool q3.dead)).cell? ⟨w.heap.size, 1, none⟩ = some (.slice pa d.P.length pc) := (hXn.sets_ne (c := w1.heap.size) (by omega) (.slice p11 q3.S.length r11) (.slice s11 q3.P.length t11) (.int .i64 q3.fuse) (.int .i64 q3.ops) (.bool q3.dead)).cell 1
  have x2 : (((((w11.setCell ⟨w1.heap.size, 0, none⟩ (.slice p11 q3.S.length r11)).setCell ⟨w1.heap.size, 1, none⟩ (.slice s11 q3.P.length t11)).setCell ⟨w1.heap.size, 2, none⟩ (.int .i64 q3.fuse)).setCell ⟨w1.heap.size, 3, none⟩ (.int .i64 q3.ops)).setCell ⟨w1.heap.size, 4, none⟩ (.bool q3.dead)).cell? ⟨w.heap.size, 2, none⟩ = some (.int .i64 d.fuse) := (hXn.sets_ne (c := w1.heap.size) (by omega) (.slice p11 q3.S.length r11) (.slice s11 q3.P.length t11) (.int .i64 q3.fuse) (.int .i64 q3.ops) (.bool q3.dead)).cell 2
  have x3 : (((((w11.setCell ⟨w1.heap.size, 0, none⟩ (.slice p11 q3.S.length r11)).setCell ⟨w1.heap.size, 1, none⟩ (.slice s11 q3.P.length t11)).setCell ⟨w1.heap.size, 2, none⟩ (.int .i64 q3.fuse)).setCell ⟨w1.heap.size, 3, none⟩ (.int .i64 q3.ops)).setCell ⟨w1.heap.size, 4, none⟩ (.bool q3.dead)).cell? ⟨w.heap.size, 3, none⟩ = some (.int .i64 d.ops) := (hXn.sets_ne (c := w1.heap.size) (by omega) (.slice p11 q3.S.length r11) (.slice s11 q3.P.length t11) (.int .i64 q3.fuse) (.int .i64 q3.ops) (.bool q3.dead)).cell 3
  have x4 : (((((w11.setCell ⟨w1.heap.size, 0, none⟩ (.slice p11 q3.S.length r11)).setCell ⟨w1.heap.size, 1, none⟩ (.slice s11 q3.P.length t11)).setCell ⟨w1.heap.size, 2, none⟩ (.int .i64 q3.fuse)).setCell ⟨w1.heap.size, 3, none⟩ (.int .i64 q3.ops)).setCell ⟨w1.heap.size, 4, none⟩ (.bool q3.dead)).cell? ⟨w.heap.size, 4, none⟩ = some (.bool d.dead) := (hXn.sets_ne (c := w1.heap.size) (by omega) (.slice p11 q3.S.length r11) (.slice s11 q3.P.length t11) (.int .i64 q3.fuse) (.int .i64 q3.ops) (.bool q3.dead)).cell 4
  have HXn := Lib.hid hXn; have HAn := Lib.hid hAn; have HBn := Lib.hid hBn; have HBLn := Lib.hid hBLn; have HLn := Lib.hid hLn; have hszn := KB.out.size; clear hXn hAn hBn hBLn hLn hO
  go_wp2_with fail
  refine (RSync_any _ _ _ _ d _ (HDw.out.below (below_sets HBLn.out (w1.heap.size) (by omega) (.slice p11 q3.S.length r11) (.slice s11 q3.P.length t11) (.int .i64 q3.fuse) (.int .i64 q3.ops) (.bool q3.dead)))).mono ?_
  rw [Hq3.out]
  rintro e w12 ⟨p12, r12, s12, t12, rfl, hL, hb⟩
  clear x0 x1 x2 x3 x4 y0 y1 y2 y3 y4 g0 g1 g2 g3 g4
  have HXm := Lib.hid ((HXn.out.sets_ne (c := w1.heap.size) (by omega) (.slice p11 q3.S.length r11) (.slice s11 q3.P.length t11) (.int .i64 q3.fuse) (.int .i64 q3.ops) (.bool q3.dead)).call hb); have HAm := Lib.hid ((HAn.out.sets (.slice p11 q3.S.length r11) (.slice s11 q3.P.length t11) (.int .i64 q3.fuse) (.int .i64 q3.ops) (.bool q3.dead)).call hb); have HBm := Lib.hid ((HBn.out.sets_ne (c := w1.heap.size) (by omega) (.slice p11 q3.S.length r11) (.slice s11 q3.P.length t11) (.int .i64 q3.fuse) (.int .i64 q3.ops) (.bool q3.dead)).call hb); have HLa := Lib.hid ((HLn.out.sets_box HAn.out (.slice p11 q3.S.length r11) (.slice s11 q3.P.length t11) (.int .i64 q3.fuse) (.int .i64 q3.ops) (.bool q3.dead)).below hb); have HBLm := Lib.hid (btrans (below_sets HBLn.out (w1.heap.size) (by omega) (.slice p11 q3.S.length r11) (.slice s11 q3.P.length t11) (.int .i64 q3.fuse) (.int .i64 q3.ops) (.bool q3.dead)) (below_sets HBLn.out (w1.heap.size) (by omega) (.slice p11 q3.S.length r11) (.slice s11 q3.P.length t11) (.int .i64 q3.fuse) (.int .i64 q3.ops) (.bool q3.dead)).size hb); have HLb := Lib.hid hL; have hszm := HBm.out.lt
  clear hL hb HXn HAn HBn HBLn HLn KB hszn
  clear HX7 HA7 HB7 HBL7 HD7
  have y0 : w12.cell? ⟨w2.heap.size, 0, none⟩ = some (.slice p9 q2.S.length r9) := HBm.out.cell 0
  have y1 : w12.cell? ⟨w2.heap.size, 1, none⟩ = some (.slice s9 q2.P.length t9) := HBm.out.cell 1
  have y2 : w12.cell? ⟨w2.heap.size, 2, none⟩ = some (.int .i64 q2.fuse) := HBm.out.cell 2
  have y3 : w12.cell? ⟨w2.heap.size, 3, none⟩ = some (.int .i64 q2.ops) := HBm.out.cell 3
  have y4 : w12.cell? ⟨w2.heap.size, 4, none⟩ = some (.bool q2.dead) := HBm.out.cell 4
  have g0 := HBm.out.free 0
  have g1 := HBm.out.free 1
  have g2 := HBm.out.free 2
  have g3 := HBm.out.free 3
  have g4 := HBm.out.free 4
  go_wp2_with fail
  clear y0 y1 y2 y3 y4 g0 g1 g2 g3 g4
  generalize hWE : (((((w12.setCell ⟨w2.heap.size, 0, none⟩ (.slice p12 q3.S.length r12)).setCell ⟨w2.heap.size, 1, none⟩ (.slice s12 q3.P.length t12)).setCell ⟨w2.heap.size, 2, none⟩ (.int .i64 q3.fuse)).setCell ⟨w2.heap.size, 3, none⟩ (.int .i64 q3.ops)).setCell ⟨w2.heap.size, 4, none⟩ (.bool q3.dead)) = WE
  have c0 : Bx w.heap.size #[.slice sa d.S.length sc, .slice pa d.P.length pc, .int .i64 d.fuse, .int .i64 d.ops, .bool d.dead] 47 WE := by rw [← hWE]; exact HXm.out.sets_ne (c := w2.heap.size) (by omega) (.slice p12 q3.S.length r12) (.slice s12 q3.P.length t12) (.int .i64 q3.fuse) (.int .i64 q3.ops) (.bool q3.dead)
  have c1 : Bx (w1.heap.size) #[.slice p11 q3.S.length r11, .slice s11 q3.P.length t11, .int .i64 q3.fuse, .int .i64 q3.ops, .bool q3.dead] 47 WE := by rw [← hWE]; exact HAm.out.sets_ne (c := w2.heap.size) (by omega) (.slice p12 q3.S.length r12) (.slice s12 q3.P.length t12) (.int .i64 q3.fuse) (.int .i64 q3.ops) (.bool q3.dead)
  have c2 : Bx (w2.heap.size) #[.slice p12 q3.S.length r12, .slice s12 q3.P.length t12, .int .i64 q3.fuse, .int .i64 q3.ops, .bool q3.dead] 47 WE := by rw [← hWE]; exact HBm.out.sets (.slice p12 q3.S.length r12) (.slice s12 q3.P.length t12) (.int .i64 q3.fuse) (.int .i64 q3.ops) (.bool q3.dead)
  have hbe : Below w.heap.size w WE := by rw [← hWE]; exact below_sets HBLm.out (w2.heap.size) (by omega) (.slice p12 q3.S.length r12) (.slice s12 q3.P.length t12) (.int .i64 q3.fuse) (.int .i64 q3.ops) (.bool q3.dead)
  have hla : Lists WE p11 r11 s11 t11 q3 := by rw [← hWE]; exact HLa.out.sets_box HBm.out (.slice p12 q3.S.length r12) (.slice s12 q3.P.length t12) (.int .i64 q3.fuse) (.int .i64 q3.ops) (.bool q3.dead)
  have hlb : Lists WE p12 r12 s12 t12 q3 := by rw [← hWE]; exact HLb.out.sets_box HBm.out (.slice p12 q3.S.length r12) (.slice s12 q3.P.length t12) (.int .i64 q3.fuse) (.int .i64 q3.ops) (.bool q3.dead)
  clear hWE HXm HAm HBm HBLm HLa HLb hszm
  have hs0 : WE.drew.cell? ⟨w.heap.size, 0, none⟩ = some (.slice sa d.S.length sc) ∧ WE.drew.cell? ⟨w.heap.size, 1, none⟩ = some (.slice pa d.P.length pc) ∧ WE.drew.cell? ⟨w.heap.size, 2, none⟩ = some (.int .i64 d.fuse) ∧ WE.drew.cell? ⟨w.heap.size, 3, none⟩ = some (.int .i64 d.ops) ∧ WE.drew.cell? ⟨w.heap.size, 4, none⟩ = some (.bool d.dead) ∧ WE.drew.cell? ⟨w1.heap.size, 0, none⟩ = some (.slice p11 q3.S.length r11) ∧ WE.drew.cell? ⟨w1.heap.size, 1, none⟩ = some (.slice s11 q3.P.length t11) ∧ WE.drew.cell? ⟨w1.heap.size, 2, none⟩ = some (.int .i64 q3.fuse) ∧ WE.drew.cell? ⟨w1.heap.size, 3, none⟩ = some (.int .i64 q3.ops) ∧ WE.drew.cell? ⟨w1.heap.size, 4, none⟩ = some (.bool q3.dead) ∧ WE.drew.cell? ⟨w2.heap.size, 0, none⟩ = some (.slice p12 q3.S.length r12) ∧ WE.drew.cell? ⟨w2.heap.size, 1, none⟩ = some (.slice s12 q3.P.length t12) ∧ WE.drew.cell? ⟨w2.heap.size, 2, none⟩ = some (.int .i64 q3.fuse) ∧ WE.drew.cell? ⟨w2.heap.size, 3, none⟩ = some (.int .i64 q3.ops) ∧ WE.drew.cell? ⟨w2.heap.size, 4, none⟩ = some (.bool q3.dead) := ⟨c0.cell 0, c0.cell 1, c0.cell 2, c0.cell 3, c0.cell 4, c1.cell 0, c1.cell 1, c1.cell 2, c1.cell 3, c1.cell 4, c2.cell 0, c2.cell 1, c2.cell 2, c2.cell 3, c2.cell 4⟩
  have HDE := Lib.hid (HDw.out.below hbe.drew)
  have HLA3 := Lib.hid (hla.below (Below.refl _ _).drew); have HLB3 := Lib.hid (hlb.below (Below.refl _ _).drew)
  have HBE := Lib.hid hbe.drew; clear hla hlb hbe c0 c1 c2
  refine wp_region_held_drew (S := (fun w' => w'.cell? ⟨w.heap.size, 0, none⟩ = some (.slice sa d.S.length sc) ∧ w'.cell? ⟨w.heap.size, 1, none⟩ = some (.slice pa d.P.length pc) ∧ w'.cell? ⟨w.heap.size, 2, none⟩ = some (.int .i64 d.fuse) ∧ w'.cell? ⟨w.heap.size, 3, none⟩ = some (.int .i64 d.ops) ∧ w'.cell? ⟨w.heap.size, 4, none⟩ = some (.bool d.dead) ∧ w'.cell? ⟨w1.heap.size, 0, none⟩ = some (.slice p11 q3.S.length r11) ∧ w'.cell? ⟨w1.heap.size, 1, none⟩ = some (.slice s11 q3.P.length t11) ∧ w'.cell? ⟨w1.heap.size, 2, none⟩ = some (.int .i64 q3.fuse) ∧ w'.cell? ⟨w1.heap.size, 3, none⟩ = some (.int .i64 q3.ops) ∧ w'.cell? ⟨w1.heap.size, 4, none⟩ = some (.bool q3.dead) ∧ w'.cell? ⟨w2.heap.size, 0, none⟩ = some (.slice p12 q3.S.length r12) ∧ w'.cell? ⟨w2.heap.size, 1, none⟩ = some (.slice s12 q3.P.length t12) ∧ w'.cell? ⟨w2.heap.size, 2, none⟩ = some (.int .i64 q3.fuse) ∧ w'.cell? ⟨w2.heap.size, 3, none⟩ = some (.int .i64 q3.ops) ∧ w'.cell? ⟨w2.heap.size, 4, none⟩ = some (.bool q3.dead))) (by kernel_rfl) ?_ (fun hHeld => ?_)
  · exact hs0
  refine takeH (i := 0) (v := ?vv14) 94 rfl rfl (by kernel_rfl) (by kernel_rfl) (by kernel_rfl) (fun _ _ _ h => h) (Or.inl ⟨by kernel_rfl, ?yy14⟩) (by assumption) ?_
  case yy14 => intro w hSw; (try dsimp only at hSw); go_simp; (try with_reducible rfl)
  simp only [List.setIfInBounds_toArray, List.set_cons_zero, List.set_cons_succ]
  refine takeH (i := 1) (v := ?vv15) 95 rfl rfl (by kernel_rfl) (by kernel_rfl) (by kernel_rfl) (fun _ _ _ h => h) (Or.inl ⟨by kernel_rfl, ?yy15⟩) (by assumption) ?_
  case yy15 => intro w hSw; (try dsimp only at hSw); go_simp; (try with_reducible rfl)
  simp only [List.setIfInBounds_toArray, List.set_cons_zero, List.set_cons_succ]
  refine wpAnyH_ready (rs := [2]) (by kernel_rfl) (by simp) ?_
  refine (AllReadyH.cons rfl (fun K hK => ?_) AllReadyH.nil)
  go_simp
  (refine (RSame_any _ _ _ _ _ _ _ _ q3 _ HLA3.out HLB3.out).mono ?_; rintro e w20 ⟨rfl, hb20⟩)
  (try go_wp2_with fail)
  refine hK.out _ _ ?_ (fun hHeld => ?_)
  · exact cells15_below hHeld hb20
  clear hK K
  (try simp only [Act.put, List.setIfInBounds_toArray, List.set_cons_zero, List.set_cons_succ])
  refine takeH (i := 3) (v := ?vv16) 97 rfl rfl (by kernel_rfl) (by kernel_rfl) (by kernel_rfl) (fun _ _ _ h => h) (Or.inl ⟨by kernel_rfl, ?yy16⟩) (by assumption) ?_
  case yy16 => intro w hSw; (try dsimp only at hSw); go_simp; (try with_reducible rfl)
  simp only [List.setIfInBounds_toArray, List.set_cons_zero, List.set_cons_succ]
  refine takeH (i := 4) (v := ?vv17) 98 rfl rfl (by kernel_rfl) (by kernel_rfl) (by kernel_rfl) (fun _ _ _ h => h) (Or.inl ⟨by kernel_rfl, ?yy17⟩) (by assumption) ?_
  case yy17 => intro w hSw; (try dsimp only at hSw); go_simp; (try with_reducible rfl)
  simp only [List.setIfInBounds_toArray, List.set_cons_zero, List.set_cons_succ]
  refine takeH (i := 5) (v := ?vv18) 99 rfl rfl (by kernel_rfl) (by kernel_rfl) (by kernel_rfl) (fun _ _ _ h => h) (Or.inl ⟨by kernel_rfl, ?yy18⟩) (by assumption) ?_
  case yy18 => intro w hSw; (try dsimp only at hSw); go_simp; (try with_reducible rfl)
  simp only [List.setIfInBounds_toArray, List.set_cons_zero, List.set_cons_succ]
  refine takeH (i := 6) (v := ?vv19) 100 rfl rfl (by kernel_rfl) (by kernel_rfl) (by kernel_rfl) (fun _ _ _ h => h) (Or.inl ⟨by kernel_rfl, ?yy19⟩) (by assumption) ?_
  case yy19 => intro w hSw; (try dsimp only at hSw); go_simp; (try with_reducible rfl)
  simp only [List.setIfInBounds_toArray, List.set_cons_zero, List.set_cons_succ]
  refine takeH (i := 7) (v := ?vv20) 101 rfl rfl (by kernel_rfl) (by kernel_rfl) (by kernel_rfl) (fun _ _ _ h => h) (Or.inl ⟨by kernel_rfl, ?yy20⟩) (by assumption) ?_
  case yy20 => intro w hSw; (try dsimp only at hSw); go_simp; (try with_reducible rfl)
  simp only [List.setIfInBounds_toArray, List.set_cons_zero, List.set_cons_succ]
  refine takeH (i := 8) (v := ?vv21) 102 rfl rfl (by kernel_rfl) (by kernel_rfl) (by kernel_rfl) (fun _ _ _ h => h) (Or.inl ⟨by kernel_rfl, ?yy21⟩) (by assumption) ?_
  case yy21 => intro w hSw; (try dsimp only at hSw); go_simp; (try with_reducible rfl)
  simp only [List.setIfInBounds_toArray, List.set_cons_zero, List.set_cons_succ]
  refine takeH (i := 9) (v := ?vv22) 103 rfl rfl (by kernel_rfl) (by kernel_rfl) (by kernel_rfl) (fun _ _ _ h => h) (Or.inl ⟨by kernel_rfl, ?yy22⟩) (by assumption) ?_
  case yy22 => intro w hSw; (try dsimp only at hSw); go_simp; (try with_reducible rfl)
  simp only [List.setIfInBounds_toArray, List.set_cons_zero, List.set_cons_succ]
  refine takeH (i := 10) (v := ?vv23) 104 rfl rfl (by kernel_rfl) (by kernel_rfl) (by kernel_rfl) (fun _ _ _ h => h) (Or.inl ⟨by kernel_rfl, ?yy23⟩) (by assumption) ?_
  case yy23 => intro w hSw; (try dsimp only at hSw); go_simp; (try with_reducible rfl)
  simp only [List.setIfInBounds_toArray, List.set_cons_zero, List.set_cons_succ]
  refine takeH (i := 12) (v := ?vv24) 106 rfl rfl (by kernel_rfl) (by kernel_rfl) (by kernel_rfl) (fun _ _ _ h => h) (Or.inl ⟨by kernel_rfl, ?yy24⟩) (by assumption) ?_
  case yy24 => intro w hSw; (try dsimp only at hSw); go_simp; (try with_reducible rfl)
  simp only [List.setIfInBounds_toArray, List.set_cons_zero, List.set_cons_succ]
  refine takeH (i := 13) (v := ?vv25) 107 rfl rfl (by kernel_rfl) (by kernel_rfl) (by kernel_rfl) (fun _ _ _ h => h) (Or.inl ⟨by kernel_rfl, ?yy25⟩) (by assumption) ?_
  case yy25 => intro w hSw; (try dsimp only at hSw); go_simp; (try with_reducible rfl)
  simp only [List.setIfInBounds_toArray, List.set_cons_zero, List.set_cons_succ]
  refine wpAnyH_ready (rs := [11]) (by kernel_rfl) (by simp) ?_
  refine (AllReadyH.cons rfl (fun K hK => ?_) AllReadyH.nil)
  go_simp
  (refine (Fuse_any _ _ _ _ d n _ (HDE.out.below hb20)).mono ?_; rw [Hq4.out]; rintro e w21 ⟨a20, c20, a21, c21, rfl, hO21, hb21⟩)
  (try go_wp2_with fail)
  refine hK.out _ _ ?_ (fun hHeld => ?_)
  · exact cells15_below hHeld hb21
  clear hK K
  (try simp only [Act.put, List.setIfInBounds_toArray, List.set_cons_zero, List.set_cons_succ])
  refine wpAnyH_ready (rs := [14]) (by kernel_rfl) (by simp) ?_
  refine (AllReadyH.cons rfl (fun K hK => ?_) AllReadyH.nil)
  go_simp
  (refine (RFuse_use _ _ _ _ d q4 n _ ((HDE.out.below hb20).below hb21) Hq4.out).mono ?_; rintro e w22 ⟨rfl, hb22⟩)
  (try go_wp2_with fail)
  refine hK.out _ _ ?_ (fun hHeld => ?_)
  · exact cells15_below hHeld hb22
  clear hK K
  (try simp only [Act.put, List.setIfInBounds_toArray, List.set_cons_zero, List.set_cons_succ])
  refine wpAnyH_ready (rs := [15]) (by kernel_rfl) (by simp) ?_
  refine (AllReadyH.cons rfl (fun K hK => ?_) AllReadyH.nil)
  go_simp
  (refine (RSame_any _ _ _ _ _ _ _ _ q4 _ ((hO21.lists (d := q4) P4.out S4.out).below hb22) (lists_fuse (((HDE.out.below hb20).below hb21).below hb22) Hq4.out)).mono ?_; rintro e w23 ⟨rfl, hb23⟩)
  (try go_wp2_with fail)
  refine hK.out _ _ ?_ (fun hHeld => ?_)
  · exact cells15_below hHeld hb23
  clear hK K
  (try simp only [Act.put, List.setIfInBounds_toArray, List.set_cons_zero, List.set_cons_succ])
  refine takeH (i := 16) (v := ?vv26) 110 rfl rfl (by kernel_rfl) (by kernel_rfl) (by kernel_rfl) (fun _ _ _ h => h) (Or.inl ⟨by kernel_rfl, ?yy26⟩) (by assumption) ?_
  case yy26 => intro w hSw; (try dsimp only at hSw); go_simp; (try with_reducible rfl)
  simp only [List.setIfInBounds_toArray, List.set_cons_zero, List.set_cons_succ]
  refine takeH (i := 17) (v := ?vv27) 111 rfl rfl (by kernel_rfl) (by kernel_rfl) (by kernel_rfl) (fun _ _ _ h => h) (Or.inl ⟨by kernel_rfl, ?yy27⟩) (by assumption) ?_
  case yy27 => intro w hSw; (try dsimp only at hSw); go_simp; (try with_reducible rfl)
  simp only [List.setIfInBounds_toArray, List.set_cons_zero, List.set_cons_succ]
  refine wpAnyH_ready (rs := [18]) (by kernel_rfl) (by simp) ?_
  refine (AllReadyH.cons rfl (fun K hK => ?_) AllReadyH.nil)
  go_simp
  (refine (examples_any _).mono ?_; rintro e w24 ⟨rfl, hb24⟩)
  (try go_wp2_with fail)
  refine hK.out _ _ ?_ (fun hHeld => ?_)
  · exact cells15_below hHeld hb24
  clear hK K
  (try simp only [Act.put, List.setIfInBounds_toArray, List.set_cons_zero, List.set_cons_succ])
  refine takeH (i := 19) (v := ?vv28) 113 rfl rfl (by kernel_rfl) (by kernel_rfl) (by kernel_rfl) (fun _ _ _ h => h) (Or.inl ⟨by kernel_rfl, ?yy28⟩) (by assumption) ?_
  case yy28 => intro w hSw; (try dsimp only at hSw); go_simp; (try with_reducible rfl)
  simp only [List.setIfInBounds_toArray, List.set_cons_zero, List.set_cons_succ]
  refine takeH (i := 20) (v := ?vv29) 6 rfl rfl (by kernel_rfl) (by kernel_rfl) (by kernel_rfl) (fun _ _ _ h => h) (Or.inl ⟨by kernel_rfl, ?yy29⟩) (by assumption) ?_
  case yy29 => intro w hSw; (try dsimp only at hSw); go_simp; (try with_reducible rfl)
  simp only [List.setIfInBounds_toArray, List.set_cons_zero, List.set_cons_succ]
  refine wpAnyH_done (by kernel_rfl) ?_ _
  have k1 := btrans HBE.out HBE.out.size hb20
  have k2 := btrans k1 k1.size hb21
  have k3 := btrans k2 k2.size hb22
  have k4 := btrans k3 k3.size hb23
  have k5 := btrans k4 k4.size hb24
  go_wp2_with fail
  go_ret
  exact ⟨rfl, k5⟩

theorem operationsLaw (sa : Option Addr) (sc : Nat) (pa : Option Addr) (pc : Nat) (d : Dk) {w0 : World} (h1 : StrS w0 (.slice sa d.S.length sc) d.S) (h2 : WrS w0 (.slice pa d.P.length pc) d.P) (h3 : d.P.length ≤ 5864062014805) (h4 : d.S.length ≤ 9000000000000)
    (n : Int) (_wl : (Lit.int .i64 n).wf = true) (l : List UInt8) (_hl : l.length ≤ 140737488351232) (w : World) (hw : w0 = w := by rfl) :
    Calls Try.prog 12 #[.agg #[.slice sa d.S.length sc, .slice pa d.P.length pc, .int .i64 d.fuse, .int .i64 d.ops, .bool d.dead], .int .i64 n, .string (bs l)] w fun e w' => e = .returned (.bool true) ∧ Below w.heap.size w w' := by
  subst hw; exact operationsWalk sa pa sc pc d n l w0 ⟨h1, h2, by omega, by omega⟩ (by omega)
end Go.Proofs.Ytnghdolpmmdknaa
