/- What happen, Write, Sync, Fuse and Read of layer 44 (disk) return. No conditions but the sizes. -/
import Derived.Test.YtkpfkknldeafkaaDiskFn
namespace Go.Proofs.Ytkpfkknldeafkaa
open Go.RowKit

/-- what an operation returns: a disk in memory of the call's own, and an error code -/
def OpPost (r : Dk × Int) (w : World) (e : Ending) (w' : World) : Prop :=
  ∃ sa sc pa pc, e = .returned (.tuple #[.agg #[.slice sa r.1.S.length sc, .slice pa r.1.P.length pc, .int .i64 r.1.fuse, .int .i64 r.1.ops, .bool r.1.dead], .int .i64 r.2]) ∧ Owned w.heap.size r.1 w' (.slice sa r.1.S.length sc) (.slice pa r.1.P.length pc) ∧ Below w.heap.size w w'
theorem Owned.alloc {B : Nat} {d : Dk} {w : World} {vs vp : Value} (h : Owned B d w vs vp) (x : Obj) : Owned B d (w.alloc x) vs vp := h.call ((Below.refl _ _).alloc (Nat.le_refl _) _)
theorem Owned.sne {B : Nat} {d : Dk} {w : World} {vs vp : Value} (h : Owned B d w vs vp) : vs.ownBlock ≠ some w.heap.size ∧ vp.ownBlock ≠ some w.heap.size := by
  obtain ⟨B1, h1, h2, h3, h4, h5⟩ := h
  constructor
  · intro e; have := (h3.lt _ e).2; omega
  · intro e; have := (h4.lt _ e).2; omega
theorem Owned.sets {B : Nat} {d : Dk} {w : World} {vs vp : Value} (h : Owned B d w vs vp) (b : Nat) (hb : b < B) (u0 u1 u2 u3 u4 : Value) :
    Owned B d (((((w.setCell ⟨b, 0, none⟩ u0).setCell ⟨b, 1, none⟩ u1).setCell ⟨b, 2, none⟩ u2).setCell ⟨b, 3, none⟩ u3).setCell ⟨b, 4, none⟩ u4) vs vp :=
  ((((h.set b 0 hb u0).set b 1 hb u1).set b 2 hb u2).set b 3 hb u3).set b 4 hb u4
theorem Bx.sets {b : Nat} {T : TypeId} {W : World} {z0 z1 z2 z3 z4 : Value} (h : Bx b #[z0, z1, z2, z3, z4] T W) (u0 u1 u2 u3 u4 : Value) :
    Bx b #[u0, u1, u2, u3, u4] T (((((W.setCell ⟨b, 0, none⟩ u0).setCell ⟨b, 1, none⟩ u1).setCell ⟨b, 2, none⟩ u2).setCell ⟨b, 3, none⟩ u3).setCell ⟨b, 4, none⟩ u4) :=
  ((((h.set 0 u0).set 1 u1).set 2 u2).set 3 u3).set 4 u4
theorem below_sets {B : Nat} {w W : World} (h : Below B w W) (b : Nat) (hb : B ≤ b) (u0 u1 u2 u3 u4 : Value) :
    Below B w (((((W.setCell ⟨b, 0, none⟩ u0).setCell ⟨b, 1, none⟩ u1).setCell ⟨b, 2, none⟩ u2).setCell ⟨b, 3, none⟩ u3).setCell ⟨b, 4, none⟩ u4) :=
  below_set (below_set (below_set (below_set (below_set h b 0 hb u0) b 1 hb u1) b 2 hb u2) b 3 hb u3) b 4 hb u4

set_option maxRecDepth 100000 in
set_option maxHeartbeats 4000000 in
theorem happenW_any (sa pa : Option Addr) (sc pc : Nat) (d : Dk) (n : Int) (data : List UInt8) (ba bd : Nat) (w : World) (hD : Lists w sa sc pa pc d) (hA : Bx ba #[.int .i64 n] 3 w) (hDt : Bx bd #[.string (bs data)] 9 w) (hp : d.P.length ≤ 8999999999999) (f0 : 0 ≤ d.fuse) (f1 : d.fuse ≤ 1099511627776) (p0 : 0 ≤ d.ops) (p1 : d.ops ≤ 1099511627776) :
    Calls Try.prog 100 #[.agg #[.slice sa d.S.length sc, .slice pa d.P.length pc, .int .i64 d.fuse, .int .i64 d.ops, .bool d.dead], .func (.func 101) #[] #[.pointer (some ⟨ba, 0, none⟩), .pointer (some ⟨bd, 0, none⟩)]] w (OpPost (happenS d (addW n data)) w) := by
  have hb0 := ((Below.refl w.heap.size w).alloc (Nat.le_refl _) (.cells #[.slice sa d.S.length sc, .slice pa d.P.length pc, .int .i64 d.fuse, .int .i64 d.ops, .bool d.dead] 38)).alloc (by simp) (.cells #[.slice none 0 0, .slice none 0 0, .int .i64 0, .int .i64 0, .bool false] 38)
  have hR : Bx (w.heap.size + 1) #[.slice none 0 0, .slice none 0 0, .int .i64 0, .int .i64 0, .bool false] 38 ((w.alloc (.cells #[.slice sa d.S.length sc, .slice pa d.P.length pc, .int .i64 d.fuse, .int .i64 d.ops, .bool d.dead] 38)).alloc (.cells #[.slice none 0 0, .slice none 0 0, .int .i64 0, .int .i64 0, .bool false] 38)) := by
    have := Bx.new (w.alloc (.cells #[.slice sa d.S.length sc, .slice pa d.P.length pc, .int .i64 d.fuse, .int .i64 d.ops, .bool d.dead] 38)) #[.slice none 0 0, .slice none 0 0, .int .i64 0, .int .i64 0, .bool false] 38
    simpa using this
  have hD0 := hD.below hb0
  have HR := Lib.hid hR; clear hR
  have HA := Lib.hid (hA.below hb0 hA.lt)
  have HD := Lib.hid (hDt.below hb0 hDt.lt)
  clear hA hDt
  go_enter Try.func100, Try.ntmps100
  go_wp2_with fail
  refine (clone_any _ _ _ _ _ _ hD0).mono ?_
  rintro e w1 ⟨a1, c1, a2, c2, rfl, hO, hb1⟩
  have hR := HR.out.call hb1; clear HR
  have hbl1 := btrans hb0 hb0.size hb1
  have hz1 : w.heap.size + 1 < w1.heap.size := by have := hb1.size; simp at this; omega
  have r0 : w1.cell? ⟨w.heap.size + 1, 0, none⟩ = some (.slice none 0 0) := hR.cell 0
  have r1 : w1.cell? ⟨w.heap.size + 1, 1, none⟩ = some (.slice none 0 0) := hR.cell 1
  have r2 : w1.cell? ⟨w.heap.size + 1, 2, none⟩ = some (.int .i64 0) := hR.cell 2
  have r3 : w1.cell? ⟨w.heap.size + 1, 3, none⟩ = some (.int .i64 0) := hR.cell 3
  have r4 : w1.cell? ⟨w.heap.size + 1, 4, none⟩ = some (.bool false) := hR.cell 4
  have g0 := hR.free 0
  have g1 := hR.free 1
  have g2 := hR.free 2
  have g3 := hR.free 3
  have g4 := hR.free 4
  have hO1 := hO.mono (B' := w.heap.size + 2) (by simp)
  have HO := Lib.hid hO1; clear hO hO1 hD0 hD
  have hA1 := HA.out.call hb1; clear HA
  have hD1 := HD.out.call hb1; clear HD
  have HA := Lib.hid hA1; clear hA1
  have HD := Lib.hid hD1; clear hD1
  have HR := Lib.hid hR; clear hR hb1 hb0
  by_cases h1 : d.fuse = 1
  · have t1 : (d.fuse == 1) = true := by rw [h1]; rfl
    have HF := Lib.hid (show happenS d (addW n data) = ({ d with ops := min (d.ops + 1) 1099511627776, fuse := 0, dead := true }, 18) by unfold happenS; rw [if_pos h1])
    clear h1
    go_wp2
    have kk := (HR.out.sets (.slice a1 d.S.length c1) (.slice a2 d.P.length c2) (.int .i64 0) (.int .i64 (min (d.ops + 1) 1099511627776)) (.bool true)).alloc (.cells #[.slice a1 d.S.length c1, .slice a2 d.P.length c2, .int .i64 0, .int .i64 (min (d.ops + 1) 1099511627776), .bool true] 38)
    have k0 := kk.cell 0
    have k1 := kk.cell 1
    have k2 := kk.cell 2
    have k3 := kk.cell 3
    have k4 := kk.cell 4
    simp only [List.getElem?_toArray, List.getElem?_cons_zero, List.getElem?_cons_succ] at k0 k1 k2 k3 k4
    clear kk
    refine bodyPost_ret (v := .tuple #[.agg #[.slice a1 d.S.length c1, .slice a2 d.P.length c2, .int .i64 0, .int .i64 (min (d.ops + 1) 1099511627776), .bool true], .int .i64 18]) (by simp [results, Try.results100, go_sem, k0, k1, k2, k3, k4]) rfl ?_
    rw [HF.out]
    refine ⟨a1, c1, a2, c2, rfl, ?_, ?_⟩
    · exact ((HO.out.sets (w.heap.size + 1) (by omega) _ _ _ _ _).alloc _).mono (by omega)
    · exact (below_sets hbl1 (w.heap.size + 1) (by omega) _ _ _ _ _).alloc (by simp; omega) _
  · have t1 : (d.fuse == 1) = false := by rw [beq_eq_false_iff_ne]; exact h1
    have HF := Lib.hid (show happenS d (addW n data) = (addW n data { d with ops := min (d.ops + 1) 1099511627776, fuse := max (d.fuse - 1) 0 }, 0) by unfold happenS; rw [if_neg h1])
    obtain ⟨d1, hd1⟩ : ∃ d1 : Dk, d1 = { d with ops := min (d.ops + 1) 1099511627776, fuse := max (d.fuse - 1) 0 } := ⟨_, rfl⟩
    rw [← hd1] at HF
    have hO1 : Owned (w.heap.size + 2) d1 (w1.alloc (.cells #[.slice a1 d.S.length c1, .slice a2 d.P.length c2, .int .i64 (max (d.fuse - 1) 0), .int .i64 (min (d.ops + 1) 1099511627776), .bool d.dead] 38)) (.slice a1 d1.S.length c1) (.slice a2 d1.P.length c2) := by rw [hd1]; exact HO.out.alloc _
    have hne := HO.out.sne
    have hX1 : Bx w1.heap.size #[.slice a1 d1.S.length c1, .slice a2 d1.P.length c2, .int .i64 d1.fuse, .int .i64 d1.ops, .bool d1.dead] 38 (w1.alloc (.cells #[.slice a1 d.S.length c1, .slice a2 d.P.length c2, .int .i64 (max (d.fuse - 1) 0), .int .i64 (min (d.ops + 1) 1099511627776), .bool d.dead] 38)) := by rw [hd1]; exact Bx.new _ _ _
    have hl1 : d1.P.length = d.P.length := by rw [hd1]
    have hl2 : d1.S.length = d.S.length := by rw [hd1]
    have HO1 := Lib.hid hO1; have HX1 := Lib.hid hX1; have HL1 := Lib.hid hl1; have HL2 := Lib.hid hl2; have HNE := Lib.hid hne
    clear hO1 hX1 hl1 hl2 hne hd1 h1
    go_wp2_with fail
    refine (WriteF_any w1.heap.size ba bd (w.heap.size + 2) (w.heap.size + 2) a1 a2 c1 c2 d1 n data _ HX1.out (HA.out.alloc _) (HD.out.alloc _) HO1.out (by rw [HL2.out]; exact HNE.out.1) (by rw [HL1.out]; exact HNE.out.2) (Nat.le_refl _) (by omega) (by rw [HL1.out]; exact hp)).mono ?_
    rintro e w2 ⟨a3, c3, a4, c4, rfl, hX2, hO2, hb2⟩
    obtain ⟨d2, hd2⟩ : ∃ d2, d2 = addW n data d1 := ⟨_, rfl⟩
    rw [← hd2] at hX2 hO2 HF
    have hR2 := (HR.out.alloc (.cells #[.slice a1 d.S.length c1, .slice a2 d.P.length c2, .int .i64 (max (d.fuse - 1) 0), .int .i64 (min (d.ops + 1) 1099511627776), .bool d.dead] 38)).below hb2 (by omega)
    have hbl2 := (hbl1.alloc hbl1.size (.cells #[.slice a1 d.S.length c1, .slice a2 d.P.length c2, .int .i64 (max (d.fuse - 1) 0), .int .i64 (min (d.ops + 1) 1099511627776), .bool d.dead] 38)).trans (hb2.mono (by omega))
    have hz2 : w.heap.size + 1 < w2.heap.size := by have := hb2.size; simp at this; omega
    clear r0 r1 r2 r3 r4 g0 g1 g2 g3 g4
    have r0 : w2.cell? ⟨w.heap.size + 1, 0, none⟩ = some (.slice none 0 0) := hR2.cell 0
    have r1 : w2.cell? ⟨w.heap.size + 1, 1, none⟩ = some (.slice none 0 0) := hR2.cell 1
    have r2 : w2.cell? ⟨w.heap.size + 1, 2, none⟩ = some (.int .i64 0) := hR2.cell 2
    have r3 : w2.cell? ⟨w.heap.size + 1, 3, none⟩ = some (.int .i64 0) := hR2.cell 3
    have r4 : w2.cell? ⟨w.heap.size + 1, 4, none⟩ = some (.bool false) := hR2.cell 4
    have g0 := hR2.free 0
    have g1 := hR2.free 1
    have g2 := hR2.free 2
    have g3 := hR2.free 3
    have g4 := hR2.free 4
    have x0 : w2.cell? ⟨w1.heap.size, 0, none⟩ = some (.slice a3 d2.S.length c3) := hX2.cell 0
    have x1 : w2.cell? ⟨w1.heap.size, 1, none⟩ = some (.slice a4 d2.P.length c4) := hX2.cell 1
    have x2 : w2.cell? ⟨w1.heap.size, 2, none⟩ = some (.int .i64 d2.fuse) := hX2.cell 2
    have x3 : w2.cell? ⟨w1.heap.size, 3, none⟩ = some (.int .i64 d2.ops) := hX2.cell 3
    have x4 : w2.cell? ⟨w1.heap.size, 4, none⟩ = some (.bool d2.dead) := hX2.cell 4
    have kk := (hR2.sets (.slice a3 d2.S.length c3) (.slice a4 d2.P.length c4) (.int .i64 d2.fuse) (.int .i64 d2.ops) (.bool d2.dead))
    have k0 := kk.cell 0
    have k1 := kk.cell 1
    have k2 := kk.cell 2
    have k3 := kk.cell 3
    have k4 := kk.cell 4
    simp only [List.getElem?_toArray, List.getElem?_cons_zero, List.getElem?_cons_succ] at k0 k1 k2 k3 k4
    clear kk
    have HO2 := Lib.hid hO2; clear hO2 hX2 hR2 hb2 hbl1 HR HO HO1 HX1 HL1 HL2 HNE hd2
    go_wp2
    refine bodyPost_ret (v := .tuple #[.agg #[.slice a3 d2.S.length c3, .slice a4 d2.P.length c4, .int .i64 d2.fuse, .int .i64 d2.ops, .bool d2.dead], .int .i64 0]) (by simp [results, Try.results100, go_sem, k0, k1, k2, k3, k4]) rfl ?_
    rw [HF.out]
    refine ⟨a3, c3, a4, c4, rfl, ?_, ?_⟩
    · exact (HO2.out.sets (w.heap.size + 1) (by omega) _ _ _ _ _).mono (by omega)
    · exact below_sets hbl2 (w.heap.size + 1) (by omega) _ _ _ _ _
set_option maxRecDepth 100000 in
set_option maxHeartbeats 4000000 in
theorem happenS_any (sa pa : Option Addr) (sc pc : Nat) (d : Dk) (w : World) (hD : Lists w sa sc pa pc d) (hs0 : 0 < d.S.length) (hs1 : d.S.length ≤ 1024) (hv : ∀ x ∈ d.P, 0 ≤ x.1 ∧ x.1 < (d.S.length : Int)) (hp : d.P.length ≤ 9000000000000) (f0 : 0 ≤ d.fuse) (f1 : d.fuse ≤ 1099511627776) (p0 : 0 ≤ d.ops) (p1 : d.ops ≤ 1099511627776) :
    Calls Try.prog 100 #[.agg #[.slice sa d.S.length sc, .slice pa d.P.length pc, .int .i64 d.fuse, .int .i64 d.ops, .bool d.dead], .func (.func 102) #[] #[]] w (OpPost (happenS d syncD) w) := by
  have hb0 := ((Below.refl w.heap.size w).alloc (Nat.le_refl _) (.cells #[.slice sa d.S.length sc, .slice pa d.P.length pc, .int .i64 d.fuse, .int .i64 d.ops, .bool d.dead] 38)).alloc (by simp) (.cells #[.slice none 0 0, .slice none 0 0, .int .i64 0, .int .i64 0, .bool false] 38)
  have hR : Bx (w.heap.size + 1) #[.slice none 0 0, .slice none 0 0, .int .i64 0, .int .i64 0, .bool false] 38 ((w.alloc (.cells #[.slice sa d.S.length sc, .slice pa d.P.length pc, .int .i64 d.fuse, .int .i64 d.ops, .bool d.dead] 38)).alloc (.cells #[.slice none 0 0, .slice none 0 0, .int .i64 0, .int .i64 0, .bool false] 38)) := by
    have := Bx.new (w.alloc (.cells #[.slice sa d.S.length sc, .slice pa d.P.length pc, .int .i64 d.fuse, .int .i64 d.ops, .bool d.dead] 38)) #[.slice none 0 0, .slice none 0 0, .int .i64 0, .int .i64 0, .bool false] 38
    simpa using this
  have hD0 := hD.below hb0
  have HR := Lib.hid hR; clear hR
  have HV := Lib.hid hv; clear hv
  go_enter Try.func100, Try.ntmps100
  go_wp2_with fail
  refine (clone_any _ _ _ _ _ _ hD0).mono ?_
  rintro e w1 ⟨a1, c1, a2, c2, rfl, hO, hb1⟩
  have hR := HR.out.call hb1; clear HR
  have hbl1 := btrans hb0 hb0.size hb1
  have hz1 : w.heap.size + 1 < w1.heap.size := by have := hb1.size; simp at this; omega
  have r0 : w1.cell? ⟨w.heap.size + 1, 0, none⟩ = some (.slice none 0 0) := hR.cell 0
  have r1 : w1.cell? ⟨w.heap.size + 1, 1, none⟩ = some (.slice none 0 0) := hR.cell 1
  have r2 : w1.cell? ⟨w.heap.size + 1, 2, none⟩ = some (.int .i64 0) := hR.cell 2
  have r3 : w1.cell? ⟨w.heap.size + 1, 3, none⟩ = some (.int .i64 0) := hR.cell 3
  have r4 : w1.cell? ⟨w.heap.size + 1, 4, none⟩ = some (.bool false) := hR.cell 4
  have g0 := hR.free 0
  have g1 := hR.free 1
  have g2 := hR.free 2
  have g3 := hR.free 3
  have g4 := hR.free 4
  have hO1 := hO.mono (B' := w.heap.size + 2) (by simp)
  have HO := Lib.hid hO1; clear hO hO1 hD0 hD
  have HR := Lib.hid hR; clear hR hb1 hb0
  by_cases h1 : d.fuse = 1
  · have t1 : (d.fuse == 1) = true := by rw [h1]; rfl
    have HF := Lib.hid (show happenS d syncD = ({ d with ops := min (d.ops + 1) 1099511627776, fuse := 0, dead := true }, 18) by unfold happenS; rw [if_pos h1])
    clear h1
    go_wp2
    have kk := (HR.out.sets (.slice a1 d.S.length c1) (.slice a2 d.P.length c2) (.int .i64 0) (.int .i64 (min (d.ops + 1) 1099511627776)) (.bool true)).alloc (.cells #[.slice a1 d.S.length c1, .slice a2 d.P.length c2, .int .i64 0, .int .i64 (min (d.ops + 1) 1099511627776), .bool true] 38)
    have k0 := kk.cell 0
    have k1 := kk.cell 1
    have k2 := kk.cell 2
    have k3 := kk.cell 3
    have k4 := kk.cell 4
    simp only [List.getElem?_toArray, List.getElem?_cons_zero, List.getElem?_cons_succ] at k0 k1 k2 k3 k4
    clear kk
    refine bodyPost_ret (v := .tuple #[.agg #[.slice a1 d.S.length c1, .slice a2 d.P.length c2, .int .i64 0, .int .i64 (min (d.ops + 1) 1099511627776), .bool true], .int .i64 18]) (by simp [results, Try.results100, go_sem, k0, k1, k2, k3, k4]) rfl ?_
    rw [HF.out]
    refine ⟨a1, c1, a2, c2, rfl, ?_, ?_⟩
    · exact ((HO.out.sets (w.heap.size + 1) (by omega) _ _ _ _ _).alloc _).mono (by omega)
    · exact (below_sets hbl1 (w.heap.size + 1) (by omega) _ _ _ _ _).alloc (by simp; omega) _
  · have t1 : (d.fuse == 1) = false := by rw [beq_eq_false_iff_ne]; exact h1
    have HF := Lib.hid (show happenS d syncD = (syncD { d with ops := min (d.ops + 1) 1099511627776, fuse := max (d.fuse - 1) 0 }, 0) by unfold happenS; rw [if_neg h1])
    obtain ⟨d1, hd1⟩ : ∃ d1 : Dk, d1 = { d with ops := min (d.ops + 1) 1099511627776, fuse := max (d.fuse - 1) 0 } := ⟨_, rfl⟩
    rw [← hd1] at HF
    have hO1 : Owned (w.heap.size + 2) d1 (w1.alloc (.cells #[.slice a1 d.S.length c1, .slice a2 d.P.length c2, .int .i64 (max (d.fuse - 1) 0), .int .i64 (min (d.ops + 1) 1099511627776), .bool d.dead] 38)) (.slice a1 d1.S.length c1) (.slice a2 d1.P.length c2) := by rw [hd1]; exact HO.out.alloc _
    have hne := HO.out.sne
    have hX1 : Bx w1.heap.size #[.slice a1 d1.S.length c1, .slice a2 d1.P.length c2, .int .i64 d1.fuse, .int .i64 d1.ops, .bool d1.dead] 38 (w1.alloc (.cells #[.slice a1 d.S.length c1, .slice a2 d.P.length c2, .int .i64 (max (d.fuse - 1) 0), .int .i64 (min (d.ops + 1) 1099511627776), .bool d.dead] 38)) := by rw [hd1]; exact Bx.new _ _ _
    have hl1 : d1.P.length = d.P.length := by rw [hd1]
    have hl2 : d1.S.length = d.S.length := by rw [hd1]
    have hv1 : ∀ x ∈ d1.P, 0 ≤ x.1 ∧ x.1 < (d1.S.length : Int) := by rw [hd1]; exact HV.out
    have HV1 := Lib.hid hv1; clear hv1
    have HO1 := Lib.hid hO1; have HX1 := Lib.hid hX1; have HL1 := Lib.hid hl1; have HL2 := Lib.hid hl2; have HNE := Lib.hid hne
    clear hO1 hX1 hl1 hl2 hne hd1 h1
    go_wp2_with fail
    refine (SyncF_any w1.heap.size (w.heap.size + 2) (w.heap.size + 2) a1 a2 c1 c2 d1 _ HX1.out HO1.out (by rw [HL2.out]; exact HNE.out.1) (by rw [HL1.out]; exact HNE.out.2) (Nat.le_refl _) (by omega) (by rw [HL1.out]; exact hp) (by rw [HL2.out]; exact hs0) (by rw [HL2.out]; exact hs1) HV1.out).mono ?_
    rintro e w2 ⟨a3, c3, a4, c4, rfl, hX2, hO2, hb2⟩
    obtain ⟨d2, hd2⟩ : ∃ d2, d2 = syncD d1 := ⟨_, rfl⟩
    rw [← hd2] at hX2 hO2 HF
    have hR2 := (HR.out.alloc (.cells #[.slice a1 d.S.length c1, .slice a2 d.P.length c2, .int .i64 (max (d.fuse - 1) 0), .int .i64 (min (d.ops + 1) 1099511627776), .bool d.dead] 38)).below hb2 (by omega)
    have hbl2 := (hbl1.alloc hbl1.size (.cells #[.slice a1 d.S.length c1, .slice a2 d.P.length c2, .int .i64 (max (d.fuse - 1) 0), .int .i64 (min (d.ops + 1) 1099511627776), .bool d.dead] 38)).trans (hb2.mono (by omega))
    have hz2 : w.heap.size + 1 < w2.heap.size := by have := hb2.size; simp at this; omega
    clear r0 r1 r2 r3 r4 g0 g1 g2 g3 g4
    have r0 : w2.cell? ⟨w.heap.size + 1, 0, none⟩ = some (.slice none 0 0) := hR2.cell 0
    have r1 : w2.cell? ⟨w.heap.size + 1, 1, none⟩ = some (.slice none 0 0) := hR2.cell 1
    have r2 : w2.cell? ⟨w.heap.size + 1, 2, none⟩ = some (.int .i64 0) := hR2.cell 2
    have r3 : w2.cell? ⟨w.heap.size + 1, 3, none⟩ = some (.int .i64 0) := hR2.cell 3
    have r4 : w2.cell? ⟨w.heap.size + 1, 4, none⟩ = some (.bool false) := hR2.cell 4
    have g0 := hR2.free 0
    have g1 := hR2.free 1
    have g2 := hR2.free 2
    have g3 := hR2.free 3
    have g4 := hR2.free 4
    have x0 : w2.cell? ⟨w1.heap.size, 0, none⟩ = some (.slice a3 d2.S.length c3) := hX2.cell 0
    have x1 : w2.cell? ⟨w1.heap.size, 1, none⟩ = some (.slice a4 d2.P.length c4) := hX2.cell 1
    have x2 : w2.cell? ⟨w1.heap.size, 2, none⟩ = some (.int .i64 d2.fuse) := hX2.cell 2
    have x3 : w2.cell? ⟨w1.heap.size, 3, none⟩ = some (.int .i64 d2.ops) := hX2.cell 3
    have x4 : w2.cell? ⟨w1.heap.size, 4, none⟩ = some (.bool d2.dead) := hX2.cell 4
    have kk := (hR2.sets (.slice a3 d2.S.length c3) (.slice a4 d2.P.length c4) (.int .i64 d2.fuse) (.int .i64 d2.ops) (.bool d2.dead))
    have k0 := kk.cell 0
    have k1 := kk.cell 1
    have k2 := kk.cell 2
    have k3 := kk.cell 3
    have k4 := kk.cell 4
    simp only [List.getElem?_toArray, List.getElem?_cons_zero, List.getElem?_cons_succ] at k0 k1 k2 k3 k4
    clear kk
    have HO2 := Lib.hid hO2; clear hO2 hX2 hR2 hb2 hbl1 HR HO HO1 HX1 HL1 HL2 HNE hd2
    go_wp2
    refine bodyPost_ret (v := .tuple #[.agg #[.slice a3 d2.S.length c3, .slice a4 d2.P.length c4, .int .i64 d2.fuse, .int .i64 d2.ops, .bool d2.dead], .int .i64 0]) (by simp [results, Try.results100, go_sem, k0, k1, k2, k3, k4]) rfl ?_
    rw [HF.out]
    refine ⟨a3, c3, a4, c4, rfl, ?_, ?_⟩
    · exact (HO2.out.sets (w.heap.size + 1) (by omega) _ _ _ _ _).mono (by omega)
    · exact below_sets hbl2 (w.heap.size + 1) (by omega) _ _ _ _ _

set_option maxRecDepth 100000 in
set_option maxHeartbeats 4000000 in
theorem Sync_any (sa pa : Option Addr) (sc pc : Nat) (d : Dk) (w : World) (hD : Lists w sa sc pa pc d) :
    Calls Try.prog 62 #[.agg #[.slice sa d.S.length sc, .slice pa d.P.length pc, .int .i64 d.fuse, .int .i64 d.ops, .bool d.dead]] w (OpPost (syncS d) w) := by
  have hb0 := ((Below.refl w.heap.size w).alloc (Nat.le_refl _) (.cells #[.slice sa d.S.length sc, .slice pa d.P.length pc, .int .i64 d.fuse, .int .i64 d.ops, .bool d.dead] 38)).alloc (by simp) (.cells #[.slice none 0 0, .slice none 0 0, .int .i64 0, .int .i64 0, .bool false] 38)
  have hX : Bx w.heap.size #[.slice sa d.S.length sc, .slice pa d.P.length pc, .int .i64 d.fuse, .int .i64 d.ops, .bool d.dead] 38 ((w.alloc (.cells #[.slice sa d.S.length sc, .slice pa d.P.length pc, .int .i64 d.fuse, .int .i64 d.ops, .bool d.dead] 38)).alloc (.cells #[.slice none 0 0, .slice none 0 0, .int .i64 0, .int .i64 0, .bool false] 38)) := by
    have h := (Bx.new w #[.slice sa d.S.length sc, .slice pa d.P.length pc, .int .i64 d.fuse, .int .i64 d.ops, .bool d.dead] 38)
    have h := h.alloc (.cells #[.slice none 0 0, .slice none 0 0, .int .i64 0, .int .i64 0, .bool false] 38)
    simpa using h
  have HX := Lib.hid hX; clear hX
  have hR : Bx (w.heap.size + 1) #[.slice none 0 0, .slice none 0 0, .int .i64 0, .int .i64 0, .bool false] 38 ((w.alloc (.cells #[.slice sa d.S.length sc, .slice pa d.P.length pc, .int .i64 d.fuse, .int .i64 d.ops, .bool d.dead] 38)).alloc (.cells #[.slice none 0 0, .slice none 0 0, .int .i64 0, .int .i64 0, .bool false] 38)) := by
    have h := (Bx.new (w.alloc (.cells #[.slice sa d.S.length sc, .slice pa d.P.length pc, .int .i64 d.fuse, .int .i64 d.ops, .bool d.dead] 38)) #[.slice none 0 0, .slice none 0 0, .int .i64 0, .int .i64 0, .bool false] 38)
    simpa using h
  have HR := Lib.hid hR; clear hR
  have hD0 := hD.below hb0
  go_enter Try.func62, Try.ntmps62
  go_wp2_with fail
  refine (Valid_any _ _ _ _ _ _ hD0).mono ?_
  cases hv : validB d with
  | false =>
    have HF := Lib.hid (show syncS d = (d, 1) by unfold syncS; rw [hv]; simp)
    rintro e w1 ⟨rfl, hb1⟩
    have hX := HX.out.call hb1; clear HX; have HX := Lib.hid hX; clear hX
    have hR := HR.out.call hb1; clear HR; have HR := Lib.hid hR; clear hR
    have hbl1 := btrans hb0 hb0.size hb1
    have hD1 := hD0.below hb1
    clear hv hb1
    have hX := HX.out
    have x0 : w1.cell? ⟨w.heap.size, 0, none⟩ = some (.slice sa d.S.length sc) := hX.cell 0
    have x1 : w1.cell? ⟨w.heap.size, 1, none⟩ = some (.slice pa d.P.length pc) := hX.cell 1
    have x2 : w1.cell? ⟨w.heap.size, 2, none⟩ = some (.int .i64 d.fuse) := hX.cell 2
    have x3 : w1.cell? ⟨w.heap.size, 3, none⟩ = some (.int .i64 d.ops) := hX.cell 3
    have x4 : w1.cell? ⟨w.heap.size, 4, none⟩ = some (.bool d.dead) := hX.cell 4
    go_wp2_with fail
    refine (clone_any _ _ _ _ _ _ hD1).mono ?_
    rintro e wc ⟨a1, c1, a2, c2, rfl, hO, hbc⟩
    have hR := HR.out.call hbc
    have hbl := btrans hbl1 hbl1.size hbc
    have hzc : w.heap.size + 1 < wc.heap.size := by have := hbc.size; have := HR.out.lt; omega
    clear x0 x1 x2 x3 x4 hX
    have r0 : wc.cell? ⟨w.heap.size + 1, 0, none⟩ = some (.slice none 0 0) := hR.cell 0
    have r1 : wc.cell? ⟨w.heap.size + 1, 1, none⟩ = some (.slice none 0 0) := hR.cell 1
    have r2 : wc.cell? ⟨w.heap.size + 1, 2, none⟩ = some (.int .i64 0) := hR.cell 2
    have r3 : wc.cell? ⟨w.heap.size + 1, 3, none⟩ = some (.int .i64 0) := hR.cell 3
    have r4 : wc.cell? ⟨w.heap.size + 1, 4, none⟩ = some (.bool false) := hR.cell 4
    have g0 := hR.free 0
    have g1 := hR.free 1
    have g2 := hR.free 2
    have g3 := hR.free 3
    have g4 := hR.free 4
    have kk := (hR.sets (.slice a1 d.S.length c1) (.slice a2 d.P.length c2) (.int .i64 d.fuse) (.int .i64 d.ops) (.bool d.dead))
    have k0 := kk.cell 0
    have k1 := kk.cell 1
    have k2 := kk.cell 2
    have k3 := kk.cell 3
    have k4 := kk.cell 4
    simp only [List.getElem?_toArray, List.getElem?_cons_zero, List.getElem?_cons_succ] at k0 k1 k2 k3 k4
    clear kk
    have hlt : w.heap.size + 1 < w1.heap.size := HR.out.lt
    have HO := Lib.hid hO; clear hO hR
    go_wp2
    refine bodyPost_ret (v := .tuple #[.agg #[.slice a1 d.S.length c1, .slice a2 d.P.length c2, .int .i64 d.fuse, .int .i64 d.ops, .bool d.dead], .int .i64 1]) (by simp [results, Try.results62, go_sem, k0, k1, k2, k3, k4]) rfl ?_
    rw [HF.out]
    refine ⟨a1, c1, a2, c2, rfl, ?_, ?_⟩
    · exact (HO.out.sets (w.heap.size + 1) hlt _ _ _ _ _).mono (by have := hbl1.size; omega)
    · exact below_sets hbl (w.heap.size + 1) (by omega) _ _ _ _ _
  | true =>
    rintro e w1 ⟨rfl, hb1⟩
    have hX := HX.out.call hb1; clear HX; have HX := Lib.hid hX; clear hX
    have hR := HR.out.call hb1; clear HR; have HR := Lib.hid hR; clear hR
    have hbl1 := btrans hb0 hb0.size hb1
    have hD1 := hD0.below hb1
    obtain ⟨hn, hsec, hpen⟩ := (validB_iff d).1 hv
    obtain ⟨n1, n2, n3, n4, n5, n6⟩ := (numsB_iff d).1 hn
    have HV := Lib.hid hv; have HPN := Lib.hid hpen
    clear hv hn hsec hpen hb1
    have hX := HX.out
    have x0 : w1.cell? ⟨w.heap.size, 0, none⟩ = some (.slice sa d.S.length sc) := hX.cell 0
    have x1 : w1.cell? ⟨w.heap.size, 1, none⟩ = some (.slice pa d.P.length pc) := hX.cell 1
    have x2 : w1.cell? ⟨w.heap.size, 2, none⟩ = some (.int .i64 d.fuse) := hX.cell 2
    have x3 : w1.cell? ⟨w.heap.size, 3, none⟩ = some (.int .i64 d.ops) := hX.cell 3
    have x4 : w1.cell? ⟨w.heap.size, 4, none⟩ = some (.bool d.dead) := hX.cell 4
    cases hd : d.dead with
    | true =>
      have HF := Lib.hid (show syncS d = (d, 18) by unfold syncS; rw [HV.out, hd]; simp)
      rw [hd] at x4
      have HDD := Lib.hid hd; clear hd
      go_wp2_with fail
      rw [show (.bool true : Value) = .bool d.dead by rw [HDD.out]]
      refine (clone_any _ _ _ _ _ _ hD1).mono ?_
      rintro e wc ⟨a1, c1, a2, c2, rfl, hO, hbc⟩
      have hR := HR.out.call hbc
      have hblc := btrans hbl1 hbl1.size hbc
      have hzc : w.heap.size + 1 < wc.heap.size := by have := hbc.size; have := HR.out.lt; omega
      clear x0 x1 x2 x3 x4 hX
      have r0 : wc.cell? ⟨w.heap.size + 1, 0, none⟩ = some (.slice none 0 0) := hR.cell 0
      have r1 : wc.cell? ⟨w.heap.size + 1, 1, none⟩ = some (.slice none 0 0) := hR.cell 1
      have r2 : wc.cell? ⟨w.heap.size + 1, 2, none⟩ = some (.int .i64 0) := hR.cell 2
      have r3 : wc.cell? ⟨w.heap.size + 1, 3, none⟩ = some (.int .i64 0) := hR.cell 3
      have r4 : wc.cell? ⟨w.heap.size + 1, 4, none⟩ = some (.bool false) := hR.cell 4
      have g0 := hR.free 0
      have g1 := hR.free 1
      have g2 := hR.free 2
      have g3 := hR.free 3
      have g4 := hR.free 4
      have kk := (hR.sets (.slice a1 d.S.length c1) (.slice a2 d.P.length c2) (.int .i64 d.fuse) (.int .i64 d.ops) (.bool d.dead))
      have k0 := kk.cell 0
      have k1 := kk.cell 1
      have k2 := kk.cell 2
      have k3 := kk.cell 3
      have k4 := kk.cell 4
      simp only [List.getElem?_toArray, List.getElem?_cons_zero, List.getElem?_cons_succ] at k0 k1 k2 k3 k4
      clear kk
      have hlt : w.heap.size + 1 < w1.heap.size := HR.out.lt
      have HO := Lib.hid hO; clear hO hR
      go_wp2
      refine bodyPost_ret (v := .tuple #[.agg #[.slice a1 d.S.length c1, .slice a2 d.P.length c2, .int .i64 d.fuse, .int .i64 d.ops, .bool d.dead], .int .i64 18]) (by simp [results, Try.results62, go_sem, k0, k1, k2, k3, k4]) rfl ?_
      rw [HF.out]
      refine ⟨a1, c1, a2, c2, rfl, ?_, ?_⟩
      · exact (HO.out.sets (w.heap.size + 1) hlt _ _ _ _ _).mono (by have := hbl1.size; omega)
      · exact below_sets hblc (w.heap.size + 1) (by omega) _ _ _ _ _
    | false =>
      have HF := Lib.hid (show syncS d = happenS d syncD by unfold syncS; rw [HV.out, hd]; simp)
      rw [hd] at x4
      have HDD := Lib.hid hd; clear hd
      go_wp2_with fail
      rw [show (.bool false : Value) = .bool d.dead by rw [HDD.out]]
      refine (happenS_any _ _ _ _ _ _ hD1 (by omega) n2 (fun x hx => ⟨(HPN.out x hx).1, (HPN.out x hx).2.1⟩) hD1.2.2.1 n3 n4 n5 n6).mono ?_
      obtain ⟨⟨d3, er⟩, hde⟩ : ∃ q, happenS d syncD = q := ⟨_, rfl⟩
      rw [hde] at HF ⊢
      clear hde
      rintro e wc ⟨a1, c1, a2, c2, rfl, hO, hbc⟩
      have hR := HR.out.call hbc
      have hblc := btrans hbl1 hbl1.size hbc
      have hzc : w.heap.size + 1 < wc.heap.size := by have := hbc.size; have := HR.out.lt; omega
      clear x0 x1 x2 x3 x4 hX
      have r0 : wc.cell? ⟨w.heap.size + 1, 0, none⟩ = some (.slice none 0 0) := hR.cell 0
      have r1 : wc.cell? ⟨w.heap.size + 1, 1, none⟩ = some (.slice none 0 0) := hR.cell 1
      have r2 : wc.cell? ⟨w.heap.size + 1, 2, none⟩ = some (.int .i64 0) := hR.cell 2
      have r3 : wc.cell? ⟨w.heap.size + 1, 3, none⟩ = some (.int .i64 0) := hR.cell 3
      have r4 : wc.cell? ⟨w.heap.size + 1, 4, none⟩ = some (.bool false) := hR.cell 4
      have g0 := hR.free 0
      have g1 := hR.free 1
      have g2 := hR.free 2
      have g3 := hR.free 3
      have g4 := hR.free 4
      have kk := (hR.sets (.slice a1 d3.S.length c1) (.slice a2 d3.P.length c2) (.int .i64 d3.fuse) (.int .i64 d3.ops) (.bool d3.dead))
      have k0 := kk.cell 0
      have k1 := kk.cell 1
      have k2 := kk.cell 2
      have k3 := kk.cell 3
      have k4 := kk.cell 4
      simp only [List.getElem?_toArray, List.getElem?_cons_zero, List.getElem?_cons_succ] at k0 k1 k2 k3 k4
      clear kk
      have hlt : w.heap.size + 1 < w1.heap.size := HR.out.lt
      have HO := Lib.hid hO; clear hO hR
      go_wp2
      refine bodyPost_ret (v := .tuple #[.agg #[.slice a1 d3.S.length c1, .slice a2 d3.P.length c2, .int .i64 d3.fuse, .int .i64 d3.ops, .bool d3.dead], .int .i64 er]) (by simp [results, Try.results62, go_sem, k0, k1, k2, k3, k4]) rfl ?_
      rw [HF.out]
      refine ⟨a1, c1, a2, c2, rfl, ?_, ?_⟩
      · exact (HO.out.sets (w.heap.size + 1) hlt _ _ _ _ _).mono (by have := hbl1.size; omega)
      · exact below_sets hblc (w.heap.size + 1) (by omega) _ _ _ _ _

set_option maxRecDepth 100000 in
set_option maxHeartbeats 4000000 in
theorem Write_any (sa pa : Option Addr) (sc pc : Nat) (d : Dk) (n : Int) (data : List UInt8) (w : World) (hD : Lists w sa sc pa pc d) (hp : d.P.length ≤ 8999999999999) :
    Calls Try.prog 61 #[.agg #[.slice sa d.S.length sc, .slice pa d.P.length pc, .int .i64 d.fuse, .int .i64 d.ops, .bool d.dead], .int .i64 n, .string (bs data)] w (OpPost (writeS d n data) w) := by
  have hb0 := ((((Below.refl w.heap.size w).alloc (Nat.le_refl _) (.cells #[.slice sa d.S.length sc, .slice pa d.P.length pc, .int .i64 d.fuse, .int .i64 d.ops, .bool d.dead] 38)).alloc (by simp) (.cells #[.int .i64 n] 3)).alloc (by simp; omega) (.cells #[.string (bs data)] 9)).alloc (by simp; omega) (.cells #[.slice none 0 0, .slice none 0 0, .int .i64 0, .int .i64 0, .bool false] 38)
  have hX : Bx w.heap.size #[.slice sa d.S.length sc, .slice pa d.P.length pc, .int .i64 d.fuse, .int .i64 d.ops, .bool d.dead] 38 ((((w.alloc (.cells #[.slice sa d.S.length sc, .slice pa d.P.length pc, .int .i64 d.fuse, .int .i64 d.ops, .bool d.dead] 38)).alloc (.cells #[.int .i64 n] 3)).alloc (.cells #[.string (bs data)] 9)).alloc (.cells #[.slice none 0 0, .slice none 0 0, .int .i64 0, .int .i64 0, .bool false] 38)) := by
    have h := (Bx.new w #[.slice sa d.S.length sc, .slice pa d.P.length pc, .int .i64 d.fuse, .int .i64 d.ops, .bool d.dead] 38)
    have h := h.alloc (.cells #[.int .i64 n] 3)
    have h := h.alloc (.cells #[.string (bs data)] 9)
    have h := h.alloc (.cells #[.slice none 0 0, .slice none 0 0, .int .i64 0, .int .i64 0, .bool false] 38)
    simpa using h
  have HX := Lib.hid hX; clear hX
  have hA : Bx (w.heap.size + 1) #[.int .i64 n] 3 ((((w.alloc (.cells #[.slice sa d.S.length sc, .slice pa d.P.length pc, .int .i64 d.fuse, .int .i64 d.ops, .bool d.dead] 38)).alloc (.cells #[.int .i64 n] 3)).alloc (.cells #[.string (bs data)] 9)).alloc (.cells #[.slice none 0 0, .slice none 0 0, .int .i64 0, .int .i64 0, .bool false] 38)) := by
    have h := (Bx.new (w.alloc (.cells #[.slice sa d.S.length sc, .slice pa d.P.length pc, .int .i64 d.fuse, .int .i64 d.ops, .bool d.dead] 38)) #[.int .i64 n] 3)
    have h := h.alloc (.cells #[.string (bs data)] 9)
    have h := h.alloc (.cells #[.slice none 0 0, .slice none 0 0, .int .i64 0, .int .i64 0, .bool false] 38)
    simpa using h
  have HA := Lib.hid hA; clear hA
  have hD : Bx (w.heap.size + 2) #[.string (bs data)] 9 ((((w.alloc (.cells #[.slice sa d.S.length sc, .slice pa d.P.length pc, .int .i64 d.fuse, .int .i64 d.ops, .bool d.dead] 38)).alloc (.cells #[.int .i64 n] 3)).alloc (.cells #[.string (bs data)] 9)).alloc (.cells #[.slice none 0 0, .slice none 0 0, .int .i64 0, .int .i64 0, .bool false] 38)) := by
    have h := (Bx.new ((w.alloc (.cells #[.slice sa d.S.length sc, .slice pa d.P.length pc, .int .i64 d.fuse, .int .i64 d.ops, .bool d.dead] 38)).alloc (.cells #[.int .i64 n] 3)) #[.string (bs data)] 9)
    have h := h.alloc (.cells #[.slice none 0 0, .slice none 0 0, .int .i64 0, .int .i64 0, .bool false] 38)
    simpa using h
  have HD := Lib.hid hD; clear hD
  have hR : Bx (w.heap.size + 3) #[.slice none 0 0, .slice none 0 0, .int .i64 0, .int .i64 0, .bool false] 38 ((((w.alloc (.cells #[.slice sa d.S.length sc, .slice pa d.P.length pc, .int .i64 d.fuse, .int .i64 d.ops, .bool d.dead] 38)).alloc (.cells #[.int .i64 n] 3)).alloc (.cells #[.string (bs data)] 9)).alloc (.cells #[.slice none 0 0, .slice none 0 0, .int .i64 0, .int .i64 0, .bool false] 38)) := by
    have h := (Bx.new (((w.alloc (.cells #[.slice sa d.S.length sc, .slice pa d.P.length pc, .int .i64 d.fuse, .int .i64 d.ops, .bool d.dead] 38)).alloc (.cells #[.int .i64 n] 3)).alloc (.cells #[.string (bs data)] 9)) #[.slice none 0 0, .slice none 0 0, .int .i64 0, .int .i64 0, .bool false] 38)
    simpa using h
  have HR := Lib.hid hR; clear hR
  have hD0 := hD.below hb0
  go_enter Try.func61, Try.ntmps61
  go_wp2_with fail
  refine (Valid_any _ _ _ _ _ _ hD0).mono ?_
  cases hv : validB d with
  | false =>
    have HF := Lib.hid (show writeS d n data = (d, 1) by unfold writeS; rw [hv]; simp)
    rintro e w1 ⟨rfl, hb1⟩
    have hX := HX.out.call hb1; clear HX; have HX := Lib.hid hX; clear hX
    have hA := HA.out.call hb1; clear HA; have HA := Lib.hid hA; clear hA
    have hD := HD.out.call hb1; clear HD; have HD := Lib.hid hD; clear hD
    have hR := HR.out.call hb1; clear HR; have HR := Lib.hid hR; clear hR
    have hbl1 := btrans hb0 hb0.size hb1
    have hD1 := hD0.below hb1
    clear hv hb1
    have hX := HX.out
    have x0 : w1.cell? ⟨w.heap.size, 0, none⟩ = some (.slice sa d.S.length sc) := hX.cell 0
    have x1 : w1.cell? ⟨w.heap.size, 1, none⟩ = some (.slice pa d.P.length pc) := hX.cell 1
    have x2 : w1.cell? ⟨w.heap.size, 2, none⟩ = some (.int .i64 d.fuse) := hX.cell 2
    have x3 : w1.cell? ⟨w.heap.size, 3, none⟩ = some (.int .i64 d.ops) := hX.cell 3
    have x4 : w1.cell? ⟨w.heap.size, 4, none⟩ = some (.bool d.dead) := hX.cell 4
    have hA := HA.out
    have aa : w1.cell? ⟨w.heap.size + 1, 0, none⟩ = some (.int .i64 n) := hA.cell 0
    have hDt := HD.out
    have dd : w1.cell? ⟨w.heap.size + 2, 0, none⟩ = some (.string (bs data)) := hDt.cell 0
    go_wp2_with fail
    refine (clone_any _ _ _ _ _ _ hD1).mono ?_
    rintro e wc ⟨a1, c1, a2, c2, rfl, hO, hbc⟩
    have hR := HR.out.call hbc
    have hbl := btrans hbl1 hbl1.size hbc
    have hzc : w.heap.size + 3 < wc.heap.size := by have := hbc.size; have := HR.out.lt; omega
    clear x0 x1 x2 x3 x4 aa dd hX hA hDt
    have r0 : wc.cell? ⟨w.heap.size + 3, 0, none⟩ = some (.slice none 0 0) := hR.cell 0
    have r1 : wc.cell? ⟨w.heap.size + 3, 1, none⟩ = some (.slice none 0 0) := hR.cell 1
    have r2 : wc.cell? ⟨w.heap.size + 3, 2, none⟩ = some (.int .i64 0) := hR.cell 2
    have r3 : wc.cell? ⟨w.heap.size + 3, 3, none⟩ = some (.int .i64 0) := hR.cell 3
    have r4 : wc.cell? ⟨w.heap.size + 3, 4, none⟩ = some (.bool false) := hR.cell 4
    have g0 := hR.free 0
    have g1 := hR.free 1
    have g2 := hR.free 2
    have g3 := hR.free 3
    have g4 := hR.free 4
    have kk := (hR.sets (.slice a1 d.S.length c1) (.slice a2 d.P.length c2) (.int .i64 d.fuse) (.int .i64 d.ops) (.bool d.dead))
    have k0 := kk.cell 0
    have k1 := kk.cell 1
    have k2 := kk.cell 2
    have k3 := kk.cell 3
    have k4 := kk.cell 4
    simp only [List.getElem?_toArray, List.getElem?_cons_zero, List.getElem?_cons_succ] at k0 k1 k2 k3 k4
    clear kk
    have hlt : w.heap.size + 3 < w1.heap.size := HR.out.lt
    have HO := Lib.hid hO; clear hO hR
    go_wp2
    refine bodyPost_ret (v := .tuple #[.agg #[.slice a1 d.S.length c1, .slice a2 d.P.length c2, .int .i64 d.fuse, .int .i64 d.ops, .bool d.dead], .int .i64 1]) (by simp [results, Try.results61, go_sem, k0, k1, k2, k3, k4]) rfl ?_
    rw [HF.out]
    refine ⟨a1, c1, a2, c2, rfl, ?_, ?_⟩
    · exact (HO.out.sets (w.heap.size + 3) hlt _ _ _ _ _).mono (by have := hbl1.size; omega)
    · exact below_sets hbl (w.heap.size + 3) (by omega) _ _ _ _ _
  | true =>
    rintro e w1 ⟨rfl, hb1⟩
    have hX := HX.out.call hb1; clear HX; have HX := Lib.hid hX; clear hX
    have hA := HA.out.call hb1; clear HA; have HA := Lib.hid hA; clear hA
    have hD := HD.out.call hb1; clear HD; have HD := Lib.hid hD; clear hD
    have hR := HR.out.call hb1; clear HR; have HR := Lib.hid hR; clear hR
    have hbl1 := btrans hb0 hb0.size hb1
    have hD1 := hD0.below hb1
    obtain ⟨hn, hsec, hpen⟩ := (validB_iff d).1 hv
    obtain ⟨n1, n2, n3, n4, n5, n6⟩ := (numsB_iff d).1 hn
    have HV := Lib.hid hv; have HPN := Lib.hid hpen
    clear hv hn hsec hpen hb1
    have hX := HX.out
    have x0 : w1.cell? ⟨w.heap.size, 0, none⟩ = some (.slice sa d.S.length sc) := hX.cell 0
    have x1 : w1.cell? ⟨w.heap.size, 1, none⟩ = some (.slice pa d.P.length pc) := hX.cell 1
    have x2 : w1.cell? ⟨w.heap.size, 2, none⟩ = some (.int .i64 d.fuse) := hX.cell 2
    have x3 : w1.cell? ⟨w.heap.size, 3, none⟩ = some (.int .i64 d.ops) := hX.cell 3
    have x4 : w1.cell? ⟨w.heap.size, 4, none⟩ = some (.bool d.dead) := hX.cell 4
    have hA := HA.out
    have aa : w1.cell? ⟨w.heap.size + 1, 0, none⟩ = some (.int .i64 n) := hA.cell 0
    have hDt := HD.out
    have dd : w1.cell? ⟨w.heap.size + 2, 0, none⟩ = some (.string (bs data)) := hDt.cell 0
    go_wp2_with fail
    refine (has_any _ _ _ _ _ _ _).mono ?_
    rintro e w2 ⟨rfl, hb2⟩
    clear x0 x1 x2 x3 x4 aa dd hX hA hDt
    have hX := HX.out.call hb2; clear HX; have HX := Lib.hid hX; clear hX
    have hA := HA.out.call hb2; clear HA; have HA := Lib.hid hA; clear hA
    have hD := HD.out.call hb2; clear HD; have HD := Lib.hid hD; clear hD
    have hR := HR.out.call hb2; clear HR; have HR := Lib.hid hR; clear hR
    have hbl2 := btrans hbl1 hbl1.size hb2
    have hD2 := hD1.below hb2
    clear hb2 hD1
    have hX := HX.out
    have x0 : w2.cell? ⟨w.heap.size, 0, none⟩ = some (.slice sa d.S.length sc) := hX.cell 0
    have x1 : w2.cell? ⟨w.heap.size, 1, none⟩ = some (.slice pa d.P.length pc) := hX.cell 1
    have x2 : w2.cell? ⟨w.heap.size, 2, none⟩ = some (.int .i64 d.fuse) := hX.cell 2
    have x3 : w2.cell? ⟨w.heap.size, 3, none⟩ = some (.int .i64 d.ops) := hX.cell 3
    have x4 : w2.cell? ⟨w.heap.size, 4, none⟩ = some (.bool d.dead) := hX.cell 4
    have hA := HA.out
    have aa : w2.cell? ⟨w.heap.size + 1, 0, none⟩ = some (.int .i64 n) := hA.cell 0
    have hDt := HD.out
    have dd : w2.cell? ⟨w.heap.size + 2, 0, none⟩ = some (.string (bs data)) := hDt.cell 0
    cases hh : hasB d n with
    | false =>
      have HF := Lib.hid (show writeS d n data = (d, 1) by unfold writeS; rw [hh, HV.out]; simp)
      clear hh
      go_wp2_with fail
      refine (clone_any _ _ _ _ _ _ hD2).mono ?_
      rintro e wc ⟨a1, c1, a2, c2, rfl, hO, hbc⟩
      have hR := HR.out.call hbc
      have hbl := btrans hbl2 hbl2.size hbc
      have hzc : w.heap.size + 3 < wc.heap.size := by have := hbc.size; have := HR.out.lt; omega
      clear x0 x1 x2 x3 x4 aa dd hX hA hDt
      have r0 : wc.cell? ⟨w.heap.size + 3, 0, none⟩ = some (.slice none 0 0) := hR.cell 0
      have r1 : wc.cell? ⟨w.heap.size + 3, 1, none⟩ = some (.slice none 0 0) := hR.cell 1
      have r2 : wc.cell? ⟨w.heap.size + 3, 2, none⟩ = some (.int .i64 0) := hR.cell 2
      have r3 : wc.cell? ⟨w.heap.size + 3, 3, none⟩ = some (.int .i64 0) := hR.cell 3
      have r4 : wc.cell? ⟨w.heap.size + 3, 4, none⟩ = some (.bool false) := hR.cell 4
      have g0 := hR.free 0
      have g1 := hR.free 1
      have g2 := hR.free 2
      have g3 := hR.free 3
      have g4 := hR.free 4
      have kk := (hR.sets (.slice a1 d.S.length c1) (.slice a2 d.P.length c2) (.int .i64 d.fuse) (.int .i64 d.ops) (.bool d.dead))
      have k0 := kk.cell 0
      have k1 := kk.cell 1
      have k2 := kk.cell 2
      have k3 := kk.cell 3
      have k4 := kk.cell 4
      simp only [List.getElem?_toArray, List.getElem?_cons_zero, List.getElem?_cons_succ] at k0 k1 k2 k3 k4
      clear kk
      have hlt : w.heap.size + 3 < w2.heap.size := HR.out.lt
      have HO := Lib.hid hO; clear hO hR
      go_wp2
      refine bodyPost_ret (v := .tuple #[.agg #[.slice a1 d.S.length c1, .slice a2 d.P.length c2, .int .i64 d.fuse, .int .i64 d.ops, .bool d.dead], .int .i64 1]) (by simp [results, Try.results61, go_sem, k0, k1, k2, k3, k4]) rfl ?_
      rw [HF.out]
      refine ⟨a1, c1, a2, c2, rfl, ?_, ?_⟩
      · exact (HO.out.sets (w.heap.size + 3) hlt _ _ _ _ _).mono (by have := hbl2.size; omega)
      · exact below_sets hbl (w.heap.size + 3) (by omega) _ _ _ _ _
    | true =>
      have HH := Lib.hid hh; clear hh
      by_cases h64 : data.length = 64
      · skip
        have t64 : ((data.length : Int) != 64) = false := by rw [h64]; rfl
        have H64 := Lib.hid h64; clear h64
        cases hd : d.dead with
        | true =>
          have HF := Lib.hid (show writeS d n data = (d, 18) by unfold writeS; rw [HV.out, HH.out, H64.out, hd]; simp)
          rw [hd] at x4
          have HDD := Lib.hid hd; clear hd
          go_wp2_with fail
          rw [show (.bool true : Value) = .bool d.dead by rw [HDD.out]]
          refine (clone_any _ _ _ _ _ _ hD2).mono ?_
          rintro e wc ⟨a1, c1, a2, c2, rfl, hO, hbc⟩
          have hR := HR.out.call hbc
          have hblc := btrans hbl2 hbl2.size hbc
          have hzc : w.heap.size + 3 < wc.heap.size := by have := hbc.size; have := HR.out.lt; omega
          clear x0 x1 x2 x3 x4 aa dd hX hA hDt
          have r0 : wc.cell? ⟨w.heap.size + 3, 0, none⟩ = some (.slice none 0 0) := hR.cell 0
          have r1 : wc.cell? ⟨w.heap.size + 3, 1, none⟩ = some (.slice none 0 0) := hR.cell 1
          have r2 : wc.cell? ⟨w.heap.size + 3, 2, none⟩ = some (.int .i64 0) := hR.cell 2
          have r3 : wc.cell? ⟨w.heap.size + 3, 3, none⟩ = some (.int .i64 0) := hR.cell 3
          have r4 : wc.cell? ⟨w.heap.size + 3, 4, none⟩ = some (.bool false) := hR.cell 4
          have g0 := hR.free 0
          have g1 := hR.free 1
          have g2 := hR.free 2
          have g3 := hR.free 3
          have g4 := hR.free 4
          have kk := (hR.sets (.slice a1 d.S.length c1) (.slice a2 d.P.length c2) (.int .i64 d.fuse) (.int .i64 d.ops) (.bool d.dead))
          have k0 := kk.cell 0
          have k1 := kk.cell 1
          have k2 := kk.cell 2
          have k3 := kk.cell 3
          have k4 := kk.cell 4
          simp only [List.getElem?_toArray, List.getElem?_cons_zero, List.getElem?_cons_succ] at k0 k1 k2 k3 k4
          clear kk
          have hlt : w.heap.size + 3 < w2.heap.size := HR.out.lt
          have HO := Lib.hid hO; clear hO hR
          go_wp2
          refine bodyPost_ret (v := .tuple #[.agg #[.slice a1 d.S.length c1, .slice a2 d.P.length c2, .int .i64 d.fuse, .int .i64 d.ops, .bool d.dead], .int .i64 18]) (by simp [results, Try.results61, go_sem, k0, k1, k2, k3, k4]) rfl ?_
          rw [HF.out]
          refine ⟨a1, c1, a2, c2, rfl, ?_, ?_⟩
          · exact (HO.out.sets (w.heap.size + 3) hlt _ _ _ _ _).mono (by have := hbl2.size; omega)
          · exact below_sets hblc (w.heap.size + 3) (by omega) _ _ _ _ _
        | false =>
          have HF := Lib.hid (show writeS d n data = happenS d (addW n data) by unfold writeS; rw [HV.out, HH.out, H64.out, hd]; simp)
          rw [hd] at x4
          have HDD := Lib.hid hd; clear hd
          go_wp2_with fail
          rw [show (.bool false : Value) = .bool d.dead by rw [HDD.out]]
          refine (happenW_any _ _ _ _ _ n data _ _ _ hD2 HA.out HD.out hp n3 n4 n5 n6).mono ?_
          obtain ⟨⟨d3, er⟩, hde⟩ : ∃ q, happenS d (addW n data) = q := ⟨_, rfl⟩
          rw [hde] at HF ⊢
          clear hde
          rintro e wc ⟨a1, c1, a2, c2, rfl, hO, hbc⟩
          have hR := HR.out.call hbc
          have hblc := btrans hbl2 hbl2.size hbc
          have hzc : w.heap.size + 3 < wc.heap.size := by have := hbc.size; have := HR.out.lt; omega
          clear x0 x1 x2 x3 x4 aa dd hX hA hDt
          have r0 : wc.cell? ⟨w.heap.size + 3, 0, none⟩ = some (.slice none 0 0) := hR.cell 0
          have r1 : wc.cell? ⟨w.heap.size + 3, 1, none⟩ = some (.slice none 0 0) := hR.cell 1
          have r2 : wc.cell? ⟨w.heap.size + 3, 2, none⟩ = some (.int .i64 0) := hR.cell 2
          have r3 : wc.cell? ⟨w.heap.size + 3, 3, none⟩ = some (.int .i64 0) := hR.cell 3
          have r4 : wc.cell? ⟨w.heap.size + 3, 4, none⟩ = some (.bool false) := hR.cell 4
          have g0 := hR.free 0
          have g1 := hR.free 1
          have g2 := hR.free 2
          have g3 := hR.free 3
          have g4 := hR.free 4
          have kk := (hR.sets (.slice a1 d3.S.length c1) (.slice a2 d3.P.length c2) (.int .i64 d3.fuse) (.int .i64 d3.ops) (.bool d3.dead))
          have k0 := kk.cell 0
          have k1 := kk.cell 1
          have k2 := kk.cell 2
          have k3 := kk.cell 3
          have k4 := kk.cell 4
          simp only [List.getElem?_toArray, List.getElem?_cons_zero, List.getElem?_cons_succ] at k0 k1 k2 k3 k4
          clear kk
          have hlt : w.heap.size + 3 < w2.heap.size := HR.out.lt
          have HO := Lib.hid hO; clear hO hR
          go_wp2
          refine bodyPost_ret (v := .tuple #[.agg #[.slice a1 d3.S.length c1, .slice a2 d3.P.length c2, .int .i64 d3.fuse, .int .i64 d3.ops, .bool d3.dead], .int .i64 er]) (by simp [results, Try.results61, go_sem, k0, k1, k2, k3, k4]) rfl ?_
          rw [HF.out]
          refine ⟨a1, c1, a2, c2, rfl, ?_, ?_⟩
          · exact (HO.out.sets (w.heap.size + 3) hlt _ _ _ _ _).mono (by have := hbl2.size; omega)
          · exact below_sets hblc (w.heap.size + 3) (by omega) _ _ _ _ _
      · have t64 : ((data.length : Int) != 64) = true := by rw [bne_iff_ne]; omega
        have HF := Lib.hid (show writeS d n data = (d, 1) by unfold writeS; rw [if_neg (fun h => h64 h.2.2)])
        clear h64
        go_wp2_with fail
        refine (clone_any _ _ _ _ _ _ hD2).mono ?_
        rintro e wc ⟨a1, c1, a2, c2, rfl, hO, hbc⟩
        have hR := HR.out.call hbc
        have hbl := btrans hbl2 hbl2.size hbc
        have hzc : w.heap.size + 3 < wc.heap.size := by have := hbc.size; have := HR.out.lt; omega
        clear x0 x1 x2 x3 x4 aa dd hX hA hDt
        have r0 : wc.cell? ⟨w.heap.size + 3, 0, none⟩ = some (.slice none 0 0) := hR.cell 0
        have r1 : wc.cell? ⟨w.heap.size + 3, 1, none⟩ = some (.slice none 0 0) := hR.cell 1
        have r2 : wc.cell? ⟨w.heap.size + 3, 2, none⟩ = some (.int .i64 0) := hR.cell 2
        have r3 : wc.cell? ⟨w.heap.size + 3, 3, none⟩ = some (.int .i64 0) := hR.cell 3
        have r4 : wc.cell? ⟨w.heap.size + 3, 4, none⟩ = some (.bool false) := hR.cell 4
        have g0 := hR.free 0
        have g1 := hR.free 1
        have g2 := hR.free 2
        have g3 := hR.free 3
        have g4 := hR.free 4
        have kk := (hR.sets (.slice a1 d.S.length c1) (.slice a2 d.P.length c2) (.int .i64 d.fuse) (.int .i64 d.ops) (.bool d.dead))
        have k0 := kk.cell 0
        have k1 := kk.cell 1
        have k2 := kk.cell 2
        have k3 := kk.cell 3
        have k4 := kk.cell 4
        simp only [List.getElem?_toArray, List.getElem?_cons_zero, List.getElem?_cons_succ] at k0 k1 k2 k3 k4
        clear kk
        have hlt : w.heap.size + 3 < w2.heap.size := HR.out.lt
        have HO := Lib.hid hO; clear hO hR
        go_wp2
        refine bodyPost_ret (v := .tuple #[.agg #[.slice a1 d.S.length c1, .slice a2 d.P.length c2, .int .i64 d.fuse, .int .i64 d.ops, .bool d.dead], .int .i64 1]) (by simp [results, Try.results61, go_sem, k0, k1, k2, k3, k4]) rfl ?_
        rw [HF.out]
        refine ⟨a1, c1, a2, c2, rfl, ?_, ?_⟩
        · exact (HO.out.sets (w.heap.size + 3) hlt _ _ _ _ _).mono (by have := hbl2.size; omega)
        · exact below_sets hbl (w.heap.size + 3) (by omega) _ _ _ _ _
end Go.Proofs.Ytkpfkknldeafkaa
