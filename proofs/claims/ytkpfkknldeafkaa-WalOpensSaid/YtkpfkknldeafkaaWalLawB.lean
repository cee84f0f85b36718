/- The walk of the reference's Open. No conditions. The walk of WalOpens. No conditions. -/
import Derived.Test.YtkpfkknldeafkaaWalTwo
import Derived.Test.YtkpfkknldeafkaaSupOne
namespace Go.Proofs.Ytkpfkknldeafkaa
open Go.RowKit

def ROPost (r : Opened) (w : World) (e : Ending) (w' : World) : Prop :=
  ∃ sa sc pa pc v, e = .returned (.tuple #[.agg #[.slice sa r.d.S.length sc, .slice pa r.d.P.length pc, .int .i64 r.d.fuse, .int .i64 r.d.ops, .bool r.d.dead], .agg (jnV r.j), .string (bs r.image), v, .int .i64 r.e]) ∧
    Lists w' sa sc pa pc r.d ∧ w'.ownsRow w.heap.size 9 1 v r.recs.length (r.recs.map strV) ∧ Below w.heap.size w w'
theorem ROPost.mk {r : Opened} {w w' : World} {e : Ending} (r2 : Opened) (sa : Option Addr) (sc : Nat) (pa : Option Addr) (pc : Nat) (v : Value) (he : e = .returned (.tuple #[.agg #[.slice sa r2.d.S.length sc, .slice pa r2.d.P.length pc, .int .i64 r2.d.fuse, .int .i64 r2.d.ops, .bool r2.d.dead], .agg (jnV r2.j), .string (bs r2.image), v, .int .i64 r2.e]))
    (ho : Lists w' sa sc pa pc r2.d) (hv : w'.ownsRow w.heap.size 9 1 v r2.recs.length (r2.recs.map strV)) (hb : Below w.heap.size w w') (hr : r = r2) : ROPost r w e w' := by
  subst hr; exact ⟨sa, sc, pa, pc, v, he, ho, hv, hb⟩

theorem wc_xxxxxyyyyy_5 {W : World} {x y i0 i1 i2 i3 i4 i5 i6 i7 i8 i9 : Nat} {u0 u1 u2 u3 u4 u5 u6 u7 u8 u9 : Value} (h : W.drew.cell? ⟨x, i0, none⟩ = some u0 ∧ W.drew.cell? ⟨x, i1, none⟩ = some u1 ∧ W.drew.cell? ⟨x, i2, none⟩ = some u2 ∧ W.drew.cell? ⟨x, i3, none⟩ = some u3 ∧ W.drew.cell? ⟨x, i4, none⟩ = some u4 ∧ W.drew.cell? ⟨y, i5, none⟩ = some u5 ∧ W.drew.cell? ⟨y, i6, none⟩ = some u6 ∧ W.drew.cell? ⟨y, i7, none⟩ = some u7 ∧ W.drew.cell? ⟨y, i8, none⟩ = some u8 ∧ W.drew.cell? ⟨y, i9, none⟩ = some u9) (b : Nat) (h_x : b ≠ x) (h_y : b ≠ y) (v0 v1 v2 v3 v4 : Value) :
    (((((W.setCell ⟨b, 0, none⟩ v0).setCell ⟨b, 1, none⟩ v1).setCell ⟨b, 2, none⟩ v2).setCell ⟨b, 3, none⟩ v3).setCell ⟨b, 4, none⟩ v4).drew.cell? ⟨x, i0, none⟩ = some u0 ∧ (((((W.setCell ⟨b, 0, none⟩ v0).setCell ⟨b, 1, none⟩ v1).setCell ⟨b, 2, none⟩ v2).setCell ⟨b, 3, none⟩ v3).setCell ⟨b, 4, none⟩ v4).drew.cell? ⟨x, i1, none⟩ = some u1 ∧ (((((W.setCell ⟨b, 0, none⟩ v0).setCell ⟨b, 1, none⟩ v1).setCell ⟨b, 2, none⟩ v2).setCell ⟨b, 3, none⟩ v3).setCell ⟨b, 4, none⟩ v4).drew.cell? ⟨x, i2, none⟩ = some u2 ∧ (((((W.setCell ⟨b, 0, none⟩ v0).setCell ⟨b, 1, none⟩ v1).setCell ⟨b, 2, none⟩ v2).setCell ⟨b, 3, none⟩ v3).setCell ⟨b, 4, none⟩ v4).drew.cell? ⟨x, i3, none⟩ = some u3 ∧ (((((W.setCell ⟨b, 0, none⟩ v0).setCell ⟨b, 1, none⟩ v1).setCell ⟨b, 2, none⟩ v2).setCell ⟨b, 3, none⟩ v3).setCell ⟨b, 4, none⟩ v4).drew.cell? ⟨x, i4, none⟩ = some u4 ∧ (((((W.setCell ⟨b, 0, none⟩ v0).setCell ⟨b, 1, none⟩ v1).setCell ⟨b, 2, none⟩ v2).setCell ⟨b, 3, none⟩ v3).setCell ⟨b, 4, none⟩ v4).drew.cell? ⟨y, i5, none⟩ = some u5 ∧ (((((W.setCell ⟨b, 0, none⟩ v0).setCell ⟨b, 1, none⟩ v1).setCell ⟨b, 2, none⟩ v2).setCell ⟨b, 3, none⟩ v3).setCell ⟨b, 4, none⟩ v4).drew.cell? ⟨y, i6, none⟩ = some u6 ∧ (((((W.setCell ⟨b, 0, none⟩ v0).setCell ⟨b, 1, none⟩ v1).setCell ⟨b, 2, none⟩ v2).setCell ⟨b, 3, none⟩ v3).setCell ⟨b, 4, none⟩ v4).drew.cell? ⟨y, i7, none⟩ = some u7 ∧ (((((W.setCell ⟨b, 0, none⟩ v0).setCell ⟨b, 1, none⟩ v1).setCell ⟨b, 2, none⟩ v2).setCell ⟨b, 3, none⟩ v3).setCell ⟨b, 4, none⟩ v4).drew.cell? ⟨y, i8, none⟩ = some u8 ∧ (((((W.setCell ⟨b, 0, none⟩ v0).setCell ⟨b, 1, none⟩ v1).setCell ⟨b, 2, none⟩ v2).setCell ⟨b, 3, none⟩ v3).setCell ⟨b, 4, none⟩ v4).drew.cell? ⟨y, i9, none⟩ = some u9 := by
  obtain ⟨h0, h1, h2, h3, h4, h5, h6, h7, h8, h9⟩ := h
  exact ⟨drew_cell (cell1_set _ h_x (cell1_set _ h_x (cell1_set _ h_x (cell1_set _ h_x (cell1_set _ h_x (cell_drew h0)))))), drew_cell (cell1_set _ h_x (cell1_set _ h_x (cell1_set _ h_x (cell1_set _ h_x (cell1_set _ h_x (cell_drew h1)))))), drew_cell (cell1_set _ h_x (cell1_set _ h_x (cell1_set _ h_x (cell1_set _ h_x (cell1_set _ h_x (cell_drew h2)))))), drew_cell (cell1_set _ h_x (cell1_set _ h_x (cell1_set _ h_x (cell1_set _ h_x (cell1_set _ h_x (cell_drew h3)))))), drew_cell (cell1_set _ h_x (cell1_set _ h_x (cell1_set _ h_x (cell1_set _ h_x (cell1_set _ h_x (cell_drew h4)))))), drew_cell (cell1_set _ h_y (cell1_set _ h_y (cell1_set _ h_y (cell1_set _ h_y (cell1_set _ h_y (cell_drew h5)))))), drew_cell (cell1_set _ h_y (cell1_set _ h_y (cell1_set _ h_y (cell1_set _ h_y (cell1_set _ h_y (cell_drew h6)))))), drew_cell (cell1_set _ h_y (cell1_set _ h_y (cell1_set _ h_y (cell1_set _ h_y (cell1_set _ h_y (cell_drew h7)))))), drew_cell (cell1_set _ h_y (cell1_set _ h_y (cell1_set _ h_y (cell1_set _ h_y (cell1_set _ h_y (cell_drew h8)))))), drew_cell (cell1_set _ h_y (cell1_set _ h_y (cell1_set _ h_y (cell1_set _ h_y (cell1_set _ h_y (cell_drew h9))))))⟩
theorem wc_xxxxxyyyyy_7 {W : World} {x y i0 i1 i2 i3 i4 i5 i6 i7 i8 i9 : Nat} {u0 u1 u2 u3 u4 u5 u6 u7 u8 u9 : Value} (h : W.drew.cell? ⟨x, i0, none⟩ = some u0 ∧ W.drew.cell? ⟨x, i1, none⟩ = some u1 ∧ W.drew.cell? ⟨x, i2, none⟩ = some u2 ∧ W.drew.cell? ⟨x, i3, none⟩ = some u3 ∧ W.drew.cell? ⟨x, i4, none⟩ = some u4 ∧ W.drew.cell? ⟨y, i5, none⟩ = some u5 ∧ W.drew.cell? ⟨y, i6, none⟩ = some u6 ∧ W.drew.cell? ⟨y, i7, none⟩ = some u7 ∧ W.drew.cell? ⟨y, i8, none⟩ = some u8 ∧ W.drew.cell? ⟨y, i9, none⟩ = some u9) (b : Nat) (h_x : b ≠ x) (h_y : b ≠ y) (v0 v1 v2 v3 v4 v5 v6 : Value) :
    (((((((W.setCell ⟨b, 0, none⟩ v0).setCell ⟨b, 1, none⟩ v1).setCell ⟨b, 2, none⟩ v2).setCell ⟨b, 3, none⟩ v3).setCell ⟨b, 4, none⟩ v4).setCell ⟨b, 5, none⟩ v5).setCell ⟨b, 6, none⟩ v6).drew.cell? ⟨x, i0, none⟩ = some u0 ∧ (((((((W.setCell ⟨b, 0, none⟩ v0).setCell ⟨b, 1, none⟩ v1).setCell ⟨b, 2, none⟩ v2).setCell ⟨b, 3, none⟩ v3).setCell ⟨b, 4, none⟩ v4).setCell ⟨b, 5, none⟩ v5).setCell ⟨b, 6, none⟩ v6).drew.cell? ⟨x, i1, none⟩ = some u1 ∧ (((((((W.setCell ⟨b, 0, none⟩ v0).setCell ⟨b, 1, none⟩ v1).setCell ⟨b, 2, none⟩ v2).setCell ⟨b, 3, none⟩ v3).setCell ⟨b, 4, none⟩ v4).setCell ⟨b, 5, none⟩ v5).setCell ⟨b, 6, none⟩ v6).drew.cell? ⟨x, i2, none⟩ = some u2 ∧ (((((((W.setCell ⟨b, 0, none⟩ v0).setCell ⟨b, 1, none⟩ v1).setCell ⟨b, 2, none⟩ v2).setCell ⟨b, 3, none⟩ v3).setCell ⟨b, 4, none⟩ v4).setCell ⟨b, 5, none⟩ v5).setCell ⟨b, 6, none⟩ v6).drew.cell? ⟨x, i3, none⟩ = some u3 ∧ (((((((W.setCell ⟨b, 0, none⟩ v0).setCell ⟨b, 1, none⟩ v1).setCell ⟨b, 2, none⟩ v2).setCell ⟨b, 3, none⟩ v3).setCell ⟨b, 4, none⟩ v4).setCell ⟨b, 5, none⟩ v5).setCell ⟨b, 6, none⟩ v6).drew.cell? ⟨x, i4, none⟩ = some u4 ∧ (((((((W.setCell ⟨b, 0, none⟩ v0).setCell ⟨b, 1, none⟩ v1).setCell ⟨b, 2, none⟩ v2).setCell ⟨b, 3, none⟩ v3).setCell ⟨b, 4, none⟩ v4).setCell ⟨b, 5, none⟩ v5).setCell ⟨b, 6, none⟩ v6).drew.cell? ⟨y, i5, none⟩ = some u5 ∧ (((((((W.setCell ⟨b, 0, none⟩ v0).setCell ⟨b, 1, none⟩ v1).setCell ⟨b, 2, none⟩ v2).setCell ⟨b, 3, none⟩ v3).setCell ⟨b, 4, none⟩ v4).setCell ⟨b, 5, none⟩ v5).setCell ⟨b, 6, none⟩ v6).drew.cell? ⟨y, i6, none⟩ = some u6 ∧ (((((((W.setCell ⟨b, 0, none⟩ v0).setCell ⟨b, 1, none⟩ v1).setCell ⟨b, 2, none⟩ v2).setCell ⟨b, 3, none⟩ v3).setCell ⟨b, 4, none⟩ v4).setCell ⟨b, 5, none⟩ v5).setCell ⟨b, 6, none⟩ v6).drew.cell? ⟨y, i7, none⟩ = some u7 ∧ (((((((W.setCell ⟨b, 0, none⟩ v0).setCell ⟨b, 1, none⟩ v1).setCell ⟨b, 2, none⟩ v2).setCell ⟨b, 3, none⟩ v3).setCell ⟨b, 4, none⟩ v4).setCell ⟨b, 5, none⟩ v5).setCell ⟨b, 6, none⟩ v6).drew.cell? ⟨y, i8, none⟩ = some u8 ∧ (((((((W.setCell ⟨b, 0, none⟩ v0).setCell ⟨b, 1, none⟩ v1).setCell ⟨b, 2, none⟩ v2).setCell ⟨b, 3, none⟩ v3).setCell ⟨b, 4, none⟩ v4).setCell ⟨b, 5, none⟩ v5).setCell ⟨b, 6, none⟩ v6).drew.cell? ⟨y, i9, none⟩ = some u9 := by
  obtain ⟨h0, h1, h2, h3, h4, h5, h6, h7, h8, h9⟩ := h
  exact ⟨drew_cell (cell1_set _ h_x (cell1_set _ h_x (cell1_set _ h_x (cell1_set _ h_x (cell1_set _ h_x (cell1_set _ h_x (cell1_set _ h_x (cell_drew h0)))))))), drew_cell (cell1_set _ h_x (cell1_set _ h_x (cell1_set _ h_x (cell1_set _ h_x (cell1_set _ h_x (cell1_set _ h_x (cell1_set _ h_x (cell_drew h1)))))))), drew_cell (cell1_set _ h_x (cell1_set _ h_x (cell1_set _ h_x (cell1_set _ h_x (cell1_set _ h_x (cell1_set _ h_x (cell1_set _ h_x (cell_drew h2)))))))), drew_cell (cell1_set _ h_x (cell1_set _ h_x (cell1_set _ h_x (cell1_set _ h_x (cell1_set _ h_x (cell1_set _ h_x (cell1_set _ h_x (cell_drew h3)))))))), drew_cell (cell1_set _ h_x (cell1_set _ h_x (cell1_set _ h_x (cell1_set _ h_x (cell1_set _ h_x (cell1_set _ h_x (cell1_set _ h_x (cell_drew h4)))))))), drew_cell (cell1_set _ h_y (cell1_set _ h_y (cell1_set _ h_y (cell1_set _ h_y (cell1_set _ h_y (cell1_set _ h_y (cell1_set _ h_y (cell_drew h5)))))))), drew_cell (cell1_set _ h_y (cell1_set _ h_y (cell1_set _ h_y (cell1_set _ h_y (cell1_set _ h_y (cell1_set _ h_y (cell1_set _ h_y (cell_drew h6)))))))), drew_cell (cell1_set _ h_y (cell1_set _ h_y (cell1_set _ h_y (cell1_set _ h_y (cell1_set _ h_y (cell1_set _ h_y (cell1_set _ h_y (cell_drew h7)))))))), drew_cell (cell1_set _ h_y (cell1_set _ h_y (cell1_set _ h_y (cell1_set _ h_y (cell1_set _ h_y (cell1_set _ h_y (cell1_set _ h_y (cell_drew h8)))))))), drew_cell (cell1_set _ h_y (cell1_set _ h_y (cell1_set _ h_y (cell1_set _ h_y (cell1_set _ h_y (cell1_set _ h_y (cell1_set _ h_y (cell_drew h9))))))))⟩
set_option maxRecDepth 100000 in
set_option maxHeartbeats 64000000 in
theorem RWOpen_any (sa pa : Option Addr) (sc pc : Nat) (d : Dk) (w : World) (hD : Lists w sa sc pa pc d) (hp : d.P.length ≤ 8000000000000) :
    Calls Try.prog 36 #[.agg #[.slice sa d.S.length sc, .slice pa d.P.length pc, .int .i64 d.fuse, .int .i64 d.ops, .bool d.dead]] w (ROPost (openW d) w) := by
  obtain ⟨⟨x, e⟩, hl⟩ : ∃ r, loadS d = r := ⟨_, rfl⟩
  have HL := Lib.hid hl; clear hl
  have hb0 := ((((Below.refl w.heap.size w).alloc (Nat.le_refl _) (.cells #[.slice sa d.S.length sc, .slice pa d.P.length pc, .int .i64 d.fuse, .int .i64 d.ops, .bool d.dead] 38)).alloc (by simp) (.cells #[.slice none 0 0, .slice none 0 0, .int .i64 0, .int .i64 0, .bool false] 38)).alloc (by simp; try omega) (.cells #[.int .i64 0, .int .i64 0, .int .i64 0, .int .i64 0, .int .i64 0, .int .i64 0, .int .i64 0] 57))
  have h_HX := (((Bx.new w #[.slice sa d.S.length sc, .slice pa d.P.length pc, .int .i64 d.fuse, .int .i64 d.ops, .bool d.dead] 38).alloc (.cells #[.slice none 0 0, .slice none 0 0, .int .i64 0, .int .i64 0, .bool false] 38)).alloc (.cells #[.int .i64 0, .int .i64 0, .int .i64 0, .int .i64 0, .int .i64 0, .int .i64 0, .int .i64 0] 57))
  have h_HR := ((Bx.new (w.alloc (.cells #[.slice sa d.S.length sc, .slice pa d.P.length pc, .int .i64 d.fuse, .int .i64 d.ops, .bool d.dead] 38)) #[.slice none 0 0, .slice none 0 0, .int .i64 0, .int .i64 0, .bool false] 38).alloc (.cells #[.int .i64 0, .int .i64 0, .int .i64 0, .int .i64 0, .int .i64 0, .int .i64 0, .int .i64 0] 57))
  rw [show (w.alloc (.cells #[.slice sa d.S.length sc, .slice pa d.P.length pc, .int .i64 d.fuse, .int .i64 d.ops, .bool d.dead] 38)).heap.size = w.heap.size + 1 by simp] at h_HR
  have h_HJ2 := (Bx.new ((w.alloc (.cells #[.slice sa d.S.length sc, .slice pa d.P.length pc, .int .i64 d.fuse, .int .i64 d.ops, .bool d.dead] 38)).alloc (.cells #[.slice none 0 0, .slice none 0 0, .int .i64 0, .int .i64 0, .bool false] 38)) #[.int .i64 0, .int .i64 0, .int .i64 0, .int .i64 0, .int .i64 0, .int .i64 0, .int .i64 0] 57)
  rw [show ((w.alloc (.cells #[.slice sa d.S.length sc, .slice pa d.P.length pc, .int .i64 d.fuse, .int .i64 d.ops, .bool d.dead] 38)).alloc (.cells #[.slice none 0 0, .slice none 0 0, .int .i64 0, .int .i64 0, .bool false] 38)).heap.size = w.heap.size + 2 by simp] at h_HJ2
  have HB := Lib.hid hb0; have HX := Lib.hid h_HX; have HR := Lib.hid h_HR; have HJ2 := Lib.hid h_HJ2
  clear hb0 h_HX h_HR h_HJ2
  have HD := Lib.hid (hD.below HB.out)
  go_enter Try.func36, Try.ntmps36
  go_upto_region 1 with (fail)
  generalize hW0 : ((w.alloc (.cells #[.slice sa d.S.length sc, .slice pa d.P.length pc, .int .i64 d.fuse, .int .i64 d.ops, .bool d.dead] 38)).alloc (.cells #[.slice none 0 0, .slice none 0 0, .int .i64 0, .int .i64 0, .bool false] 38)).alloc (.cells #[.int .i64 0, .int .i64 0, .int .i64 0, .int .i64 0, .int .i64 0, .int .i64 0, .int .i64 0] 57) = v0 at HB HD HX HR HJ2 ⊢
  clear hW0
  have x0 : v0.cell? ⟨w.heap.size, 0, none⟩ = some (.slice sa d.S.length sc) := HX.out.cell 0
  have x1 : v0.cell? ⟨w.heap.size, 1, none⟩ = some (.slice pa d.P.length pc) := HX.out.cell 1
  have x2 : v0.cell? ⟨w.heap.size, 2, none⟩ = some (.int .i64 d.fuse) := HX.out.cell 2
  have x3 : v0.cell? ⟨w.heap.size, 3, none⟩ = some (.int .i64 d.ops) := HX.out.cell 3
  have x4 : v0.cell? ⟨w.heap.size, 4, none⟩ = some (.bool d.dead) := HX.out.cell 4
  cases hv : validB d with
  | false =>
    have HV := Lib.hid hv; clear hv
    go_wp2_with fail
    refine (RValid_any _ _ _ _ d _ HD.out).mono ?_
    rw [HV.out]
    rintro er w1 ⟨rfl, hb1⟩
    clear x0 x1 x2 x3 x4
    have HX := Lib.hid (HX.out.call hb1)
    have HR := Lib.hid (HR.out.call hb1)
    have HJ2 := Lib.hid (HJ2.out.call hb1)
    have HD := Lib.hid (HD.out.below hb1)
    have HB := Lib.hid (btrans HB.out HB.out.size hb1); clear hb1
    have zj := HJ2.out.lt
    have hres : openW d = ⟨d, j0, [], [], 1⟩ := by unfold openW; rw [if_neg (by rw [HV.out]; simp)]
    have HRES := Lib.hid hres; clear hres
    have x0 : w1.cell? ⟨w.heap.size, 0, none⟩ = some (.slice sa d.S.length sc) := HX.out.cell 0
    have x1 : w1.cell? ⟨w.heap.size, 1, none⟩ = some (.slice pa d.P.length pc) := HX.out.cell 1
    have x2 : w1.cell? ⟨w.heap.size, 2, none⟩ = some (.int .i64 d.fuse) := HX.out.cell 2
    have x3 : w1.cell? ⟨w.heap.size, 3, none⟩ = some (.int .i64 d.ops) := HX.out.cell 3
    have x4 : w1.cell? ⟨w.heap.size, 4, none⟩ = some (.bool d.dead) := HX.out.cell 4
    have r0 : w1.cell? ⟨(w.heap.size + 1), 0, none⟩ = some (.slice none 0 0) := HR.out.cell 0
    have r1 : w1.cell? ⟨(w.heap.size + 1), 1, none⟩ = some (.slice none 0 0) := HR.out.cell 1
    have r2 : w1.cell? ⟨(w.heap.size + 1), 2, none⟩ = some (.int .i64 0) := HR.out.cell 2
    have r3 : w1.cell? ⟨(w.heap.size + 1), 3, none⟩ = some (.int .i64 0) := HR.out.cell 3
    have r4 : w1.cell? ⟨(w.heap.size + 1), 4, none⟩ = some (.bool false) := HR.out.cell 4
    have q0 : w1.cell? ⟨(w.heap.size + 2), 0, none⟩ = some (.int .i64 0) := HJ2.out.cell 0
    have q1 : w1.cell? ⟨(w.heap.size + 2), 1, none⟩ = some (.int .i64 0) := HJ2.out.cell 1
    have q2 : w1.cell? ⟨(w.heap.size + 2), 2, none⟩ = some (.int .i64 0) := HJ2.out.cell 2
    have q3 : w1.cell? ⟨(w.heap.size + 2), 3, none⟩ = some (.int .i64 0) := HJ2.out.cell 3
    have q4 : w1.cell? ⟨(w.heap.size + 2), 4, none⟩ = some (.int .i64 0) := HJ2.out.cell 4
    have q5 : w1.cell? ⟨(w.heap.size + 2), 5, none⟩ = some (.int .i64 0) := HJ2.out.cell 5
    have q6 : w1.cell? ⟨(w.heap.size + 2), 6, none⟩ = some (.int .i64 0) := HJ2.out.cell 6
    have f0 := HR.out.free 0
    have f1 := HR.out.free 1
    have f2 := HR.out.free 2
    have f3 := HR.out.free 3
    have f4 := HR.out.free 4
    have p0 := HJ2.out.free 0
    have p1 := HJ2.out.free 1
    have p2 := HJ2.out.free 2
    have p3 := HJ2.out.free 3
    have p4 := HJ2.out.free 4
    have p5 := HJ2.out.free 5
    have p6 := HJ2.out.free 6
    have HJ3 := Lib.hid (HJ2.out.sets_ne (c := w.heap.size + 1) (by omega) (.slice sa d.S.length sc) (.slice pa d.P.length pc) (.int .i64 d.fuse) (.int .i64 d.ops) (.bool d.dead))
    have KR := Lib.hid ((HR.out.sets (.slice sa d.S.length sc) (.slice pa d.P.length pc) (.int .i64 d.fuse) (.int .i64 d.ops) (.bool d.dead)).sets7_ne (c := w.heap.size + 2) (by omega) (.int .i64 0) (.int .i64 0) (.int .i64 0) (.int .i64 0) (.int .i64 0) (.int .i64 0) (.int .i64 0))
    have KJ := Lib.hid (HJ3.out.sets7 (.int .i64 0) (.int .i64 0) (.int .i64 0) (.int .i64 0) (.int .i64 0) (.int .i64 0) (.int .i64 0))
    have KL := Lib.hid ((HD.out.sets_box HR.out (.slice sa d.S.length sc) (.slice pa d.P.length pc) (.int .i64 d.fuse) (.int .i64 d.ops) (.bool d.dead)).sets7i HJ3.out (.int .i64 0) (.int .i64 0) (.int .i64 0) (.int .i64 0) (.int .i64 0) (.int .i64 0) (.int .i64 0))
    have KB := Lib.hid (below_sets7 (below_sets HB.out (w.heap.size + 1) (by omega) (.slice sa d.S.length sc) (.slice pa d.P.length pc) (.int .i64 d.fuse) (.int .i64 d.ops) (.bool d.dead)) (w.heap.size + 2) (by omega) (.int .i64 0) (.int .i64 0) (.int .i64 0) (.int .i64 0) (.int .i64 0) (.int .i64 0) (.int .i64 0))
    go_wp2
    have k0 := KR.out.cell 0
    have k1 := KR.out.cell 1
    have k2 := KR.out.cell 2
    have k3 := KR.out.cell 3
    have k4 := KR.out.cell 4
    have m0 := KJ.out.cell 0
    have m1 := KJ.out.cell 1
    have m2 := KJ.out.cell 2
    have m3 := KJ.out.cell 3
    have m4 := KJ.out.cell 4
    have m5 := KJ.out.cell 5
    have m6 := KJ.out.cell 6
    simp only [List.getElem?_toArray, List.getElem?_cons_zero, List.getElem?_cons_succ] at k0 k1 k2 k3 k4 m0 m1 m2 m3 m4 m5 m6
    refine bodyPost_ret (v := .tuple #[.agg #[.slice sa d.S.length sc, .slice pa d.P.length pc, .int .i64 d.fuse, .int .i64 d.ops, .bool d.dead], .agg #[.int .i64 0, .int .i64 0, .int .i64 0, .int .i64 0, .int .i64 0, .int .i64 0, .int .i64 0], .string (bs []), .slice none 0 0, .int .i64 1]) (by simp [results, Try.results36, go_sem, k0, k1, k2, k3, k4, m0, m1, m2, m3, m4, m5, m6]; rfl) rfl ?_
    exact ROPost.mk ⟨d, j0, [], [], 1⟩ sa sc pa pc (.slice none 0 0) rfl KL.out (World.ownsRow_nil _ _ _ _) KB.out HRES.out
  | true =>
    have HV := Lib.hid hv; clear hv
    go_wp2_with fail
    refine (RValid_any _ _ _ _ d _ HD.out).mono ?_
    rw [HV.out]
    rintro er w1 ⟨rfl, hb1⟩
    clear x0 x1 x2 x3 x4
    have HX := Lib.hid (HX.out.call hb1)
    have HR := Lib.hid (HR.out.call hb1)
    have HJ2 := Lib.hid (HJ2.out.call hb1)
    have HD := Lib.hid (HD.out.below hb1)
    have HB := Lib.hid (btrans HB.out HB.out.size hb1); clear hb1
    have x0 : w1.cell? ⟨w.heap.size, 0, none⟩ = some (.slice sa d.S.length sc) := HX.out.cell 0
    have x1 : w1.cell? ⟨w.heap.size, 1, none⟩ = some (.slice pa d.P.length pc) := HX.out.cell 1
    have x2 : w1.cell? ⟨w.heap.size, 2, none⟩ = some (.int .i64 d.fuse) := HX.out.cell 2
    have x3 : w1.cell? ⟨w.heap.size, 3, none⟩ = some (.int .i64 d.ops) := HX.out.cell 3
    have x4 : w1.cell? ⟨w.heap.size, 4, none⟩ = some (.bool d.dead) := HX.out.cell 4
    go_wp2_with fail
    refine (RSLoad_any _ _ _ _ d _ HD.out).mono ?_
    rw [HL.out]
    simp only [spV]
    rintro er w2 ⟨rfl, hb1⟩
    clear x0 x1 x2 x3 x4
    have HX := Lib.hid (HX.out.call hb1)
    have HR := Lib.hid (HR.out.call hb1)
    have HJ2 := Lib.hid (HJ2.out.call hb1)
    have HD := Lib.hid (HD.out.below hb1)
    have HB := Lib.hid (btrans HB.out HB.out.size hb1); clear hb1
    have zj2 := HJ2.out.lt
    have hal := (Below.refl w2.heap.size w2).alloc (Nat.le_refl _) (.cells #[.int .i64 x.g, .int .i64 x.e, .int .i64 x.a, .int .i64 x.z, .int .i64 x.p] 23)
    have HS := Lib.hid (Bx.new w2 #[.int .i64 x.g, .int .i64 x.e, .int .i64 x.a, .int .i64 x.z, .int .i64 x.p] 23)
    have HX := Lib.hid (HX.out.call hal)
    have HR := Lib.hid (HR.out.call hal)
    have HJ2 := Lib.hid (HJ2.out.call hal)
    have HD := Lib.hid (HD.out.below hal)
    have HB := Lib.hid (btrans HB.out HB.out.size hal); clear hal
    go_upto_region 4 with (fail)
    generalize hW : w2.alloc (.cells #[.int .i64 x.g, .int .i64 x.e, .int .i64 x.a, .int .i64 x.z, .int .i64 x.p] 23) = v2 at HX HR HJ2 HD HB HS ⊢
    clear hW
    have zj := HJ2.out.lt
    have zs := HS.out.lt
    by_cases h20 : e = 20
    · subst h20
      obtain ⟨⟨nd, fe⟩, hst⟩ : ∃ r, storeS d sp1 = r := ⟨_, rfl⟩
      have HST := Lib.hid hst; clear hst
      have hal := (Below.refl v2.heap.size v2).alloc (Nat.le_refl _) (.cells #[.int .i64 1, .int .i64 0, .int .i64 0, .int .i64 0, .int .i64 0] 23)
      have HF := Lib.hid (Bx.new v2 #[.int .i64 1, .int .i64 0, .int .i64 0, .int .i64 0, .int .i64 0] 23)
      have HX := Lib.hid (HX.out.call hal)
      have HR := Lib.hid (HR.out.call hal)
      have HJ2 := Lib.hid (HJ2.out.call hal)
      have HD := Lib.hid (HD.out.below hal)
      have HB := Lib.hid (btrans HB.out HB.out.size hal); clear hal
      go_upto_region 8 with (fail)
      generalize hW : v2.alloc (.cells #[.int .i64 1, .int .i64 0, .int .i64 0, .int .i64 0, .int .i64 0] 23) = v3 at HX HR HJ2 HD HB HF ⊢
      clear hW HS
      have zj3 := HJ2.out.lt
      have x0 : v3.cell? ⟨w.heap.size, 0, none⟩ = some (.slice sa d.S.length sc) := HX.out.cell 0
      have x1 : v3.cell? ⟨w.heap.size, 1, none⟩ = some (.slice pa d.P.length pc) := HX.out.cell 1
      have x2 : v3.cell? ⟨w.heap.size, 2, none⟩ = some (.int .i64 d.fuse) := HX.out.cell 2
      have x3 : v3.cell? ⟨w.heap.size, 3, none⟩ = some (.int .i64 d.ops) := HX.out.cell 3
      have x4 : v3.cell? ⟨w.heap.size, 4, none⟩ = some (.bool d.dead) := HX.out.cell 4
      have s0 : v3.cell? ⟨v2.heap.size, 0, none⟩ = some (.int .i64 1) := HF.out.cell 0
      have s1 : v3.cell? ⟨v2.heap.size, 1, none⟩ = some (.int .i64 0) := HF.out.cell 1
      have s2 : v3.cell? ⟨v2.heap.size, 2, none⟩ = some (.int .i64 0) := HF.out.cell 2
      have s3 : v3.cell? ⟨v2.heap.size, 3, none⟩ = some (.int .i64 0) := HF.out.cell 3
      have s4 : v3.cell? ⟨v2.heap.size, 4, none⟩ = some (.int .i64 0) := HF.out.cell 4
      go_wp2_with fail
      refine (RSStore_any _ _ _ _ d sp1 _ HD.out (by omega)).mono ?_
      rw [HST.out]
      rintro er w4 ⟨a3, c3, a4, c4, rfl, hL4, hb1⟩
      clear x0 x1 x2 x3 x4
      clear s0 s1 s2 s3 s4
      have HX := Lib.hid (HX.out.call hb1)
      have HR := Lib.hid (HR.out.call hb1)
      have HJ2 := Lib.hid (HJ2.out.call hb1)
      have HF := Lib.hid (HF.out.call hb1)
      have HB := Lib.hid (btrans HB.out HB.out.size hb1); clear hb1
      have zw4 := HJ2.out.lt
      have hal := (Below.refl w4.heap.size w4).alloc (Nat.le_refl _) (.cells #[.slice a3 nd.S.length c3, .slice a4 nd.P.length c4, .int .i64 nd.fuse, .int .i64 nd.ops, .bool nd.dead] 38)
      have HN := Lib.hid (Bx.new w4 #[.slice a3 nd.S.length c3, .slice a4 nd.P.length c4, .int .i64 nd.fuse, .int .i64 nd.ops, .bool nd.dead] 38)
      have HL4 := Lib.hid (hL4.below hal); clear hL4
      have zs4 := HF.out.lt
      have HR := Lib.hid (HR.out.call hal)
      have HJ2 := Lib.hid (HJ2.out.call hal)
      have HF := Lib.hid (HF.out.call hal)
      have HB := Lib.hid (btrans HB.out HB.out.size hal); clear hal
      go_upto_region 9 with (fail)
      generalize hW : w4.alloc (.cells #[.slice a3 nd.S.length c3, .slice a4 nd.P.length c4, .int .i64 nd.fuse, .int .i64 nd.ops, .bool nd.dead] 38) = v4 at HR HJ2 HB HF HN HL4 ⊢
      clear hW
      have zj4 := HJ2.out.lt
      by_cases hf : fe = 0
      · subst hf
        have hres : openW d = ⟨nd, ⟨sp1, 0, 0⟩, [], [], 0⟩ := by unfold openW; rw [if_pos HV.out, HL.out]; simp only; rw [if_pos trivial, HST.out]; simp
        have HRES := Lib.hid hres; clear hres
        have n0 : v4.cell? ⟨w4.heap.size, 0, none⟩ = some (.slice a3 nd.S.length c3) := HN.out.cell 0
        have n1 : v4.cell? ⟨w4.heap.size, 1, none⟩ = some (.slice a4 nd.P.length c4) := HN.out.cell 1
        have n2 : v4.cell? ⟨w4.heap.size, 2, none⟩ = some (.int .i64 nd.fuse) := HN.out.cell 2
        have n3 : v4.cell? ⟨w4.heap.size, 3, none⟩ = some (.int .i64 nd.ops) := HN.out.cell 3
        have n4 : v4.cell? ⟨w4.heap.size, 4, none⟩ = some (.bool nd.dead) := HN.out.cell 4
        have s0 : v4.cell? ⟨v2.heap.size, 0, none⟩ = some (.int .i64 1) := HF.out.cell 0
        have s1 : v4.cell? ⟨v2.heap.size, 1, none⟩ = some (.int .i64 0) := HF.out.cell 1
        have s2 : v4.cell? ⟨v2.heap.size, 2, none⟩ = some (.int .i64 0) := HF.out.cell 2
        have s3 : v4.cell? ⟨v2.heap.size, 3, none⟩ = some (.int .i64 0) := HF.out.cell 3
        have s4 : v4.cell? ⟨v2.heap.size, 4, none⟩ = some (.int .i64 0) := HF.out.cell 4
        have hsL : v4.drew.cell? ⟨w4.heap.size, 0, none⟩ = some (.slice a3 nd.S.length c3) ∧ v4.drew.cell? ⟨w4.heap.size, 1, none⟩ = some (.slice a4 nd.P.length c4) ∧ v4.drew.cell? ⟨w4.heap.size, 2, none⟩ = some (.int .i64 nd.fuse) ∧ v4.drew.cell? ⟨w4.heap.size, 3, none⟩ = some (.int .i64 nd.ops) ∧ v4.drew.cell? ⟨w4.heap.size, 4, none⟩ = some (.bool nd.dead) ∧ v4.drew.cell? ⟨v2.heap.size, 0, none⟩ = some (.int .i64 1) ∧ v4.drew.cell? ⟨v2.heap.size, 1, none⟩ = some (.int .i64 0) ∧ v4.drew.cell? ⟨v2.heap.size, 2, none⟩ = some (.int .i64 0) ∧ v4.drew.cell? ⟨v2.heap.size, 3, none⟩ = some (.int .i64 0) ∧ v4.drew.cell? ⟨v2.heap.size, 4, none⟩ = some (.int .i64 0) := ⟨n0, n1, n2, n3, n4, s0, s1, s2, s3, s4⟩
        have HSL := Lib.hid hsL; clear hsL n0 n1 n2 n3 n4 s0 s1 s2 s3 s4
        go_wp2_with fail
        refine wp_region_held_drew (S := (fun w' => w'.cell? ⟨w4.heap.size, 0, none⟩ = some (.slice a3 nd.S.length c3) ∧ w'.cell? ⟨w4.heap.size, 1, none⟩ = some (.slice a4 nd.P.length c4) ∧ w'.cell? ⟨w4.heap.size, 2, none⟩ = some (.int .i64 nd.fuse) ∧ w'.cell? ⟨w4.heap.size, 3, none⟩ = some (.int .i64 nd.ops) ∧ w'.cell? ⟨w4.heap.size, 4, none⟩ = some (.bool nd.dead) ∧ w'.cell? ⟨v2.heap.size, 0, none⟩ = some (.int .i64 1) ∧ w'.cell? ⟨v2.heap.size, 1, none⟩ = some (.int .i64 0) ∧ w'.cell? ⟨v2.heap.size, 2, none⟩ = some (.int .i64 0) ∧ w'.cell? ⟨v2.heap.size, 3, none⟩ = some (.int .i64 0) ∧ w'.cell? ⟨v2.heap.size, 4, none⟩ = some (.int .i64 0))) (by kernel_rfl) ?_ (fun hHeld => ?_)
        · exact HSL.out
        refine takeH (i := 0) (v := ?vv1) 56 rfl rfl (by kernel_rfl) (by kernel_rfl) (by kernel_rfl) (fun _ _ _ h => h) (Or.inl ⟨by kernel_rfl, ?yy1⟩) (by assumption) ?_
        case yy1 => intro w hSw; (try dsimp only at hSw); go_simp; (try with_reducible rfl)
        simp only [List.setIfInBounds_toArray, List.set_cons_zero, List.set_cons_succ]
        refine takeH (i := 1) (v := ?vv2) 57 rfl rfl (by kernel_rfl) (by kernel_rfl) (by kernel_rfl) (fun _ _ _ h => h) (Or.inl ⟨by kernel_rfl, ?yy2⟩) (by assumption) ?_
        case yy2 => intro w hSw; (try dsimp only at hSw); go_simp; (try with_reducible rfl)
        simp only [List.setIfInBounds_toArray, List.set_cons_zero, List.set_cons_succ]
        refine takeH (i := 2) (v := ?vv3) 58 rfl rfl (by kernel_rfl) (by kernel_rfl) (by kernel_rfl) (fun _ _ _ h => h) (Or.inl ⟨by kernel_rfl, ?yy3⟩) (by assumption) ?_
        case yy3 => intro w hSw; (try dsimp only at hSw); go_simp; (try with_reducible rfl)
        simp only [List.setIfInBounds_toArray, List.set_cons_zero, List.set_cons_succ]
        refine wpAnyH_ready (rs := [3]) (by kernel_rfl) (by simp) ?_
        refine (AllReadyH.cons rfl (fun K hK => ?_) AllReadyH.nil)
        have r0 : v4.cell? ⟨(w.heap.size + 1), 0, none⟩ = some (.slice none 0 0) := HR.out.cell 0
        have r1 : v4.cell? ⟨(w.heap.size + 1), 1, none⟩ = some (.slice none 0 0) := HR.out.cell 1
        have r2 : v4.cell? ⟨(w.heap.size + 1), 2, none⟩ = some (.int .i64 0) := HR.out.cell 2
        have r3 : v4.cell? ⟨(w.heap.size + 1), 3, none⟩ = some (.int .i64 0) := HR.out.cell 3
        have r4 : v4.cell? ⟨(w.heap.size + 1), 4, none⟩ = some (.bool false) := HR.out.cell 4
        have f0 : v4.frozen? ⟨(w.heap.size + 1), 0, none⟩ = false := HR.out.free 0
        have f1 : v4.frozen? ⟨(w.heap.size + 1), 1, none⟩ = false := HR.out.free 1
        have f2 : v4.frozen? ⟨(w.heap.size + 1), 2, none⟩ = false := HR.out.free 2
        have f3 : v4.frozen? ⟨(w.heap.size + 1), 3, none⟩ = false := HR.out.free 3
        have f4 : v4.frozen? ⟨(w.heap.size + 1), 4, none⟩ = false := HR.out.free 4
        go_simp
        refine hK.out _ _ ?_ (fun hHeld => ?_)
        · exact wc_xxxxxyyyyy_5 (W := v4) (by assumption) (w.heap.size + 1) (by omega) (by omega) _ _ _ _ _
        clear hK K
        (try simp only [Act.put, List.setIfInBounds_toArray, List.set_cons_zero, List.set_cons_succ])
        clear r0 r1 r2 r3 r4
        clear f0 f1 f2 f3 f4
        have HRa := Lib.hid (HR.out.sets (.slice a3 nd.S.length c3) (.slice a4 nd.P.length c4) (.int .i64 nd.fuse) (.int .i64 nd.ops) (.bool nd.dead)); have HJa := Lib.hid (HJ2.out.sets_ne (c := w.heap.size + 1) (by omega) (.slice a3 nd.S.length c3) (.slice a4 nd.P.length c4) (.int .i64 nd.fuse) (.int .i64 nd.ops) (.bool nd.dead)); have HBa := Lib.hid (below_sets HB.out (w.heap.size + 1) (by omega) (.slice a3 nd.S.length c3) (.slice a4 nd.P.length c4) (.int .i64 nd.fuse) (.int .i64 nd.ops) (.bool nd.dead)); have HLa := Lib.hid (HL4.out.sets_box HR.out (.slice a3 nd.S.length c3) (.slice a4 nd.P.length c4) (.int .i64 nd.fuse) (.int .i64 nd.ops) (.bool nd.dead))
        generalize hWE : (((((v4.setCell ⟨(w.heap.size + 1), 0, none⟩ (.slice a3 nd.S.length c3)).setCell ⟨(w.heap.size + 1), 1, none⟩ (.slice a4 nd.P.length c4)).setCell ⟨(w.heap.size + 1), 2, none⟩ (.int .i64 nd.fuse)).setCell ⟨(w.heap.size + 1), 3, none⟩ (.int .i64 nd.ops)).setCell ⟨(w.heap.size + 1), 4, none⟩ (.bool nd.dead)) = WE at HRa HJa HBa HLa hHeld ⊢
        clear hWE
        refine wpAnyH_ready (rs := [4]) (by kernel_rfl) (by simp) ?_
        refine (AllReadyH.cons rfl (fun K hK => ?_) AllReadyH.nil)
        have q0 : WE.cell? ⟨(w.heap.size + 2), 0, none⟩ = some (.int .i64 0) := HJa.out.cell 0
        have q1 : WE.cell? ⟨(w.heap.size + 2), 1, none⟩ = some (.int .i64 0) := HJa.out.cell 1
        have q2 : WE.cell? ⟨(w.heap.size + 2), 2, none⟩ = some (.int .i64 0) := HJa.out.cell 2
        have q3 : WE.cell? ⟨(w.heap.size + 2), 3, none⟩ = some (.int .i64 0) := HJa.out.cell 3
        have q4 : WE.cell? ⟨(w.heap.size + 2), 4, none⟩ = some (.int .i64 0) := HJa.out.cell 4
        have q5 : WE.cell? ⟨(w.heap.size + 2), 5, none⟩ = some (.int .i64 0) := HJa.out.cell 5
        have q6 : WE.cell? ⟨(w.heap.size + 2), 6, none⟩ = some (.int .i64 0) := HJa.out.cell 6
        have p0 : WE.frozen? ⟨(w.heap.size + 2), 0, none⟩ = false := HJa.out.free 0
        have p1 : WE.frozen? ⟨(w.heap.size + 2), 1, none⟩ = false := HJa.out.free 1
        have p2 : WE.frozen? ⟨(w.heap.size + 2), 2, none⟩ = false := HJa.out.free 2
        have p3 : WE.frozen? ⟨(w.heap.size + 2), 3, none⟩ = false := HJa.out.free 3
        have p4 : WE.frozen? ⟨(w.heap.size + 2), 4, none⟩ = false := HJa.out.free 4
        have p5 : WE.frozen? ⟨(w.heap.size + 2), 5, none⟩ = false := HJa.out.free 5
        have p6 : WE.frozen? ⟨(w.heap.size + 2), 6, none⟩ = false := HJa.out.free 6
        go_simp
        refine hK.out _ _ ?_ (fun hHeld => ?_)
        · exact wc_xxxxxyyyyy_7 (W := WE) (by assumption) (w.heap.size + 2) (by omega) (by omega) _ _ _ _ _ _ _
        clear hK K
        (try simp only [Act.put, List.setIfInBounds_toArray, List.set_cons_zero, List.set_cons_succ])
        refine takeH (i := 5) (v := ?vv4) 4 rfl rfl (by kernel_rfl) (by kernel_rfl) (by kernel_rfl) (fun _ _ _ h => h) (Or.inl ⟨by kernel_rfl, ?yy4⟩) (by assumption) ?_
        case yy4 => intro w hSw; (try dsimp only at hSw); go_simp; (try with_reducible rfl)
        simp only [List.setIfInBounds_toArray, List.set_cons_zero, List.set_cons_succ]
        refine takeH (i := 6) (v := ?vv5) 5 rfl rfl (by kernel_rfl) (by kernel_rfl) (by kernel_rfl) (fun _ _ _ h => h) (Or.inl ⟨by kernel_rfl, ?yy5⟩) (by assumption) ?_
        case yy5 => intro w hSw; (try dsimp only at hSw); go_simp; (try with_reducible rfl)
        simp only [List.setIfInBounds_toArray, List.set_cons_zero, List.set_cons_succ]
        refine takeH (i := 7) (v := ?vv6) 6 rfl rfl (by kernel_rfl) (by kernel_rfl) (by kernel_rfl) (fun _ _ _ h => h) (Or.inl ⟨by kernel_rfl, ?yy6⟩) (by assumption) ?_
        case yy6 => intro w hSw; (try dsimp only at hSw); go_simp; (try with_reducible rfl)
        simp only [List.setIfInBounds_toArray, List.set_cons_zero, List.set_cons_succ]
        refine wpAnyH_done (by kernel_rfl) ?_ _
        have KR := Lib.hid (HRa.out.sets7_ne (c := w.heap.size + 2) (by omega) (.int .i64 1) (.int .i64 0) (.int .i64 0) (.int .i64 0) (.int .i64 0) (.int .i64 0) (.int .i64 0)); have KJ := Lib.hid (HJa.out.sets7 (.int .i64 1) (.int .i64 0) (.int .i64 0) (.int .i64 0) (.int .i64 0) (.int .i64 0) (.int .i64 0)); have KL := Lib.hid (HLa.out.sets7i HJa.out (.int .i64 1) (.int .i64 0) (.int .i64 0) (.int .i64 0) (.int .i64 0) (.int .i64 0) (.int .i64 0)).drewD; have KB := Lib.hid (below_sets7 HBa.out (w.heap.size + 2) (by omega) (.int .i64 1) (.int .i64 0) (.int .i64 0) (.int .i64 0) (.int .i64 0) (.int .i64 0) (.int .i64 0)).drew
        go_wp2
        have k0 := KR.out.cell 0
        have k1 := KR.out.cell 1
        have k2 := KR.out.cell 2
        have k3 := KR.out.cell 3
        have k4 := KR.out.cell 4
        have m0 := KJ.out.cell 0
        have m1 := KJ.out.cell 1
        have m2 := KJ.out.cell 2
        have m3 := KJ.out.cell 3
        have m4 := KJ.out.cell 4
        have m5 := KJ.out.cell 5
        have m6 := KJ.out.cell 6
        simp only [List.getElem?_toArray, List.getElem?_cons_zero, List.getElem?_cons_succ] at k0 k1 k2 k3 k4 m0 m1 m2 m3 m4 m5 m6
        refine bodyPost_ret (v := .tuple #[.agg #[.slice a3 nd.S.length c3, .slice a4 nd.P.length c4, .int .i64 nd.fuse, .int .i64 nd.ops, .bool nd.dead], .agg #[.int .i64 1, .int .i64 0, .int .i64 0, .int .i64 0, .int .i64 0, .int .i64 0, .int .i64 0], .string (bs []), .slice none 0 0, .int .i64 0]) (by simp [results, Try.results36, go_sem, k0, k1, k2, k3, k4, m0, m1, m2, m3, m4, m5, m6]; rfl) rfl ?_
        exact ROPost.mk ⟨nd, ⟨sp1, 0, 0⟩, [], [], 0⟩ a3 c3 a4 c4 (.slice none 0 0) rfl KL.out (World.ownsRow_nil _ _ _ _) KB.out HRES.out
      · have tf : (fe != 0) = true := by rw [bne_iff_ne]; exact hf
        have HFE := Lib.hid hf; clear hf
        have hres : openW d = ⟨nd, j0, [], [], fe⟩ := by unfold openW; rw [if_pos HV.out, HL.out]; simp only; rw [if_pos trivial, HST.out]; simp only; rw [if_neg HFE.out]
        have HRES := Lib.hid hres; clear hres
        have n0 : v4.cell? ⟨w4.heap.size, 0, none⟩ = some (.slice a3 nd.S.length c3) := HN.out.cell 0
        have n1 : v4.cell? ⟨w4.heap.size, 1, none⟩ = some (.slice a4 nd.P.length c4) := HN.out.cell 1
        have n2 : v4.cell? ⟨w4.heap.size, 2, none⟩ = some (.int .i64 nd.fuse) := HN.out.cell 2
        have n3 : v4.cell? ⟨w4.heap.size, 3, none⟩ = some (.int .i64 nd.ops) := HN.out.cell 3
        have n4 : v4.cell? ⟨w4.heap.size, 4, none⟩ = some (.bool nd.dead) := HN.out.cell 4
        have r0 : v4.cell? ⟨(w.heap.size + 1), 0, none⟩ = some (.slice none 0 0) := HR.out.cell 0
        have r1 : v4.cell? ⟨(w.heap.size + 1), 1, none⟩ = some (.slice none 0 0) := HR.out.cell 1
        have r2 : v4.cell? ⟨(w.heap.size + 1), 2, none⟩ = some (.int .i64 0) := HR.out.cell 2
        have r3 : v4.cell? ⟨(w.heap.size + 1), 3, none⟩ = some (.int .i64 0) := HR.out.cell 3
        have r4 : v4.cell? ⟨(w.heap.size + 1), 4, none⟩ = some (.bool false) := HR.out.cell 4
        have q0 : v4.cell? ⟨(w.heap.size + 2), 0, none⟩ = some (.int .i64 0) := HJ2.out.cell 0
        have q1 : v4.cell? ⟨(w.heap.size + 2), 1, none⟩ = some (.int .i64 0) := HJ2.out.cell 1
        have q2 : v4.cell? ⟨(w.heap.size + 2), 2, none⟩ = some (.int .i64 0) := HJ2.out.cell 2
        have q3 : v4.cell? ⟨(w.heap.size + 2), 3, none⟩ = some (.int .i64 0) := HJ2.out.cell 3
        have q4 : v4.cell? ⟨(w.heap.size + 2), 4, none⟩ = some (.int .i64 0) := HJ2.out.cell 4
        have q5 : v4.cell? ⟨(w.heap.size + 2), 5, none⟩ = some (.int .i64 0) := HJ2.out.cell 5
        have q6 : v4.cell? ⟨(w.heap.size + 2), 6, none⟩ = some (.int .i64 0) := HJ2.out.cell 6
        have f0 := HR.out.free 0
        have f1 := HR.out.free 1
        have f2 := HR.out.free 2
        have f3 := HR.out.free 3
        have f4 := HR.out.free 4
        have p0 := HJ2.out.free 0
        have p1 := HJ2.out.free 1
        have p2 := HJ2.out.free 2
        have p3 := HJ2.out.free 3
        have p4 := HJ2.out.free 4
        have p5 := HJ2.out.free 5
        have p6 := HJ2.out.free 6
        have HJ3 := Lib.hid (HJ2.out.sets_ne (c := w.heap.size + 1) (by omega) (.slice a3 nd.S.length c3) (.slice a4 nd.P.length c4) (.int .i64 nd.fuse) (.int .i64 nd.ops) (.bool nd.dead))
        have KR := Lib.hid ((HR.out.sets (.slice a3 nd.S.length c3) (.slice a4 nd.P.length c4) (.int .i64 nd.fuse) (.int .i64 nd.ops) (.bool nd.dead)).sets7_ne (c := w.heap.size + 2) (by omega) (.int .i64 0) (.int .i64 0) (.int .i64 0) (.int .i64 0) (.int .i64 0) (.int .i64 0) (.int .i64 0))
        have KJ := Lib.hid (HJ3.out.sets7 (.int .i64 0) (.int .i64 0) (.int .i64 0) (.int .i64 0) (.int .i64 0) (.int .i64 0) (.int .i64 0))
        have KL := Lib.hid ((HL4.out.sets_box HR.out (.slice a3 nd.S.length c3) (.slice a4 nd.P.length c4) (.int .i64 nd.fuse) (.int .i64 nd.ops) (.bool nd.dead)).sets7i HJ3.out (.int .i64 0) (.int .i64 0) (.int .i64 0) (.int .i64 0) (.int .i64 0) (.int .i64 0) (.int .i64 0))
        have KB := Lib.hid (below_sets7 (below_sets HB.out (w.heap.size + 1) (by omega) (.slice a3 nd.S.length c3) (.slice a4 nd.P.length c4) (.int .i64 nd.fuse) (.int .i64 nd.ops) (.bool nd.dead)) (w.heap.size + 2) (by omega) (.int .i64 0) (.int .i64 0) (.int .i64 0) (.int .i64 0) (.int .i64 0) (.int .i64 0) (.int .i64 0))
        go_wp2
        have k0 := KR.out.cell 0
        have k1 := KR.out.cell 1
        have k2 := KR.out.cell 2
        have k3 := KR.out.cell 3
        have k4 := KR.out.cell 4
        have m0 := KJ.out.cell 0
        have m1 := KJ.out.cell 1
        have m2 := KJ.out.cell 2
        have m3 := KJ.out.cell 3
        have m4 := KJ.out.cell 4
        have m5 := KJ.out.cell 5
        have m6 := KJ.out.cell 6
        simp only [List.getElem?_toArray, List.getElem?_cons_zero, List.getElem?_cons_succ] at k0 k1 k2 k3 k4 m0 m1 m2 m3 m4 m5 m6
        refine bodyPost_ret (v := .tuple #[.agg #[.slice a3 nd.S.length c3, .slice a4 nd.P.length c4, .int .i64 nd.fuse, .int .i64 nd.ops, .bool nd.dead], .agg #[.int .i64 0, .int .i64 0, .int .i64 0, .int .i64 0, .int .i64 0, .int .i64 0, .int .i64 0], .string (bs []), .slice none 0 0, .int .i64 fe]) (by simp [results, Try.results36, go_sem, k0, k1, k2, k3, k4, m0, m1, m2, m3, m4, m5, m6]; rfl) rfl ?_
        exact ROPost.mk ⟨nd, j0, [], [], fe⟩ a3 c3 a4 c4 (.slice none 0 0) rfl KL.out (World.ownsRow_nil _ _ _ _) KB.out HRES.out
    · have t20 : (e == 20) = false := by rw [beq_eq_false_iff_ne]; exact h20
      have t20n : (e != 20) = true := by rw [bne_iff_ne]; exact h20
      have H20 := Lib.hid h20; clear h20
      by_cases h0 : e = 0
      rotate_left
      · have t0 : (e != 0) = true := by rw [bne_iff_ne]; exact h0
        have H0 := Lib.hid h0; clear h0
        have hres : openW d = ⟨d, j0, [], [], e⟩ := by unfold openW; rw [if_pos HV.out, HL.out]; simp only; rw [if_neg H20.out, if_neg H0.out]
        have HRES := Lib.hid hres; clear hres
        have x0 : v2.cell? ⟨w.heap.size, 0, none⟩ = some (.slice sa d.S.length sc) := HX.out.cell 0
        have x1 : v2.cell? ⟨w.heap.size, 1, none⟩ = some (.slice pa d.P.length pc) := HX.out.cell 1
        have x2 : v2.cell? ⟨w.heap.size, 2, none⟩ = some (.int .i64 d.fuse) := HX.out.cell 2
        have x3 : v2.cell? ⟨w.heap.size, 3, none⟩ = some (.int .i64 d.ops) := HX.out.cell 3
        have x4 : v2.cell? ⟨w.heap.size, 4, none⟩ = some (.bool d.dead) := HX.out.cell 4
        have r0 : v2.cell? ⟨(w.heap.size + 1), 0, none⟩ = some (.slice none 0 0) := HR.out.cell 0
        have r1 : v2.cell? ⟨(w.heap.size + 1), 1, none⟩ = some (.slice none 0 0) := HR.out.cell 1
        have r2 : v2.cell? ⟨(w.heap.size + 1), 2, none⟩ = some (.int .i64 0) := HR.out.cell 2
        have r3 : v2.cell? ⟨(w.heap.size + 1), 3, none⟩ = some (.int .i64 0) := HR.out.cell 3
        have r4 : v2.cell? ⟨(w.heap.size + 1), 4, none⟩ = some (.bool false) := HR.out.cell 4
        have q0 : v2.cell? ⟨(w.heap.size + 2), 0, none⟩ = some (.int .i64 0) := HJ2.out.cell 0
        have q1 : v2.cell? ⟨(w.heap.size + 2), 1, none⟩ = some (.int .i64 0) := HJ2.out.cell 1
        have q2 : v2.cell? ⟨(w.heap.size + 2), 2, none⟩ = some (.int .i64 0) := HJ2.out.cell 2
        have q3 : v2.cell? ⟨(w.heap.size + 2), 3, none⟩ = some (.int .i64 0) := HJ2.out.cell 3
        have q4 : v2.cell? ⟨(w.heap.size + 2), 4, none⟩ = some (.int .i64 0) := HJ2.out.cell 4
        have q5 : v2.cell? ⟨(w.heap.size + 2), 5, none⟩ = some (.int .i64 0) := HJ2.out.cell 5
        have q6 : v2.cell? ⟨(w.heap.size + 2), 6, none⟩ = some (.int .i64 0) := HJ2.out.cell 6
        have f0 := HR.out.free 0
        have f1 := HR.out.free 1
        have f2 := HR.out.free 2
        have f3 := HR.out.free 3
        have f4 := HR.out.free 4
        have p0 := HJ2.out.free 0
        have p1 := HJ2.out.free 1
        have p2 := HJ2.out.free 2
        have p3 := HJ2.out.free 3
        have p4 := HJ2.out.free 4
        have p5 := HJ2.out.free 5
        have p6 := HJ2.out.free 6
        have HJ3 := Lib.hid (HJ2.out.sets_ne (c := w.heap.size + 1) (by omega) (.slice sa d.S.length sc) (.slice pa d.P.length pc) (.int .i64 d.fuse) (.int .i64 d.ops) (.bool d.dead))
        have KR := Lib.hid ((HR.out.sets (.slice sa d.S.length sc) (.slice pa d.P.length pc) (.int .i64 d.fuse) (.int .i64 d.ops) (.bool d.dead)).sets7_ne (c := w.heap.size + 2) (by omega) (.int .i64 0) (.int .i64 0) (.int .i64 0) (.int .i64 0) (.int .i64 0) (.int .i64 0) (.int .i64 0))
        have KJ := Lib.hid (HJ3.out.sets7 (.int .i64 0) (.int .i64 0) (.int .i64 0) (.int .i64 0) (.int .i64 0) (.int .i64 0) (.int .i64 0))
        have KL := Lib.hid ((HD.out.sets_box HR.out (.slice sa d.S.length sc) (.slice pa d.P.length pc) (.int .i64 d.fuse) (.int .i64 d.ops) (.bool d.dead)).sets7i HJ3.out (.int .i64 0) (.int .i64 0) (.int .i64 0) (.int .i64 0) (.int .i64 0) (.int .i64 0) (.int .i64 0))
        have KB := Lib.hid (below_sets7 (below_sets HB.out (w.heap.size + 1) (by omega) (.slice sa d.S.length sc) (.slice pa d.P.length pc) (.int .i64 d.fuse) (.int .i64 d.ops) (.bool d.dead)) (w.heap.size + 2) (by omega) (.int .i64 0) (.int .i64 0) (.int .i64 0) (.int .i64 0) (.int .i64 0) (.int .i64 0) (.int .i64 0))
        go_wp2
        have k0 := KR.out.cell 0
        have k1 := KR.out.cell 1
        have k2 := KR.out.cell 2
        have k3 := KR.out.cell 3
        have k4 := KR.out.cell 4
        have m0 := KJ.out.cell 0
        have m1 := KJ.out.cell 1
        have m2 := KJ.out.cell 2
        have m3 := KJ.out.cell 3
        have m4 := KJ.out.cell 4
        have m5 := KJ.out.cell 5
        have m6 := KJ.out.cell 6
        simp only [List.getElem?_toArray, List.getElem?_cons_zero, List.getElem?_cons_succ] at k0 k1 k2 k3 k4 m0 m1 m2 m3 m4 m5 m6
        refine bodyPost_ret (v := .tuple #[.agg #[.slice sa d.S.length sc, .slice pa d.P.length pc, .int .i64 d.fuse, .int .i64 d.ops, .bool d.dead], .agg #[.int .i64 0, .int .i64 0, .int .i64 0, .int .i64 0, .int .i64 0, .int .i64 0, .int .i64 0], .string (bs []), .slice none 0 0, .int .i64 e]) (by simp [results, Try.results36, go_sem, k0, k1, k2, k3, k4, m0, m1, m2, m3, m4, m5, m6]; rfl) rfl ?_
        exact ROPost.mk ⟨d, j0, [], [], e⟩ sa sc pa pc (.slice none 0 0) rfl KL.out (World.ownsRow_nil _ _ _ _) KB.out HRES.out
      subst h0
      clear t20 t20n
      obtain ⟨⟨im, okc⟩, hck⟩ : ∃ r, ckS d x = r := ⟨_, rfl⟩
      have hxs := load_spB HL.out
      obtain ⟨xg1, xg2, _, _, xa0, xa2, _⟩ := spB_bounds hxs
      clear hxs
      have hb9 := (arN_bounds HV.out).2.1
      have hb8 := (arN_bounds HV.out).2.2.2.1
      have x0 : v2.cell? ⟨w.heap.size, 0, none⟩ = some (.slice sa d.S.length sc) := HX.out.cell 0
      have x1 : v2.cell? ⟨w.heap.size, 1, none⟩ = some (.slice pa d.P.length pc) := HX.out.cell 1
      have x2 : v2.cell? ⟨w.heap.size, 2, none⟩ = some (.int .i64 d.fuse) := HX.out.cell 2
      have x3 : v2.cell? ⟨w.heap.size, 3, none⟩ = some (.int .i64 d.ops) := HX.out.cell 3
      have x4 : v2.cell? ⟨w.heap.size, 4, none⟩ = some (.bool d.dead) := HX.out.cell 4
      go_wp2_with fail
      refine (RAreas_any _ _ _ _ d _ HD.out).mono ?_
      rw [areas_ok HV.out]
      rintro er w3 ⟨rfl, hb1⟩
      clear x0 x1 x2 x3 x4
      have HX := Lib.hid (HX.out.call hb1)
      have HR := Lib.hid (HR.out.call hb1)
      have HJ2 := Lib.hid (HJ2.out.call hb1)
      have HS := Lib.hid (HS.out.call hb1)
      have HD := Lib.hid (HD.out.below hb1)
      have HB := Lib.hid (btrans HB.out HB.out.size hb1); clear hb1
      obtain ⟨a, ha⟩ : ∃ a : Nat, a = arN d := ⟨_, rfl⟩
      rw [← ha] at hb9 ⊢
      have HAE := Lib.hid ha
      have zj3a := HJ2.out.lt
      have zs3a := HS.out.lt
      have hckx : x.a ≠ 0 → ckS d x = ((joinS (regS d (2 + (x.a - 1) * (a : Int)) a) x.e x.e).1, (joinS (regS d (2 + (x.a - 1) * (a : Int)) a) x.e x.e).2.2.2 && decide (((joinS (regS d (2 + (x.a - 1) * (a : Int)) a) x.e x.e).1.length : Int) = x.z)) := by intro hx; rw [ha]; unfold ckS; rw [if_neg hx]
      have hcky : x.a = 0 → im = [] ∧ okc = true := by intro hx; unfold ckS at hck; rw [if_pos hx] at hck; simp only [Prod.mk.injEq] at hck; exact ⟨hck.1.symm, hck.2.symm⟩
      have HCK := Lib.hid hck; have HCX := Lib.hid hckx; have HCY := Lib.hid hcky; clear hck hckx hcky ha
      cases okc with
      | false =>
        have hA : x.a ≠ 0 := by intro h; have := (HCY.out h).2; cases this
        have tA : (x.a != 0) = true := by rw [bne_iff_ne]; exact hA
        have HA := Lib.hid hA; clear hA
        have hst : (if x.a = 2 then 2 + (a : Int) else 2) = 2 + (x.a - 1) * (a : Int) := by
          have hA := HA.out
          rcases (show x.a = 1 ∨ x.a = 2 by omega) with h | h <;> rw [h]
          · rw [if_neg (by decide)]; omega
          · rw [if_pos rfl]; omega
        have hmul : (x.a - 1) * (a : Int) = 0 ∨ (x.a - 1) * (a : Int) = (a : Int) := by
          have hA := HA.out
          rcases (show x.a = 1 ∨ x.a = 2 by omega) with h | h <;> rw [h]
          · left; omega
          · right; omega
        have hf0 : 0 ≤ 2 + (x.a - 1) * (a : Int) ∧ 2 + (x.a - 1) * (a : Int) ≤ 1000000 := by omega
        have HF0 := Lib.hid hf0; have HST0 := Lib.hid hst; clear hf0 hmul hst
        obtain ⟨⟨rec, g, n, ok⟩, hj⟩ : ∃ r, joinS (regS d (2 + (x.a - 1) * (a : Int)) a) x.e x.e = r := ⟨_, rfl⟩
        have HJN := Lib.hid hj; clear hj
        have x0 : w3.cell? ⟨w.heap.size, 0, none⟩ = some (.slice sa d.S.length sc) := HX.out.cell 0
        have x1 : w3.cell? ⟨w.heap.size, 1, none⟩ = some (.slice pa d.P.length pc) := HX.out.cell 1
        have x2 : w3.cell? ⟨w.heap.size, 2, none⟩ = some (.int .i64 d.fuse) := HX.out.cell 2
        have x3 : w3.cell? ⟨w.heap.size, 3, none⟩ = some (.int .i64 d.ops) := HX.out.cell 3
        have x4 : w3.cell? ⟨w.heap.size, 4, none⟩ = some (.bool d.dead) := HX.out.cell 4
        have s1 : w3.cell? ⟨w2.heap.size, 1, none⟩ = some (.int .i64 x.e) := HS.out.cell 1
        have s2 : w3.cell? ⟨w2.heap.size, 2, none⟩ = some (.int .i64 x.a) := HS.out.cell 2
        go_upto_region 15 with (fail)
        have hs15 : w3.drew.cell? ⟨w.heap.size, 0, none⟩ = some (.slice sa d.S.length sc) ∧ w3.drew.cell? ⟨w.heap.size, 1, none⟩ = some (.slice pa d.P.length pc) ∧ w3.drew.cell? ⟨w.heap.size, 2, none⟩ = some (.int .i64 d.fuse) ∧ w3.drew.cell? ⟨w.heap.size, 3, none⟩ = some (.int .i64 d.ops) ∧ w3.drew.cell? ⟨w.heap.size, 4, none⟩ = some (.bool d.dead) ∧ w3.drew.cell? ⟨w2.heap.size, 1, none⟩ = some (.int .i64 x.e) ∧ w3.drew.cell? ⟨w2.heap.size, 2, none⟩ = some (.int .i64 x.a) := ⟨x0, x1, x2, x3, x4, s1, s2⟩
        have HS15 := Lib.hid hs15; clear hs15 x0 x1 x2 x3 x4 s1 s2
        refine wp_region_held_drew (S := (fun w' => w'.cell? ⟨w.heap.size, 0, none⟩ = some (.slice sa d.S.length sc) ∧ w'.cell? ⟨w.heap.size, 1, none⟩ = some (.slice pa d.P.length pc) ∧ w'.cell? ⟨w.heap.size, 2, none⟩ = some (.int .i64 d.fuse) ∧ w'.cell? ⟨w.heap.size, 3, none⟩ = some (.int .i64 d.ops) ∧ w'.cell? ⟨w.heap.size, 4, none⟩ = some (.bool d.dead) ∧ w'.cell? ⟨w2.heap.size, 1, none⟩ = some (.int .i64 x.e) ∧ w'.cell? ⟨w2.heap.size, 2, none⟩ = some (.int .i64 x.a))) (by kernel_rfl) ?_ (fun hHeld => ?_)
        · exact HS15.out
        refine takeH (i := 0) (v := ?vv7) 69 rfl rfl (by kernel_rfl) (by kernel_rfl) (by kernel_rfl) (fun _ _ _ h => h) (Or.inl ⟨by kernel_rfl, ?yy7⟩) (by assumption) ?_
        case yy7 => intro w hSw; (try dsimp only at hSw); go_simp; (try with_reducible rfl)
        simp only [List.setIfInBounds_toArray, List.set_cons_zero, List.set_cons_succ]
        refine takeH (i := 1) (v := ?vv8) 70 rfl rfl (by kernel_rfl) (by kernel_rfl) (by kernel_rfl) (fun _ _ _ h => h) (Or.inl ⟨by kernel_rfl, ?yy8⟩) (by assumption) ?_
        case yy8 => intro w hSw; (try dsimp only at hSw); go_simp; (try with_reducible rfl)
        simp only [List.setIfInBounds_toArray, List.set_cons_zero, List.set_cons_succ]
        refine takeH (i := 2) (v := ?vv9) 71 rfl rfl (by kernel_rfl) (by kernel_rfl) (by kernel_rfl) (fun _ _ _ h => h) (Or.inl ⟨by kernel_rfl, ?yy9⟩) (by assumption) ?_
        case yy9 => intro w hSw; (try dsimp only at hSw); go_simp; (try with_reducible rfl)
        simp only [List.setIfInBounds_toArray, List.set_cons_zero, List.set_cons_succ]
        refine takeH (i := 3) (v := ?vv10) 72 rfl rfl (by kernel_rfl) (by kernel_rfl) (by kernel_rfl) (fun _ _ _ h => h) (Or.inl ⟨by kernel_rfl, ?yy10⟩) (by assumption) ?_
        case yy10 => intro w hSw; (try dsimp only at hSw); go_simp; (try with_reducible rfl)
        simp only [List.setIfInBounds_toArray, List.set_cons_zero, List.set_cons_succ]
        refine takeH (i := 5) (v := ?vv11) 74 rfl rfl (by kernel_rfl) (by kernel_rfl) (by kernel_rfl) (fun _ _ _ h => h) (Or.inl ⟨by kernel_rfl, ?yy11⟩) (by assumption) ?_
        case yy11 => intro w hSw; (try dsimp only at hSw); go_simp; (try with_reducible rfl)
        simp only [List.setIfInBounds_toArray, List.set_cons_zero, List.set_cons_succ]
        refine takeH (i := 7) (v := ?vv12) 76 rfl rfl (by kernel_rfl) (by kernel_rfl) (by kernel_rfl) (fun _ _ _ h => h) (Or.inl ⟨by kernel_rfl, ?yy12⟩) (by assumption) ?_
        case yy12 => intro w hSw; (try dsimp only at hSw); go_simp; (try with_reducible rfl)
        simp only [List.setIfInBounds_toArray, List.set_cons_zero, List.set_cons_succ]
        refine takeH (i := 8) (v := ?vv13) 77 rfl rfl (by kernel_rfl) (by kernel_rfl) (by kernel_rfl) (fun _ _ _ h => h) (Or.inl ⟨by kernel_rfl, ?yy13⟩) (by assumption) ?_
        case yy13 => intro w hSw; (try dsimp only at hSw); go_simp; (try with_reducible rfl)
        simp only [List.setIfInBounds_toArray, List.set_cons_zero, List.set_cons_succ]
        refine takeH (i := 9) (v := ?vv14) 78 rfl rfl (by kernel_rfl) (by kernel_rfl) (by kernel_rfl) (fun _ _ _ h => h) (Or.inl ⟨by kernel_rfl, ?yy14⟩) (by assumption) ?_
        case yy14 => intro w hSw; (try dsimp only at hSw); go_simp; (try with_reducible rfl)
        simp only [List.setIfInBounds_toArray, List.set_cons_zero, List.set_cons_succ]
        refine takeH (i := 10) (v := ?vv15) 79 rfl rfl (by kernel_rfl) (by kernel_rfl) (by kernel_rfl) (fun _ _ _ h => h) (Or.inl ⟨by kernel_rfl, ?yy15⟩) (by assumption) ?_
        case yy15 => intro w hSw; (try dsimp only at hSw); go_simp; (try with_reducible rfl)
        simp only [List.setIfInBounds_toArray, List.set_cons_zero, List.set_cons_succ]
        refine wpAnyH_ready (rs := [4]) (by kernel_rfl) (by simp) ?_
        refine (AllReadyH.cons rfl (fun K hK => ?_) AllReadyH.nil)
        go_simp
        (refine (Rstart_any _ _ _ _ d x.a _ (HD.out.below (Below.refl w3.heap.size w3).drew) HV.out).mono ?_; rw [← HAE.out, HST0.out]; rintro er w4 ⟨rfl, hb4⟩)
        (try go_wp2_with fail)
        refine hK.out _ _ ?_ (fun hHeld => ?_)
        · exact wcells7_below hHeld hb4
        clear hK K
        (try simp only [Act.put, List.setIfInBounds_toArray, List.set_cons_zero, List.set_cons_succ])
        have hc4 := btrans (Below.refl w3.heap.size w3).drew (Nat.le_refl _) hb4
        refine wpAnyH_ready (rs := [6]) (by kernel_rfl) (by simp) ?_
        refine (AllReadyH.cons rfl (fun K hK => ?_) AllReadyH.nil)
        go_simp
        (refine (Rread_any _ _ _ _ d (2 + (x.a - 1) * (a : Int)) a _ (HD.out.below hc4) HF0.out.1 HF0.out.2 (by omega)).mono ?_; rintro er w5 ⟨v, rfl, hown5, hb5⟩)
        (try go_wp2_with fail)
        refine hK.out _ _ ?_ (fun hHeld => ?_)
        · exact wcells7_below hHeld hb5
        clear hK K
        (try simp only [Act.put, List.setIfInBounds_toArray, List.set_cons_zero, List.set_cons_succ])
        have hc5 := btrans hc4 hc4.size hb5
        refine wpAnyH_ready (rs := [11]) (by kernel_rfl) (by simp) ?_
        refine (AllReadyH.cons rfl (fun K hK => ?_) AllReadyH.nil)
        go_simp
        (refine (RJoin_any _ _ x.e x.e _ (StrS.of_own hown5) (regS_le _ _ _)).mono ?_; rw [HJN.out]; rintro er w6 ⟨rfl, hb6⟩)
        (try go_wp2_with fail)
        refine hK.out _ _ ?_ (fun hHeld => ?_)
        · exact wcells7_below hHeld hb6
        clear hK K
        (try simp only [Act.put, List.setIfInBounds_toArray, List.set_cons_zero, List.set_cons_succ])
        have hc6 := btrans hc5 hc5.size hb6
        refine takeH (i := 12) (v := ?vv16) 68 rfl rfl (by kernel_rfl) (by kernel_rfl) (by kernel_rfl) (fun _ _ _ h => h) (Or.inl ⟨by kernel_rfl, ?yy16⟩) (by assumption) ?_
        case yy16 => intro w hSw; (try dsimp only at hSw); go_simp; (try with_reducible rfl)
        simp only [List.setIfInBounds_toArray, List.set_cons_zero, List.set_cons_succ]
        refine takeH (i := 13) (v := ?vv17) 81 rfl rfl (by kernel_rfl) (by kernel_rfl) (by kernel_rfl) (fun _ _ _ h => h) (Or.inl ⟨by kernel_rfl, ?yy17⟩) (by assumption) ?_
        case yy17 => intro w hSw; (try dsimp only at hSw); go_simp; (try with_reducible rfl)
        simp only [List.setIfInBounds_toArray, List.set_cons_zero, List.set_cons_succ]
        refine takeH (i := 14) (v := ?vv18) 82 rfl rfl (by kernel_rfl) (by kernel_rfl) (by kernel_rfl) (fun _ _ _ h => h) (Or.inl ⟨by kernel_rfl, ?yy18⟩) (by assumption) ?_
        case yy18 => intro w hSw; (try dsimp only at hSw); go_simp; (try with_reducible rfl)
        simp only [List.setIfInBounds_toArray, List.set_cons_zero, List.set_cons_succ]
        refine takeH (i := 15) (v := ?vv19) 83 rfl rfl (by kernel_rfl) (by kernel_rfl) (by kernel_rfl) (fun _ _ _ h => h) (Or.inl ⟨by kernel_rfl, ?yy19⟩) (by assumption) ?_
        case yy19 => intro w hSw; (try dsimp only at hSw); go_simp; (try with_reducible rfl)
        simp only [List.setIfInBounds_toArray, List.set_cons_zero, List.set_cons_succ]
        refine takeH (i := 16) (v := ?vv20) 84 rfl rfl (by kernel_rfl) (by kernel_rfl) (by kernel_rfl) (fun _ _ _ h => h) (Or.inl ⟨by kernel_rfl, ?yy20⟩) (by assumption) ?_
        case yy20 => intro w hSw; (try dsimp only at hSw); go_simp; (try with_reducible rfl)
        simp only [List.setIfInBounds_toArray, List.set_cons_zero, List.set_cons_succ]
        refine takeH (i := 17) (v := ?vv21) 16 rfl rfl (by kernel_rfl) (by kernel_rfl) (by kernel_rfl) (fun _ _ _ h => h) (Or.inl ⟨by kernel_rfl, ?yy21⟩) (by assumption) ?_
        case yy21 => intro w hSw; (try dsimp only at hSw); go_simp; (try with_reducible rfl)
        simp only [List.setIfInBounds_toArray, List.set_cons_zero, List.set_cons_succ]
        refine takeH (i := 18) (v := ?vv22) 17 rfl rfl (by kernel_rfl) (by kernel_rfl) (by kernel_rfl) (fun _ _ _ h => h) (Or.inl ⟨by kernel_rfl, ?yy22⟩) (by assumption) ?_
        case yy22 => intro w hSw; (try dsimp only at hSw); go_simp; (try with_reducible rfl)
        simp only [List.setIfInBounds_toArray, List.set_cons_zero, List.set_cons_succ]
        refine takeH (i := 19) (v := ?vv23) 18 rfl rfl (by kernel_rfl) (by kernel_rfl) (by kernel_rfl) (fun _ _ _ h => h) (Or.inl ⟨by kernel_rfl, ?yy23⟩) (by assumption) ?_
        case yy23 => intro w hSw; (try dsimp only at hSw); go_simp; (try with_reducible rfl)
        simp only [List.setIfInBounds_toArray, List.set_cons_zero, List.set_cons_succ]
        refine takeH (i := 20) (v := ?vv24) 19 rfl rfl (by kernel_rfl) (by kernel_rfl) (by kernel_rfl) (fun _ _ _ h => h) (Or.inl ⟨by kernel_rfl, ?yy24⟩) (by assumption) ?_
        case yy24 => intro w hSw; (try dsimp only at hSw); go_simp; (try with_reducible rfl)
        simp only [List.setIfInBounds_toArray, List.set_cons_zero, List.set_cons_succ]
        refine wpAnyH_done (by kernel_rfl) ?_ _
        clear hb4 hb5 hb6 hc4 hc5 hown5 hHeld
        have HCX2 := Lib.hid (HCX.out HA.out)
        have HX := Lib.hid (HX.out.call hc6)
        have HR := Lib.hid (HR.out.call hc6)
        have HJ2 := Lib.hid (HJ2.out.call hc6)
        have HS := Lib.hid (HS.out.call hc6)
        have HD := Lib.hid (HD.out.below hc6); have HB := Lib.hid (btrans HB.out HB.out.size hc6); clear hc6
        have hres : openW d = ⟨d, j0, [], [], 20⟩ := by unfold openW; rw [if_pos HV.out, HL.out]; simp only; rw [if_neg (by decide), if_pos trivial, HCK.out]; simp
        have HRES := Lib.hid hres; clear hres
        have x0 : w6.cell? ⟨w.heap.size, 0, none⟩ = some (.slice sa d.S.length sc) := HX.out.cell 0
        have x1 : w6.cell? ⟨w.heap.size, 1, none⟩ = some (.slice pa d.P.length pc) := HX.out.cell 1
        have x2 : w6.cell? ⟨w.heap.size, 2, none⟩ = some (.int .i64 d.fuse) := HX.out.cell 2
        have x3 : w6.cell? ⟨w.heap.size, 3, none⟩ = some (.int .i64 d.ops) := HX.out.cell 3
        have x4 : w6.cell? ⟨w.heap.size, 4, none⟩ = some (.bool d.dead) := HX.out.cell 4
        have s3 : w6.cell? ⟨w2.heap.size, 3, none⟩ = some (.int .i64 x.z) := HS.out.cell 3
        cases ok with
        | false =>
          skip
          have r0 : w6.cell? ⟨(w.heap.size + 1), 0, none⟩ = some (.slice none 0 0) := HR.out.cell 0
          have r1 : w6.cell? ⟨(w.heap.size + 1), 1, none⟩ = some (.slice none 0 0) := HR.out.cell 1
          have r2 : w6.cell? ⟨(w.heap.size + 1), 2, none⟩ = some (.int .i64 0) := HR.out.cell 2
          have r3 : w6.cell? ⟨(w.heap.size + 1), 3, none⟩ = some (.int .i64 0) := HR.out.cell 3
          have r4 : w6.cell? ⟨(w.heap.size + 1), 4, none⟩ = some (.bool false) := HR.out.cell 4
          have q0 : w6.cell? ⟨(w.heap.size + 2), 0, none⟩ = some (.int .i64 0) := HJ2.out.cell 0
          have q1 : w6.cell? ⟨(w.heap.size + 2), 1, none⟩ = some (.int .i64 0) := HJ2.out.cell 1
          have q2 : w6.cell? ⟨(w.heap.size + 2), 2, none⟩ = some (.int .i64 0) := HJ2.out.cell 2
          have q3 : w6.cell? ⟨(w.heap.size + 2), 3, none⟩ = some (.int .i64 0) := HJ2.out.cell 3
          have q4 : w6.cell? ⟨(w.heap.size + 2), 4, none⟩ = some (.int .i64 0) := HJ2.out.cell 4
          have q5 : w6.cell? ⟨(w.heap.size + 2), 5, none⟩ = some (.int .i64 0) := HJ2.out.cell 5
          have q6 : w6.cell? ⟨(w.heap.size + 2), 6, none⟩ = some (.int .i64 0) := HJ2.out.cell 6
          have f0 := HR.out.free 0
          have f1 := HR.out.free 1
          have f2 := HR.out.free 2
          have f3 := HR.out.free 3
          have f4 := HR.out.free 4
          have p0 := HJ2.out.free 0
          have p1 := HJ2.out.free 1
          have p2 := HJ2.out.free 2
          have p3 := HJ2.out.free 3
          have p4 := HJ2.out.free 4
          have p5 := HJ2.out.free 5
          have p6 := HJ2.out.free 6
          have HJ3 := Lib.hid (HJ2.out.sets_ne (c := w.heap.size + 1) (by omega) (.slice sa d.S.length sc) (.slice pa d.P.length pc) (.int .i64 d.fuse) (.int .i64 d.ops) (.bool d.dead))
          have KR := Lib.hid ((HR.out.sets (.slice sa d.S.length sc) (.slice pa d.P.length pc) (.int .i64 d.fuse) (.int .i64 d.ops) (.bool d.dead)).sets7_ne (c := w.heap.size + 2) (by omega) (.int .i64 0) (.int .i64 0) (.int .i64 0) (.int .i64 0) (.int .i64 0) (.int .i64 0) (.int .i64 0))
          have KJ := Lib.hid (HJ3.out.sets7 (.int .i64 0) (.int .i64 0) (.int .i64 0) (.int .i64 0) (.int .i64 0) (.int .i64 0) (.int .i64 0))
          have KL := Lib.hid ((HD.out.sets_box HR.out (.slice sa d.S.length sc) (.slice pa d.P.length pc) (.int .i64 d.fuse) (.int .i64 d.ops) (.bool d.dead)).sets7i HJ3.out (.int .i64 0) (.int .i64 0) (.int .i64 0) (.int .i64 0) (.int .i64 0) (.int .i64 0) (.int .i64 0))
          have KB := Lib.hid (below_sets7 (below_sets HB.out (w.heap.size + 1) (by omega) (.slice sa d.S.length sc) (.slice pa d.P.length pc) (.int .i64 d.fuse) (.int .i64 d.ops) (.bool d.dead)) (w.heap.size + 2) (by omega) (.int .i64 0) (.int .i64 0) (.int .i64 0) (.int .i64 0) (.int .i64 0) (.int .i64 0) (.int .i64 0))
          go_wp2
          have k0 := KR.out.cell 0
          have k1 := KR.out.cell 1
          have k2 := KR.out.cell 2
          have k3 := KR.out.cell 3
          have k4 := KR.out.cell 4
          have m0 := KJ.out.cell 0
          have m1 := KJ.out.cell 1
          have m2 := KJ.out.cell 2
          have m3 := KJ.out.cell 3
          have m4 := KJ.out.cell 4
          have m5 := KJ.out.cell 5
          have m6 := KJ.out.cell 6
          simp only [List.getElem?_toArray, List.getElem?_cons_zero, List.getElem?_cons_succ] at k0 k1 k2 k3 k4 m0 m1 m2 m3 m4 m5 m6
          refine bodyPost_ret (v := .tuple #[.agg #[.slice sa d.S.length sc, .slice pa d.P.length pc, .int .i64 d.fuse, .int .i64 d.ops, .bool d.dead], .agg #[.int .i64 0, .int .i64 0, .int .i64 0, .int .i64 0, .int .i64 0, .int .i64 0, .int .i64 0], .string (bs []), .slice none 0 0, .int .i64 20]) (by simp [results, Try.results36, go_sem, k0, k1, k2, k3, k4, m0, m1, m2, m3, m4, m5, m6]; rfl) rfl ?_
          exact ROPost.mk ⟨d, j0, [], [], 20⟩ sa sc pa pc (.slice none 0 0) rfl KL.out (World.ownsRow_nil _ _ _ _) KB.out HRES.out
        | true =>
          have hz : ¬ (rec.length : Int) = x.z := by
            intro hz; have h1 := HCK.out; rw [HCX2.out, HJN.out] at h1; simp [hz] at h1
          have tz : ((rec.length : Int) != x.z) = true := by rw [bne_iff_ne]; exact hz
          clear hz
          skip
          have r0 : w6.cell? ⟨(w.heap.size + 1), 0, none⟩ = some (.slice none 0 0) := HR.out.cell 0
          have r1 : w6.cell? ⟨(w.heap.size + 1), 1, none⟩ = some (.slice none 0 0) := HR.out.cell 1
          have r2 : w6.cell? ⟨(w.heap.size + 1), 2, none⟩ = some (.int .i64 0) := HR.out.cell 2
          have r3 : w6.cell? ⟨(w.heap.size + 1), 3, none⟩ = some (.int .i64 0) := HR.out.cell 3
          have r4 : w6.cell? ⟨(w.heap.size + 1), 4, none⟩ = some (.bool false) := HR.out.cell 4
          have q0 : w6.cell? ⟨(w.heap.size + 2), 0, none⟩ = some (.int .i64 0) := HJ2.out.cell 0
          have q1 : w6.cell? ⟨(w.heap.size + 2), 1, none⟩ = some (.int .i64 0) := HJ2.out.cell 1
          have q2 : w6.cell? ⟨(w.heap.size + 2), 2, none⟩ = some (.int .i64 0) := HJ2.out.cell 2
          have q3 : w6.cell? ⟨(w.heap.size + 2), 3, none⟩ = some (.int .i64 0) := HJ2.out.cell 3
          have q4 : w6.cell? ⟨(w.heap.size + 2), 4, none⟩ = some (.int .i64 0) := HJ2.out.cell 4
          have q5 : w6.cell? ⟨(w.heap.size + 2), 5, none⟩ = some (.int .i64 0) := HJ2.out.cell 5
          have q6 : w6.cell? ⟨(w.heap.size + 2), 6, none⟩ = some (.int .i64 0) := HJ2.out.cell 6
          have f0 := HR.out.free 0
          have f1 := HR.out.free 1
          have f2 := HR.out.free 2
          have f3 := HR.out.free 3
          have f4 := HR.out.free 4
          have p0 := HJ2.out.free 0
          have p1 := HJ2.out.free 1
          have p2 := HJ2.out.free 2
          have p3 := HJ2.out.free 3
          have p4 := HJ2.out.free 4
          have p5 := HJ2.out.free 5
          have p6 := HJ2.out.free 6
          have HJ3 := Lib.hid (HJ2.out.sets_ne (c := w.heap.size + 1) (by omega) (.slice sa d.S.length sc) (.slice pa d.P.length pc) (.int .i64 d.fuse) (.int .i64 d.ops) (.bool d.dead))
          have KR := Lib.hid ((HR.out.sets (.slice sa d.S.length sc) (.slice pa d.P.length pc) (.int .i64 d.fuse) (.int .i64 d.ops) (.bool d.dead)).sets7_ne (c := w.heap.size + 2) (by omega) (.int .i64 0) (.int .i64 0) (.int .i64 0) (.int .i64 0) (.int .i64 0) (.int .i64 0) (.int .i64 0))
          have KJ := Lib.hid (HJ3.out.sets7 (.int .i64 0) (.int .i64 0) (.int .i64 0) (.int .i64 0) (.int .i64 0) (.int .i64 0) (.int .i64 0))
          have KL := Lib.hid ((HD.out.sets_box HR.out (.slice sa d.S.length sc) (.slice pa d.P.length pc) (.int .i64 d.fuse) (.int .i64 d.ops) (.bool d.dead)).sets7i HJ3.out (.int .i64 0) (.int .i64 0) (.int .i64 0) (.int .i64 0) (.int .i64 0) (.int .i64 0) (.int .i64 0))
          have KB := Lib.hid (below_sets7 (below_sets HB.out (w.heap.size + 1) (by omega) (.slice sa d.S.length sc) (.slice pa d.P.length pc) (.int .i64 d.fuse) (.int .i64 d.ops) (.bool d.dead)) (w.heap.size + 2) (by omega) (.int .i64 0) (.int .i64 0) (.int .i64 0) (.int .i64 0) (.int .i64 0) (.int .i64 0) (.int .i64 0))
          go_wp2
          have k0 := KR.out.cell 0
          have k1 := KR.out.cell 1
          have k2 := KR.out.cell 2
          have k3 := KR.out.cell 3
          have k4 := KR.out.cell 4
          have m0 := KJ.out.cell 0
          have m1 := KJ.out.cell 1
          have m2 := KJ.out.cell 2
          have m3 := KJ.out.cell 3
          have m4 := KJ.out.cell 4
          have m5 := KJ.out.cell 5
          have m6 := KJ.out.cell 6
          simp only [List.getElem?_toArray, List.getElem?_cons_zero, List.getElem?_cons_succ] at k0 k1 k2 k3 k4 m0 m1 m2 m3 m4 m5 m6
          refine bodyPost_ret (v := .tuple #[.agg #[.slice sa d.S.length sc, .slice pa d.P.length pc, .int .i64 d.fuse, .int .i64 d.ops, .bool d.dead], .agg #[.int .i64 0, .int .i64 0, .int .i64 0, .int .i64 0, .int .i64 0, .int .i64 0, .int .i64 0], .string (bs []), .slice none 0 0, .int .i64 20]) (by simp [results, Try.results36, go_sem, k0, k1, k2, k3, k4, m0, m1, m2, m3, m4, m5, m6]; rfl) rfl ?_
          exact ROPost.mk ⟨d, j0, [], [], 20⟩ sa sc pa pc (.slice none 0 0) rfl KL.out (World.ownsRow_nil _ _ _ _) KB.out HRES.out
      | true =>
        obtain ⟨t, ht⟩ : ∃ t : Bool, (x.a != 0) = t := ⟨_, rfl⟩
        have s2 : w3.cell? ⟨w2.heap.size, 2, none⟩ = some (.int .i64 x.a) := HS.out.cell 2
        go_upto_if 67 with (fail)
        clear s2
        have HTT := Lib.hid ht; clear ht
        go_cut [15] from 23 to 136 (fun s15 W => s15 = .string (bs im) ∧ Below w3.heap.size w3 W)
        case first =>
          cases t with
          | false =>
            have hA : x.a = 0 := by have h := HTT.out; simpa using h
            obtain ⟨rfl, _⟩ := HCY.out hA
            clear hA
            go_wp2_with fail
            go_meet
            exact ⟨rfl, Below.refl _ _⟩
          | true =>
            have hA : x.a ≠ 0 := by have h := HTT.out; simpa using h
            have tA : (x.a != 0) = true := by rw [bne_iff_ne]; exact hA
            have HA := Lib.hid hA; clear hA
            have hst : (if x.a = 2 then 2 + (a : Int) else 2) = 2 + (x.a - 1) * (a : Int) := by
              have hA := HA.out
              rcases (show x.a = 1 ∨ x.a = 2 by omega) with h | h <;> rw [h]
              · rw [if_neg (by decide)]; omega
              · rw [if_pos rfl]; omega
            have hmul : (x.a - 1) * (a : Int) = 0 ∨ (x.a - 1) * (a : Int) = (a : Int) := by
              have hA := HA.out
              rcases (show x.a = 1 ∨ x.a = 2 by omega) with h | h <;> rw [h]
              · left; omega
              · right; omega
            have hf0 : 0 ≤ 2 + (x.a - 1) * (a : Int) ∧ 2 + (x.a - 1) * (a : Int) ≤ 1000000 := by omega
            have HF0 := Lib.hid hf0; have HST0 := Lib.hid hst; clear hf0 hmul hst
            obtain ⟨⟨rec, g, n, ok⟩, hj⟩ : ∃ r, joinS (regS d (2 + (x.a - 1) * (a : Int)) a) x.e x.e = r := ⟨_, rfl⟩
            have HJN := Lib.hid hj; clear hj
            have x0 : w3.cell? ⟨w.heap.size, 0, none⟩ = some (.slice sa d.S.length sc) := HX.out.cell 0
            have x1 : w3.cell? ⟨w.heap.size, 1, none⟩ = some (.slice pa d.P.length pc) := HX.out.cell 1
            have x2 : w3.cell? ⟨w.heap.size, 2, none⟩ = some (.int .i64 d.fuse) := HX.out.cell 2
            have x3 : w3.cell? ⟨w.heap.size, 3, none⟩ = some (.int .i64 d.ops) := HX.out.cell 3
            have x4 : w3.cell? ⟨w.heap.size, 4, none⟩ = some (.bool d.dead) := HX.out.cell 4
            have s1 : w3.cell? ⟨w2.heap.size, 1, none⟩ = some (.int .i64 x.e) := HS.out.cell 1
            have s2 : w3.cell? ⟨w2.heap.size, 2, none⟩ = some (.int .i64 x.a) := HS.out.cell 2
            go_upto_region 15 with (fail)
            have hs15 : w3.drew.cell? ⟨w.heap.size, 0, none⟩ = some (.slice sa d.S.length sc) ∧ w3.drew.cell? ⟨w.heap.size, 1, none⟩ = some (.slice pa d.P.length pc) ∧ w3.drew.cell? ⟨w.heap.size, 2, none⟩ = some (.int .i64 d.fuse) ∧ w3.drew.cell? ⟨w.heap.size, 3, none⟩ = some (.int .i64 d.ops) ∧ w3.drew.cell? ⟨w.heap.size, 4, none⟩ = some (.bool d.dead) ∧ w3.drew.cell? ⟨w2.heap.size, 1, none⟩ = some (.int .i64 x.e) ∧ w3.drew.cell? ⟨w2.heap.size, 2, none⟩ = some (.int .i64 x.a) := ⟨x0, x1, x2, x3, x4, s1, s2⟩
            have HS15 := Lib.hid hs15; clear hs15 x0 x1 x2 x3 x4 s1 s2
            refine wp_region_held_drew (S := (fun w' => w'.cell? ⟨w.heap.size, 0, none⟩ = some (.slice sa d.S.length sc) ∧ w'.cell? ⟨w.heap.size, 1, none⟩ = some (.slice pa d.P.length pc) ∧ w'.cell? ⟨w.heap.size, 2, none⟩ = some (.int .i64 d.fuse) ∧ w'.cell? ⟨w.heap.size, 3, none⟩ = some (.int .i64 d.ops) ∧ w'.cell? ⟨w.heap.size, 4, none⟩ = some (.bool d.dead) ∧ w'.cell? ⟨w2.heap.size, 1, none⟩ = some (.int .i64 x.e) ∧ w'.cell? ⟨w2.heap.size, 2, none⟩ = some (.int .i64 x.a))) (by kernel_rfl) ?_ (fun hHeld => ?_)
            · exact HS15.out
            refine takeH (i := 0) (v := ?vv25) 69 rfl rfl (by kernel_rfl) (by kernel_rfl) (by kernel_rfl) (fun _ _ _ h => h) (Or.inl ⟨by kernel_rfl, ?yy25⟩) (by assumption) ?_
            case yy25 => intro w hSw; (try dsimp only at hSw); go_simp; (try with_reducible rfl)
            simp only [List.setIfInBounds_toArray, List.set_cons_zero, List.set_cons_succ]
            refine takeH (i := 1) (v := ?vv26) 70 rfl rfl (by kernel_rfl) (by kernel_rfl) (by kernel_rfl) (fun _ _ _ h => h) (Or.inl ⟨by kernel_rfl, ?yy26⟩) (by assumption) ?_
            case yy26 => intro w hSw; (try dsimp only at hSw); go_simp; (try with_reducible rfl)
            simp only [List.setIfInBounds_toArray, List.set_cons_zero, List.set_cons_succ]
            refine takeH (i := 2) (v := ?vv27) 71 rfl rfl (by kernel_rfl) (by kernel_rfl) (by kernel_rfl) (fun _ _ _ h => h) (Or.inl ⟨by kernel_rfl, ?yy27⟩) (by assumption) ?_
            case yy27 => intro w hSw; (try dsimp only at hSw); go_simp; (try with_reducible rfl)
            simp only [List.setIfInBounds_toArray, List.set_cons_zero, List.set_cons_succ]
            refine takeH (i := 3) (v := ?vv28) 72 rfl rfl (by kernel_rfl) (by kernel_rfl) (by kernel_rfl) (fun _ _ _ h => h) (Or.inl ⟨by kernel_rfl, ?yy28⟩) (by assumption) ?_
            case yy28 => intro w hSw; (try dsimp only at hSw); go_simp; (try with_reducible rfl)
            simp only [List.setIfInBounds_toArray, List.set_cons_zero, List.set_cons_succ]
            refine takeH (i := 5) (v := ?vv29) 74 rfl rfl (by kernel_rfl) (by kernel_rfl) (by kernel_rfl) (fun _ _ _ h => h) (Or.inl ⟨by kernel_rfl, ?yy29⟩) (by assumption) ?_
            case yy29 => intro w hSw; (try dsimp only at hSw); go_simp; (try with_reducible rfl)
            simp only [List.setIfInBounds_toArray, List.set_cons_zero, List.set_cons_succ]
            refine takeH (i := 7) (v := ?vv30) 76 rfl rfl (by kernel_rfl) (by kernel_rfl) (by kernel_rfl) (fun _ _ _ h => h) (Or.inl ⟨by kernel_rfl, ?yy30⟩) (by assumption) ?_
            case yy30 => intro w hSw; (try dsimp only at hSw); go_simp; (try with_reducible rfl)
            simp only [List.setIfInBounds_toArray, List.set_cons_zero, List.set_cons_succ]
            refine takeH (i := 8) (v := ?vv31) 77 rfl rfl (by kernel_rfl) (by kernel_rfl) (by kernel_rfl) (fun _ _ _ h => h) (Or.inl ⟨by kernel_rfl, ?yy31⟩) (by assumption) ?_
            case yy31 => intro w hSw; (try dsimp only at hSw); go_simp; (try with_reducible rfl)
            simp only [List.setIfInBounds_toArray, List.set_cons_zero, List.set_cons_succ]
            refine takeH (i := 9) (v := ?vv32) 78 rfl rfl (by kernel_rfl) (by kernel_rfl) (by kernel_rfl) (fun _ _ _ h => h) (Or.inl ⟨by kernel_rfl, ?yy32⟩) (by assumption) ?_
            case yy32 => intro w hSw; (try dsimp only at hSw); go_simp; (try with_reducible rfl)
            simp only [List.setIfInBounds_toArray, List.set_cons_zero, List.set_cons_succ]
            refine takeH (i := 10) (v := ?vv33) 79 rfl rfl (by kernel_rfl) (by kernel_rfl) (by kernel_rfl) (fun _ _ _ h => h) (Or.inl ⟨by kernel_rfl, ?yy33⟩) (by assumption) ?_
            case yy33 => intro w hSw; (try dsimp only at hSw); go_simp; (try with_reducible rfl)
            simp only [List.setIfInBounds_toArray, List.set_cons_zero, List.set_cons_succ]
            refine wpAnyH_ready (rs := [4]) (by kernel_rfl) (by simp) ?_
            refine (AllReadyH.cons rfl (fun K hK => ?_) AllReadyH.nil)
            go_simp
            (refine (Rstart_any _ _ _ _ d x.a _ (HD.out.below (Below.refl w3.heap.size w3).drew) HV.out).mono ?_; rw [← HAE.out, HST0.out]; rintro er w4 ⟨rfl, hb4⟩)
            (try go_wp2_with fail)
            refine hK.out _ _ ?_ (fun hHeld => ?_)
            · exact wcells7_below hHeld hb4
            clear hK K
            (try simp only [Act.put, List.setIfInBounds_toArray, List.set_cons_zero, List.set_cons_succ])
            have hc4 := btrans (Below.refl w3.heap.size w3).drew (Nat.le_refl _) hb4
            refine wpAnyH_ready (rs := [6]) (by kernel_rfl) (by simp) ?_
            refine (AllReadyH.cons rfl (fun K hK => ?_) AllReadyH.nil)
            go_simp
            (refine (Rread_any _ _ _ _ d (2 + (x.a - 1) * (a : Int)) a _ (HD.out.below hc4) HF0.out.1 HF0.out.2 (by omega)).mono ?_; rintro er w5 ⟨v, rfl, hown5, hb5⟩)
            (try go_wp2_with fail)
            refine hK.out _ _ ?_ (fun hHeld => ?_)
            · exact wcells7_below hHeld hb5
            clear hK K
            (try simp only [Act.put, List.setIfInBounds_toArray, List.set_cons_zero, List.set_cons_succ])
            have hc5 := btrans hc4 hc4.size hb5
            refine wpAnyH_ready (rs := [11]) (by kernel_rfl) (by simp) ?_
            refine (AllReadyH.cons rfl (fun K hK => ?_) AllReadyH.nil)
            go_simp
            (refine (RJoin_any _ _ x.e x.e _ (StrS.of_own hown5) (regS_le _ _ _)).mono ?_; rw [HJN.out]; rintro er w6 ⟨rfl, hb6⟩)
            (try go_wp2_with fail)
            refine hK.out _ _ ?_ (fun hHeld => ?_)
            · exact wcells7_below hHeld hb6
            clear hK K
            (try simp only [Act.put, List.setIfInBounds_toArray, List.set_cons_zero, List.set_cons_succ])
            have hc6 := btrans hc5 hc5.size hb6
            refine takeH (i := 12) (v := ?vv34) 68 rfl rfl (by kernel_rfl) (by kernel_rfl) (by kernel_rfl) (fun _ _ _ h => h) (Or.inl ⟨by kernel_rfl, ?yy34⟩) (by assumption) ?_
            case yy34 => intro w hSw; (try dsimp only at hSw); go_simp; (try with_reducible rfl)
            simp only [List.setIfInBounds_toArray, List.set_cons_zero, List.set_cons_succ]
            refine takeH (i := 13) (v := ?vv35) 81 rfl rfl (by kernel_rfl) (by kernel_rfl) (by kernel_rfl) (fun _ _ _ h => h) (Or.inl ⟨by kernel_rfl, ?yy35⟩) (by assumption) ?_
            case yy35 => intro w hSw; (try dsimp only at hSw); go_simp; (try with_reducible rfl)
            simp only [List.setIfInBounds_toArray, List.set_cons_zero, List.set_cons_succ]
            refine takeH (i := 14) (v := ?vv36) 82 rfl rfl (by kernel_rfl) (by kernel_rfl) (by kernel_rfl) (fun _ _ _ h => h) (Or.inl ⟨by kernel_rfl, ?yy36⟩) (by assumption) ?_
            case yy36 => intro w hSw; (try dsimp only at hSw); go_simp; (try with_reducible rfl)
            simp only [List.setIfInBounds_toArray, List.set_cons_zero, List.set_cons_succ]
            refine takeH (i := 15) (v := ?vv37) 83 rfl rfl (by kernel_rfl) (by kernel_rfl) (by kernel_rfl) (fun _ _ _ h => h) (Or.inl ⟨by kernel_rfl, ?yy37⟩) (by assumption) ?_
            case yy37 => intro w hSw; (try dsimp only at hSw); go_simp; (try with_reducible rfl)
            simp only [List.setIfInBounds_toArray, List.set_cons_zero, List.set_cons_succ]
            refine takeH (i := 16) (v := ?vv38) 84 rfl rfl (by kernel_rfl) (by kernel_rfl) (by kernel_rfl) (fun _ _ _ h => h) (Or.inl ⟨by kernel_rfl, ?yy38⟩) (by assumption) ?_
            case yy38 => intro w hSw; (try dsimp only at hSw); go_simp; (try with_reducible rfl)
            simp only [List.setIfInBounds_toArray, List.set_cons_zero, List.set_cons_succ]
            refine takeH (i := 17) (v := ?vv39) 16 rfl rfl (by kernel_rfl) (by kernel_rfl) (by kernel_rfl) (fun _ _ _ h => h) (Or.inl ⟨by kernel_rfl, ?yy39⟩) (by assumption) ?_
            case yy39 => intro w hSw; (try dsimp only at hSw); go_simp; (try with_reducible rfl)
            simp only [List.setIfInBounds_toArray, List.set_cons_zero, List.set_cons_succ]
            refine takeH (i := 18) (v := ?vv40) 17 rfl rfl (by kernel_rfl) (by kernel_rfl) (by kernel_rfl) (fun _ _ _ h => h) (Or.inl ⟨by kernel_rfl, ?yy40⟩) (by assumption) ?_
            case yy40 => intro w hSw; (try dsimp only at hSw); go_simp; (try with_reducible rfl)
            simp only [List.setIfInBounds_toArray, List.set_cons_zero, List.set_cons_succ]
            refine takeH (i := 19) (v := ?vv41) 18 rfl rfl (by kernel_rfl) (by kernel_rfl) (by kernel_rfl) (fun _ _ _ h => h) (Or.inl ⟨by kernel_rfl, ?yy41⟩) (by assumption) ?_
            case yy41 => intro w hSw; (try dsimp only at hSw); go_simp; (try with_reducible rfl)
            simp only [List.setIfInBounds_toArray, List.set_cons_zero, List.set_cons_succ]
            refine takeH (i := 20) (v := ?vv42) 19 rfl rfl (by kernel_rfl) (by kernel_rfl) (by kernel_rfl) (fun _ _ _ h => h) (Or.inl ⟨by kernel_rfl, ?yy42⟩) (by assumption) ?_
            case yy42 => intro w hSw; (try dsimp only at hSw); go_simp; (try with_reducible rfl)
            simp only [List.setIfInBounds_toArray, List.set_cons_zero, List.set_cons_succ]
            refine wpAnyH_done (by kernel_rfl) ?_ _
            clear hb4 hb5 hb6 hc4 hc5 hown5 hHeld
            have HCX2 := Lib.hid (HCX.out HA.out)
            have h1 := HCK.out
            rw [HCX2.out, HJN.out] at h1
            simp only [Prod.mk.injEq, Bool.and_eq_true, decide_eq_true_eq] at h1
            obtain ⟨rfl, rfl, hz⟩ := h1
            have tz : ((rec.length : Int) != x.z) = false := by rw [hz]; simp
            clear hz
            have s3 : w6.cell? ⟨w2.heap.size, 3, none⟩ = some (.int .i64 x.z) := (HS.out.call hc6).cell 3
            go_wp2_with fail
            go_meet
            exact ⟨rfl, hc6⟩
        case rest =>
          obtain ⟨rfl, hbc⟩ := hcut
          have HX := Lib.hid (HX.out.call hbc)
          have HR := Lib.hid (HR.out.call hbc)
          have HJ2 := Lib.hid (HJ2.out.call hbc)
          have HS := Lib.hid (HS.out.call hbc)
          have HD := Lib.hid (HD.out.below hbc)
          have HB := Lib.hid (btrans HB.out HB.out.size hbc); clear hbc
          obtain ⟨⟨M, kk⟩, hlg⟩ : ∃ r, logS d x = r := ⟨_, rfl⟩
          have HLG := Lib.hid hlg; have hkM := log_le hlg HV.out
          have HRC : recS (regS d (2 + 2 * (a : Int)) (szN d)) x.e x.g = (M, kk) := by rw [HAE.out]; exact hlg
          have HRC := Lib.hid HRC; clear hlg
          have x0 : wc.cell? ⟨w.heap.size, 0, none⟩ = some (.slice sa d.S.length sc) := HX.out.cell 0
          have x1 : wc.cell? ⟨w.heap.size, 1, none⟩ = some (.slice pa d.P.length pc) := HX.out.cell 1
          have x2 : wc.cell? ⟨w.heap.size, 2, none⟩ = some (.int .i64 d.fuse) := HX.out.cell 2
          have x3 : wc.cell? ⟨w.heap.size, 3, none⟩ = some (.int .i64 d.ops) := HX.out.cell 3
          have x4 : wc.cell? ⟨w.heap.size, 4, none⟩ = some (.bool d.dead) := HX.out.cell 4
          have s0 : wc.cell? ⟨w2.heap.size, 0, none⟩ = some (.int .i64 x.g) := HS.out.cell 0
          have s1 : wc.cell? ⟨w2.heap.size, 1, none⟩ = some (.int .i64 x.e) := HS.out.cell 1
          go_upto_region 19 with (fail)
          have hs19 : wc.drew.cell? ⟨w.heap.size, 0, none⟩ = some (.slice sa d.S.length sc) ∧ wc.drew.cell? ⟨w.heap.size, 1, none⟩ = some (.slice pa d.P.length pc) ∧ wc.drew.cell? ⟨w.heap.size, 2, none⟩ = some (.int .i64 d.fuse) ∧ wc.drew.cell? ⟨w.heap.size, 3, none⟩ = some (.int .i64 d.ops) ∧ wc.drew.cell? ⟨w.heap.size, 4, none⟩ = some (.bool d.dead) ∧ wc.drew.cell? ⟨w2.heap.size, 0, none⟩ = some (.int .i64 x.g) ∧ wc.drew.cell? ⟨w2.heap.size, 1, none⟩ = some (.int .i64 x.e) := ⟨x0, x1, x2, x3, x4, s0, s1⟩
          have HS19 := Lib.hid hs19; clear hs19 x0 x1 x2 x3 x4 s0 s1
          refine wp_region_held_drew (S := (fun w' => w'.cell? ⟨w.heap.size, 0, none⟩ = some (.slice sa d.S.length sc) ∧ w'.cell? ⟨w.heap.size, 1, none⟩ = some (.slice pa d.P.length pc) ∧ w'.cell? ⟨w.heap.size, 2, none⟩ = some (.int .i64 d.fuse) ∧ w'.cell? ⟨w.heap.size, 3, none⟩ = some (.int .i64 d.ops) ∧ w'.cell? ⟨w.heap.size, 4, none⟩ = some (.bool d.dead) ∧ w'.cell? ⟨w2.heap.size, 0, none⟩ = some (.int .i64 x.g) ∧ w'.cell? ⟨w2.heap.size, 1, none⟩ = some (.int .i64 x.e))) (by kernel_rfl) ?_ (fun hHeld => ?_)
          · exact HS19.out
          refine takeH (i := 0) (v := ?vv43) 98 rfl rfl (by kernel_rfl) (by kernel_rfl) (by kernel_rfl) (fun _ _ _ h => h) (Or.inl ⟨by kernel_rfl, ?yy43⟩) (by assumption) ?_
          case yy43 => intro w hSw; (try dsimp only at hSw); go_simp; (try with_reducible rfl)
          simp only [List.setIfInBounds_toArray, List.set_cons_zero, List.set_cons_succ]
          refine takeH (i := 1) (v := ?vv44) 99 rfl rfl (by kernel_rfl) (by kernel_rfl) (by kernel_rfl) (fun _ _ _ h => h) (Or.inl ⟨by kernel_rfl, ?yy44⟩) (by assumption) ?_
          case yy44 => intro w hSw; (try dsimp only at hSw); go_simp; (try with_reducible rfl)
          simp only [List.setIfInBounds_toArray, List.set_cons_zero, List.set_cons_succ]
          refine takeH (i := 2) (v := ?vv45) 100 rfl rfl (by kernel_rfl) (by kernel_rfl) (by kernel_rfl) (fun _ _ _ h => h) (Or.inl ⟨by kernel_rfl, ?yy45⟩) (by assumption) ?_
          case yy45 => intro w hSw; (try dsimp only at hSw); go_simp; (try with_reducible rfl)
          simp only [List.setIfInBounds_toArray, List.set_cons_zero, List.set_cons_succ]
          refine takeH (i := 4) (v := ?vv46) 102 rfl rfl (by kernel_rfl) (by kernel_rfl) (by kernel_rfl) (fun _ _ _ h => h) (Or.inl ⟨by kernel_rfl, ?yy46⟩) (by assumption) ?_
          case yy46 => intro w hSw; (try dsimp only at hSw); go_simp; (try with_reducible rfl)
          simp only [List.setIfInBounds_toArray, List.set_cons_zero, List.set_cons_succ]
          refine takeH (i := 5) (v := ?vv47) 103 rfl rfl (by kernel_rfl) (by kernel_rfl) (by kernel_rfl) (fun _ _ _ h => h) (Or.inl ⟨by kernel_rfl, ?yy47⟩) (by assumption) ?_
          case yy47 => intro w hSw; (try dsimp only at hSw); go_simp; (try with_reducible rfl)
          simp only [List.setIfInBounds_toArray, List.set_cons_zero, List.set_cons_succ]
          refine takeH (i := 6) (v := ?vv48) 104 rfl rfl (by kernel_rfl) (by kernel_rfl) (by kernel_rfl) (fun _ _ _ h => h) (Or.inl ⟨by kernel_rfl, ?yy48⟩) (by assumption) ?_
          case yy48 => intro w hSw; (try dsimp only at hSw); go_simp; (try with_reducible rfl)
          simp only [List.setIfInBounds_toArray, List.set_cons_zero, List.set_cons_succ]
          refine takeH (i := 7) (v := ?vv49) 105 rfl rfl (by kernel_rfl) (by kernel_rfl) (by kernel_rfl) (fun _ _ _ h => h) (Or.inl ⟨by kernel_rfl, ?yy49⟩) (by assumption) ?_
          case yy49 => intro w hSw; (try dsimp only at hSw); go_simp; (try with_reducible rfl)
          simp only [List.setIfInBounds_toArray, List.set_cons_zero, List.set_cons_succ]
          refine wpAnyH_ready (rs := [3]) (by kernel_rfl) (by simp) ?_
          refine (AllReadyH.cons rfl (fun K hK => ?_) AllReadyH.nil)
          go_simp
          (refine (Rread_any _ _ _ _ d (2 + 2 * (a : Int)) (szN d) _ (HD.out.below (Below.refl wc.heap.size wc).drew) (by omega) (by omega) (by omega)).mono ?_; rintro er w5 ⟨v, rfl, hown5, hb5⟩)
          (try go_wp2_with fail)
          refine hK.out _ _ ?_ (fun hHeld => ?_)
          · exact wcells7_below hHeld hb5
          clear hK K
          (try simp only [Act.put, List.setIfInBounds_toArray, List.set_cons_zero, List.set_cons_succ])
          have hc5 := btrans (Below.refl wc.heap.size wc).drew (Nat.le_refl _) hb5
          refine wpAnyH_ready (rs := [8]) (by kernel_rfl) (by simp) ?_
          refine (AllReadyH.cons rfl (fun K hK => ?_) AllReadyH.nil)
          go_simp
          (refine (Rrecords_any _ _ x.e x.g _ (StrS.of_own hown5) (by rw [regS_length]; omega) (regS_le _ _ _)).mono ?_; rw [HRC.out]; rintro er w6 ⟨vr, rfl, hown, hb6⟩)
          (try go_wp2_with fail)
          refine hK.out _ _ ?_ (fun hHeld => ?_)
          · exact wcells7_below hHeld hb6
          clear hK K
          (try simp only [Act.put, List.setIfInBounds_toArray, List.set_cons_zero, List.set_cons_succ])
          have hc6 := btrans hc5 hc5.size hb6
          refine takeH (i := 9) (v := ?vv50) 97 rfl rfl (by kernel_rfl) (by kernel_rfl) (by kernel_rfl) (fun _ _ _ h => h) (Or.inl ⟨by kernel_rfl, ?yy50⟩) (by assumption) ?_
          case yy50 => intro w hSw; (try dsimp only at hSw); go_simp; (try with_reducible rfl)
          simp only [List.setIfInBounds_toArray, List.set_cons_zero, List.set_cons_succ]
          refine takeH (i := 10) (v := ?vv51) 107 rfl rfl (by kernel_rfl) (by kernel_rfl) (by kernel_rfl) (fun _ _ _ h => h) (Or.inl ⟨by kernel_rfl, ?yy51⟩) (by assumption) ?_
          case yy51 => intro w hSw; (try dsimp only at hSw); go_simp; (try with_reducible rfl)
          simp only [List.setIfInBounds_toArray, List.set_cons_zero, List.set_cons_succ]
          refine takeH (i := 11) (v := ?vv52) 108 rfl rfl (by kernel_rfl) (by kernel_rfl) (by kernel_rfl) (fun _ _ _ h => h) (Or.inl ⟨by kernel_rfl, ?yy52⟩) (by assumption) ?_
          case yy52 => intro w hSw; (try dsimp only at hSw); go_simp; (try with_reducible rfl)
          simp only [List.setIfInBounds_toArray, List.set_cons_zero, List.set_cons_succ]
          refine takeH (i := 12) (v := ?vv53) 20 rfl rfl (by kernel_rfl) (by kernel_rfl) (by kernel_rfl) (fun _ _ _ h => h) (Or.inl ⟨by kernel_rfl, ?yy53⟩) (by assumption) ?_
          case yy53 => intro w hSw; (try dsimp only at hSw); go_simp; (try with_reducible rfl)
          simp only [List.setIfInBounds_toArray, List.set_cons_zero, List.set_cons_succ]
          refine takeH (i := 13) (v := ?vv54) 21 rfl rfl (by kernel_rfl) (by kernel_rfl) (by kernel_rfl) (fun _ _ _ h => h) (Or.inl ⟨by kernel_rfl, ?yy54⟩) (by assumption) ?_
          case yy54 => intro w hSw; (try dsimp only at hSw); go_simp; (try with_reducible rfl)
          simp only [List.setIfInBounds_toArray, List.set_cons_zero, List.set_cons_succ]
          refine wpAnyH_done (by kernel_rfl) ?_ _
          have zs5 := HS.out.lt
          have zc6 := hc5.size
          obtain ⟨ra, rc, rfl⟩ := own_slice hown
          have HV4 := Lib.hid hown; clear hown hb5 hb6 hc5 hown5 hHeld
          have HX := Lib.hid (HX.out.call hc6)
          have HR := Lib.hid (HR.out.call hc6)
          have HJ2 := Lib.hid (HJ2.out.call hc6)
          have HS := Lib.hid (HS.out.call hc6)
          have HD := Lib.hid (HD.out.below hc6); have HB := Lib.hid (btrans HB.out HB.out.size hc6); clear hc6
          by_cases hm : x.g = 1099511627776
          · have tm : (x.g == 1099511627776) = true := by rw [hm]; rfl
            have HM := Lib.hid hm; clear hm
            have s0 : w6.cell? ⟨w2.heap.size, 0, none⟩ = some (.int .i64 x.g) := HS.out.cell 0
            have hres : openW d = ⟨d, j0, [], [], 2⟩ := by unfold openW; rw [if_pos HV.out, HL.out]; simp only; rw [if_neg (by decide), if_pos trivial, HCK.out]; simp only; rw [if_pos trivial, if_pos HM.out]
            have HRES := Lib.hid hres; clear hres
            have x0 : w6.cell? ⟨w.heap.size, 0, none⟩ = some (.slice sa d.S.length sc) := HX.out.cell 0
            have x1 : w6.cell? ⟨w.heap.size, 1, none⟩ = some (.slice pa d.P.length pc) := HX.out.cell 1
            have x2 : w6.cell? ⟨w.heap.size, 2, none⟩ = some (.int .i64 d.fuse) := HX.out.cell 2
            have x3 : w6.cell? ⟨w.heap.size, 3, none⟩ = some (.int .i64 d.ops) := HX.out.cell 3
            have x4 : w6.cell? ⟨w.heap.size, 4, none⟩ = some (.bool d.dead) := HX.out.cell 4
            have r0 : w6.cell? ⟨(w.heap.size + 1), 0, none⟩ = some (.slice none 0 0) := HR.out.cell 0
            have r1 : w6.cell? ⟨(w.heap.size + 1), 1, none⟩ = some (.slice none 0 0) := HR.out.cell 1
            have r2 : w6.cell? ⟨(w.heap.size + 1), 2, none⟩ = some (.int .i64 0) := HR.out.cell 2
            have r3 : w6.cell? ⟨(w.heap.size + 1), 3, none⟩ = some (.int .i64 0) := HR.out.cell 3
            have r4 : w6.cell? ⟨(w.heap.size + 1), 4, none⟩ = some (.bool false) := HR.out.cell 4
            have q0 : w6.cell? ⟨(w.heap.size + 2), 0, none⟩ = some (.int .i64 0) := HJ2.out.cell 0
            have q1 : w6.cell? ⟨(w.heap.size + 2), 1, none⟩ = some (.int .i64 0) := HJ2.out.cell 1
            have q2 : w6.cell? ⟨(w.heap.size + 2), 2, none⟩ = some (.int .i64 0) := HJ2.out.cell 2
            have q3 : w6.cell? ⟨(w.heap.size + 2), 3, none⟩ = some (.int .i64 0) := HJ2.out.cell 3
            have q4 : w6.cell? ⟨(w.heap.size + 2), 4, none⟩ = some (.int .i64 0) := HJ2.out.cell 4
            have q5 : w6.cell? ⟨(w.heap.size + 2), 5, none⟩ = some (.int .i64 0) := HJ2.out.cell 5
            have q6 : w6.cell? ⟨(w.heap.size + 2), 6, none⟩ = some (.int .i64 0) := HJ2.out.cell 6
            have f0 := HR.out.free 0
            have f1 := HR.out.free 1
            have f2 := HR.out.free 2
            have f3 := HR.out.free 3
            have f4 := HR.out.free 4
            have p0 := HJ2.out.free 0
            have p1 := HJ2.out.free 1
            have p2 := HJ2.out.free 2
            have p3 := HJ2.out.free 3
            have p4 := HJ2.out.free 4
            have p5 := HJ2.out.free 5
            have p6 := HJ2.out.free 6
            have HJ3 := Lib.hid (HJ2.out.sets_ne (c := w.heap.size + 1) (by omega) (.slice sa d.S.length sc) (.slice pa d.P.length pc) (.int .i64 d.fuse) (.int .i64 d.ops) (.bool d.dead))
            have KR := Lib.hid ((HR.out.sets (.slice sa d.S.length sc) (.slice pa d.P.length pc) (.int .i64 d.fuse) (.int .i64 d.ops) (.bool d.dead)).sets7_ne (c := w.heap.size + 2) (by omega) (.int .i64 0) (.int .i64 0) (.int .i64 0) (.int .i64 0) (.int .i64 0) (.int .i64 0) (.int .i64 0))
            have KJ := Lib.hid (HJ3.out.sets7 (.int .i64 0) (.int .i64 0) (.int .i64 0) (.int .i64 0) (.int .i64 0) (.int .i64 0) (.int .i64 0))
            have KL := Lib.hid ((HD.out.sets_box HR.out (.slice sa d.S.length sc) (.slice pa d.P.length pc) (.int .i64 d.fuse) (.int .i64 d.ops) (.bool d.dead)).sets7i HJ3.out (.int .i64 0) (.int .i64 0) (.int .i64 0) (.int .i64 0) (.int .i64 0) (.int .i64 0) (.int .i64 0))
            have KB := Lib.hid (below_sets7 (below_sets HB.out (w.heap.size + 1) (by omega) (.slice sa d.S.length sc) (.slice pa d.P.length pc) (.int .i64 d.fuse) (.int .i64 d.ops) (.bool d.dead)) (w.heap.size + 2) (by omega) (.int .i64 0) (.int .i64 0) (.int .i64 0) (.int .i64 0) (.int .i64 0) (.int .i64 0) (.int .i64 0))
            go_wp2
            have k0 := KR.out.cell 0
            have k1 := KR.out.cell 1
            have k2 := KR.out.cell 2
            have k3 := KR.out.cell 3
            have k4 := KR.out.cell 4
            have m0 := KJ.out.cell 0
            have m1 := KJ.out.cell 1
            have m2 := KJ.out.cell 2
            have m3 := KJ.out.cell 3
            have m4 := KJ.out.cell 4
            have m5 := KJ.out.cell 5
            have m6 := KJ.out.cell 6
            simp only [List.getElem?_toArray, List.getElem?_cons_zero, List.getElem?_cons_succ] at k0 k1 k2 k3 k4 m0 m1 m2 m3 m4 m5 m6
            refine bodyPost_ret (v := .tuple #[.agg #[.slice sa d.S.length sc, .slice pa d.P.length pc, .int .i64 d.fuse, .int .i64 d.ops, .bool d.dead], .agg #[.int .i64 0, .int .i64 0, .int .i64 0, .int .i64 0, .int .i64 0, .int .i64 0, .int .i64 0], .string (bs []), .slice none 0 0, .int .i64 2]) (by simp [results, Try.results36, go_sem, k0, k1, k2, k3, k4, m0, m1, m2, m3, m4, m5, m6]; rfl) rfl ?_
            exact ROPost.mk ⟨d, j0, [], [], 2⟩ sa sc pa pc (.slice none 0 0) rfl KL.out (World.ownsRow_nil _ _ _ _) KB.out HRES.out
          · have tm : (x.g == 1099511627776) = false := by rw [beq_eq_false_iff_ne]; exact hm
            have hxg : x.g + 1 ≤ 1099511627776 := by omega
            have HM := Lib.hid hm; clear hm
            obtain ⟨⟨nd, fe⟩, hst⟩ : ∃ r, storeS d (nextS x) = r := ⟨_, rfl⟩
            have HST := Lib.hid hst; clear hst
            have s0 : w6.cell? ⟨w2.heap.size, 0, none⟩ = some (.int .i64 x.g) := HS.out.cell 0
            have g0 := HS.out.free 0
            go_upto_region 23 with (fail)
            clear s0 g0
            have HX := Lib.hid (HX.out.other (c := w2.heap.size) (i := 0) (by omega) (.int .i64 (x.g + 1))); have HR := Lib.hid (HR.out.other (c := w2.heap.size) (i := 0) (by omega) (.int .i64 (x.g + 1))); have HJ2 := Lib.hid (HJ2.out.other (c := w2.heap.size) (i := 0) (by omega) (.int .i64 (x.g + 1))); have HD := Lib.hid (HD.out.set_int HS.out (.int .i64 (x.g + 1))); have HV4 := Lib.hid (own_set HV4.out w2.heap.size 0 (by omega) (.int .i64 (x.g + 1))); have HB := Lib.hid (below_set HB.out w2.heap.size 0 (by omega) (.int .i64 (x.g + 1))); have HS := Lib.hid (show Bx w2.heap.size #[.int .i64 (x.g + 1), .int .i64 x.e, .int .i64 x.a, .int .i64 x.z, .int .i64 x.p] 23 _ from HS.out.set 0 (.int .i64 (x.g + 1)))
            generalize hW : w6.setCell ⟨w2.heap.size, 0, none⟩ (.int .i64 (x.g + 1)) = v3 at HX HR HJ2 HD HB HS HV4 ⊢
            clear hW
            have zj3 := HJ2.out.lt
            have x0 : v3.cell? ⟨w.heap.size, 0, none⟩ = some (.slice sa d.S.length sc) := HX.out.cell 0
            have x1 : v3.cell? ⟨w.heap.size, 1, none⟩ = some (.slice pa d.P.length pc) := HX.out.cell 1
            have x2 : v3.cell? ⟨w.heap.size, 2, none⟩ = some (.int .i64 d.fuse) := HX.out.cell 2
            have x3 : v3.cell? ⟨w.heap.size, 3, none⟩ = some (.int .i64 d.ops) := HX.out.cell 3
            have x4 : v3.cell? ⟨w.heap.size, 4, none⟩ = some (.bool d.dead) := HX.out.cell 4
            have s0 : v3.cell? ⟨w2.heap.size, 0, none⟩ = some (.int .i64 (x.g + 1)) := HS.out.cell 0
            have s1 : v3.cell? ⟨w2.heap.size, 1, none⟩ = some (.int .i64 x.e) := HS.out.cell 1
            have s2 : v3.cell? ⟨w2.heap.size, 2, none⟩ = some (.int .i64 x.a) := HS.out.cell 2
            have s3 : v3.cell? ⟨w2.heap.size, 3, none⟩ = some (.int .i64 x.z) := HS.out.cell 3
            have s4 : v3.cell? ⟨w2.heap.size, 4, none⟩ = some (.int .i64 x.p) := HS.out.cell 4
            go_wp2_with fail
            refine (RSStore_any _ _ _ _ d (nextS x) _ HD.out (by omega)).mono ?_
            rw [HST.out]
            rintro er w4 ⟨a3, c3, a4, c4, rfl, hL4, hb1⟩
            clear x0 x1 x2 x3 x4
            clear s0 s1 s2 s3 s4
            have HV4 := Lib.hid (own_below HV4.out hb1)
            have HX := Lib.hid (HX.out.call hb1)
            have HR := Lib.hid (HR.out.call hb1)
            have HJ2 := Lib.hid (HJ2.out.call hb1)
            have HS := Lib.hid (HS.out.call hb1)
            have HB := Lib.hid (btrans HB.out HB.out.size hb1); clear hb1
            have zw4 := HJ2.out.lt
            have hal := (Below.refl w4.heap.size w4).alloc (Nat.le_refl _) (.cells #[.slice a3 nd.S.length c3, .slice a4 nd.P.length c4, .int .i64 nd.fuse, .int .i64 nd.ops, .bool nd.dead] 38)
            have HN := Lib.hid (Bx.new w4 #[.slice a3 nd.S.length c3, .slice a4 nd.P.length c4, .int .i64 nd.fuse, .int .i64 nd.ops, .bool nd.dead] 38)
            have HL4 := Lib.hid (hL4.below hal); clear hL4
            have HV4 := Lib.hid (own_below HV4.out hal)
            have zs4 := HS.out.lt
            have HR := Lib.hid (HR.out.call hal)
            have HJ2 := Lib.hid (HJ2.out.call hal)
            have HS := Lib.hid (HS.out.call hal)
            have HB := Lib.hid (btrans HB.out HB.out.size hal); clear hal
            go_upto_region 24 with (fail)
            generalize hW : w4.alloc (.cells #[.slice a3 nd.S.length c3, .slice a4 nd.P.length c4, .int .i64 nd.fuse, .int .i64 nd.ops, .bool nd.dead] 38) = v4 at HR HJ2 HB HS HN HL4 HV4 ⊢
            clear hW
            have zj4 := HJ2.out.lt
            by_cases hf : fe = 0
            · subst hf
              have hres : openW d = ⟨nd, ⟨nextS x, (kk : Int), (M.length : Int)⟩, im, M, 0⟩ := by unfold openW; rw [if_pos HV.out, HL.out]; simp only; rw [if_neg (by decide), if_pos trivial, HCK.out]; simp only; rw [if_pos trivial, if_neg HM.out, HST.out, HLG.out]; simp
              have HRES := Lib.hid hres; clear hres
              have n0 : v4.cell? ⟨w4.heap.size, 0, none⟩ = some (.slice a3 nd.S.length c3) := HN.out.cell 0
              have n1 : v4.cell? ⟨w4.heap.size, 1, none⟩ = some (.slice a4 nd.P.length c4) := HN.out.cell 1
              have n2 : v4.cell? ⟨w4.heap.size, 2, none⟩ = some (.int .i64 nd.fuse) := HN.out.cell 2
              have n3 : v4.cell? ⟨w4.heap.size, 3, none⟩ = some (.int .i64 nd.ops) := HN.out.cell 3
              have n4 : v4.cell? ⟨w4.heap.size, 4, none⟩ = some (.bool nd.dead) := HN.out.cell 4
              have s0 : v4.cell? ⟨w2.heap.size, 0, none⟩ = some (.int .i64 (x.g + 1)) := HS.out.cell 0
              have s1 : v4.cell? ⟨w2.heap.size, 1, none⟩ = some (.int .i64 x.e) := HS.out.cell 1
              have s2 : v4.cell? ⟨w2.heap.size, 2, none⟩ = some (.int .i64 x.a) := HS.out.cell 2
              have s3 : v4.cell? ⟨w2.heap.size, 3, none⟩ = some (.int .i64 x.z) := HS.out.cell 3
              have s4 : v4.cell? ⟨w2.heap.size, 4, none⟩ = some (.int .i64 x.p) := HS.out.cell 4
              have hsL : v4.drew.cell? ⟨w4.heap.size, 0, none⟩ = some (.slice a3 nd.S.length c3) ∧ v4.drew.cell? ⟨w4.heap.size, 1, none⟩ = some (.slice a4 nd.P.length c4) ∧ v4.drew.cell? ⟨w4.heap.size, 2, none⟩ = some (.int .i64 nd.fuse) ∧ v4.drew.cell? ⟨w4.heap.size, 3, none⟩ = some (.int .i64 nd.ops) ∧ v4.drew.cell? ⟨w4.heap.size, 4, none⟩ = some (.bool nd.dead) ∧ v4.drew.cell? ⟨w2.heap.size, 0, none⟩ = some (.int .i64 (x.g + 1)) ∧ v4.drew.cell? ⟨w2.heap.size, 1, none⟩ = some (.int .i64 x.e) ∧ v4.drew.cell? ⟨w2.heap.size, 2, none⟩ = some (.int .i64 x.a) ∧ v4.drew.cell? ⟨w2.heap.size, 3, none⟩ = some (.int .i64 x.z) ∧ v4.drew.cell? ⟨w2.heap.size, 4, none⟩ = some (.int .i64 x.p) := ⟨n0, n1, n2, n3, n4, s0, s1, s2, s3, s4⟩
              have HSL := Lib.hid hsL; clear hsL n0 n1 n2 n3 n4 s0 s1 s2 s3 s4
              go_wp2_with fail
              refine wp_region_held_drew (S := (fun w' => w'.cell? ⟨w4.heap.size, 0, none⟩ = some (.slice a3 nd.S.length c3) ∧ w'.cell? ⟨w4.heap.size, 1, none⟩ = some (.slice a4 nd.P.length c4) ∧ w'.cell? ⟨w4.heap.size, 2, none⟩ = some (.int .i64 nd.fuse) ∧ w'.cell? ⟨w4.heap.size, 3, none⟩ = some (.int .i64 nd.ops) ∧ w'.cell? ⟨w4.heap.size, 4, none⟩ = some (.bool nd.dead) ∧ w'.cell? ⟨w2.heap.size, 0, none⟩ = some (.int .i64 (x.g + 1)) ∧ w'.cell? ⟨w2.heap.size, 1, none⟩ = some (.int .i64 x.e) ∧ w'.cell? ⟨w2.heap.size, 2, none⟩ = some (.int .i64 x.a) ∧ w'.cell? ⟨w2.heap.size, 3, none⟩ = some (.int .i64 x.z) ∧ w'.cell? ⟨w2.heap.size, 4, none⟩ = some (.int .i64 x.p))) (by kernel_rfl) ?_ (fun hHeld => ?_)
              · exact HSL.out
              refine takeH (i := 0) (v := ?vv55) 129 rfl rfl (by kernel_rfl) (by kernel_rfl) (by kernel_rfl) (fun _ _ _ h => h) (Or.inl ⟨by kernel_rfl, ?yy55⟩) (by assumption) ?_
              case yy55 => intro w hSw; (try dsimp only at hSw); go_simp; (try with_reducible rfl)
              simp only [List.setIfInBounds_toArray, List.set_cons_zero, List.set_cons_succ]
              refine takeH (i := 1) (v := ?vv56) 130 rfl rfl (by kernel_rfl) (by kernel_rfl) (by kernel_rfl) (fun _ _ _ h => h) (Or.inl ⟨by kernel_rfl, ?yy56⟩) (by assumption) ?_
              case yy56 => intro w hSw; (try dsimp only at hSw); go_simp; (try with_reducible rfl)
              simp only [List.setIfInBounds_toArray, List.set_cons_zero, List.set_cons_succ]
              refine takeH (i := 2) (v := ?vv57) 131 rfl rfl (by kernel_rfl) (by kernel_rfl) (by kernel_rfl) (fun _ _ _ h => h) (Or.inl ⟨by kernel_rfl, ?yy57⟩) (by assumption) ?_
              case yy57 => intro w hSw; (try dsimp only at hSw); go_simp; (try with_reducible rfl)
              simp only [List.setIfInBounds_toArray, List.set_cons_zero, List.set_cons_succ]
              refine takeH (i := 3) (v := ?vv58) 132 rfl rfl (by kernel_rfl) (by kernel_rfl) (by kernel_rfl) (fun _ _ _ h => h) (Or.inl ⟨by kernel_rfl, ?yy58⟩) (by assumption) ?_
              case yy58 => intro w hSw; (try dsimp only at hSw); go_simp; (try with_reducible rfl)
              simp only [List.setIfInBounds_toArray, List.set_cons_zero, List.set_cons_succ]
              refine takeH (i := 4) (v := ?vv59) 133 rfl rfl (by kernel_rfl) (by kernel_rfl) (by kernel_rfl) (fun _ _ _ h => h) (Or.inl ⟨by kernel_rfl, ?yy59⟩) (by assumption) ?_
              case yy59 => intro w hSw; (try dsimp only at hSw); go_simp; (try with_reducible rfl)
              simp only [List.setIfInBounds_toArray, List.set_cons_zero, List.set_cons_succ]
              refine takeH (i := 5) (v := ?vv60) 134 rfl rfl (by kernel_rfl) (by kernel_rfl) (by kernel_rfl) (fun _ _ _ h => h) (Or.inl ⟨by kernel_rfl, ?yy60⟩) (by assumption) ?_
              case yy60 => intro w hSw; (try dsimp only at hSw); go_simp; (try with_reducible rfl)
              simp only [List.setIfInBounds_toArray, List.set_cons_zero, List.set_cons_succ]
              refine takeH (i := 6) (v := ?vv61) 135 rfl rfl (by kernel_rfl) (by kernel_rfl) (by kernel_rfl) (fun _ _ _ h => h) (Or.inl ⟨by kernel_rfl, ?yy61⟩) (by assumption) ?_
              case yy61 => intro w hSw; (try dsimp only at hSw); go_simp; (try with_reducible rfl)
              simp only [List.setIfInBounds_toArray, List.set_cons_zero, List.set_cons_succ]
              refine takeH (i := 7) (v := ?vv62) 136 rfl rfl (by kernel_rfl) (by kernel_rfl) (by kernel_rfl) (fun _ _ _ h => h) (Or.inl ⟨by kernel_rfl, ?yy62⟩) (by assumption) ?_
              case yy62 => intro w hSw; (try dsimp only at hSw); go_simp; (try with_reducible rfl)
              simp only [List.setIfInBounds_toArray, List.set_cons_zero, List.set_cons_succ]
              refine wpAnyH_ready (rs := [8]) (by kernel_rfl) (by simp) ?_
              refine (AllReadyH.cons rfl (fun K hK => ?_) AllReadyH.nil)
              have r0 : v4.cell? ⟨(w.heap.size + 1), 0, none⟩ = some (.slice none 0 0) := HR.out.cell 0
              have r1 : v4.cell? ⟨(w.heap.size + 1), 1, none⟩ = some (.slice none 0 0) := HR.out.cell 1
              have r2 : v4.cell? ⟨(w.heap.size + 1), 2, none⟩ = some (.int .i64 0) := HR.out.cell 2
              have r3 : v4.cell? ⟨(w.heap.size + 1), 3, none⟩ = some (.int .i64 0) := HR.out.cell 3
              have r4 : v4.cell? ⟨(w.heap.size + 1), 4, none⟩ = some (.bool false) := HR.out.cell 4
              have f0 : v4.frozen? ⟨(w.heap.size + 1), 0, none⟩ = false := HR.out.free 0
              have f1 : v4.frozen? ⟨(w.heap.size + 1), 1, none⟩ = false := HR.out.free 1
              have f2 : v4.frozen? ⟨(w.heap.size + 1), 2, none⟩ = false := HR.out.free 2
              have f3 : v4.frozen? ⟨(w.heap.size + 1), 3, none⟩ = false := HR.out.free 3
              have f4 : v4.frozen? ⟨(w.heap.size + 1), 4, none⟩ = false := HR.out.free 4
              go_simp
              refine hK.out _ _ ?_ (fun hHeld => ?_)
              · exact wc_xxxxxyyyyy_5 (W := v4) (by assumption) (w.heap.size + 1) (by omega) (by omega) _ _ _ _ _
              clear hK K
              (try simp only [Act.put, List.setIfInBounds_toArray, List.set_cons_zero, List.set_cons_succ])
              clear r0 r1 r2 r3 r4
              clear f0 f1 f2 f3 f4
              have HRa := Lib.hid (HR.out.sets (.slice a3 nd.S.length c3) (.slice a4 nd.P.length c4) (.int .i64 nd.fuse) (.int .i64 nd.ops) (.bool nd.dead)); have HJa := Lib.hid (HJ2.out.sets_ne (c := w.heap.size + 1) (by omega) (.slice a3 nd.S.length c3) (.slice a4 nd.P.length c4) (.int .i64 nd.fuse) (.int .i64 nd.ops) (.bool nd.dead)); have HBa := Lib.hid (below_sets HB.out (w.heap.size + 1) (by omega) (.slice a3 nd.S.length c3) (.slice a4 nd.P.length c4) (.int .i64 nd.fuse) (.int .i64 nd.ops) (.bool nd.dead)); have HLa := Lib.hid (HL4.out.sets_box HR.out (.slice a3 nd.S.length c3) (.slice a4 nd.P.length c4) (.int .i64 nd.fuse) (.int .i64 nd.ops) (.bool nd.dead))
              have HVa := Lib.hid (own_sets5 HV4.out (w.heap.size + 1) (by omega) (.slice a3 nd.S.length c3) (.slice a4 nd.P.length c4) (.int .i64 nd.fuse) (.int .i64 nd.ops) (.bool nd.dead))
              generalize hWE : (((((v4.setCell ⟨(w.heap.size + 1), 0, none⟩ (.slice a3 nd.S.length c3)).setCell ⟨(w.heap.size + 1), 1, none⟩ (.slice a4 nd.P.length c4)).setCell ⟨(w.heap.size + 1), 2, none⟩ (.int .i64 nd.fuse)).setCell ⟨(w.heap.size + 1), 3, none⟩ (.int .i64 nd.ops)).setCell ⟨(w.heap.size + 1), 4, none⟩ (.bool nd.dead)) = WE at HRa HJa HBa HLa HVa hHeld ⊢
              clear hWE
              refine wpAnyH_ready (rs := [9]) (by kernel_rfl) (by simp) ?_
              refine (AllReadyH.cons rfl (fun K hK => ?_) AllReadyH.nil)
              have q0 : WE.cell? ⟨(w.heap.size + 2), 0, none⟩ = some (.int .i64 0) := HJa.out.cell 0
              have q1 : WE.cell? ⟨(w.heap.size + 2), 1, none⟩ = some (.int .i64 0) := HJa.out.cell 1
              have q2 : WE.cell? ⟨(w.heap.size + 2), 2, none⟩ = some (.int .i64 0) := HJa.out.cell 2
              have q3 : WE.cell? ⟨(w.heap.size + 2), 3, none⟩ = some (.int .i64 0) := HJa.out.cell 3
              have q4 : WE.cell? ⟨(w.heap.size + 2), 4, none⟩ = some (.int .i64 0) := HJa.out.cell 4
              have q5 : WE.cell? ⟨(w.heap.size + 2), 5, none⟩ = some (.int .i64 0) := HJa.out.cell 5
              have q6 : WE.cell? ⟨(w.heap.size + 2), 6, none⟩ = some (.int .i64 0) := HJa.out.cell 6
              have p0 : WE.frozen? ⟨(w.heap.size + 2), 0, none⟩ = false := HJa.out.free 0
              have p1 : WE.frozen? ⟨(w.heap.size + 2), 1, none⟩ = false := HJa.out.free 1
              have p2 : WE.frozen? ⟨(w.heap.size + 2), 2, none⟩ = false := HJa.out.free 2
              have p3 : WE.frozen? ⟨(w.heap.size + 2), 3, none⟩ = false := HJa.out.free 3
              have p4 : WE.frozen? ⟨(w.heap.size + 2), 4, none⟩ = false := HJa.out.free 4
              have p5 : WE.frozen? ⟨(w.heap.size + 2), 5, none⟩ = false := HJa.out.free 5
              have p6 : WE.frozen? ⟨(w.heap.size + 2), 6, none⟩ = false := HJa.out.free 6
              go_simp
              refine hK.out _ _ ?_ (fun hHeld => ?_)
              · exact wc_xxxxxyyyyy_7 (W := WE) (by assumption) (w.heap.size + 2) (by omega) (by omega) _ _ _ _ _ _ _
              clear hK K
              (try simp only [Act.put, List.setIfInBounds_toArray, List.set_cons_zero, List.set_cons_succ])
              refine takeH (i := 10) (v := ?vv63) 4 rfl rfl (by kernel_rfl) (by kernel_rfl) (by kernel_rfl) (fun _ _ _ h => h) (Or.inl ⟨by kernel_rfl, ?yy63⟩) (by assumption) ?_
              case yy63 => intro w hSw; (try dsimp only at hSw); go_simp; (try with_reducible rfl)
              simp only [List.setIfInBounds_toArray, List.set_cons_zero, List.set_cons_succ]
              refine takeH (i := 11) (v := ?vv64) 5 rfl rfl (by kernel_rfl) (by kernel_rfl) (by kernel_rfl) (fun _ _ _ h => h) (Or.inl ⟨by kernel_rfl, ?yy64⟩) (by assumption) ?_
              case yy64 => intro w hSw; (try dsimp only at hSw); go_simp; (try with_reducible rfl)
              simp only [List.setIfInBounds_toArray, List.set_cons_zero, List.set_cons_succ]
              refine takeH (i := 12) (v := ?vv65) 6 rfl rfl (by kernel_rfl) (by kernel_rfl) (by kernel_rfl) (fun _ _ _ h => h) (Or.inl ⟨by kernel_rfl, ?yy65⟩) (by assumption) ?_
              case yy65 => intro w hSw; (try dsimp only at hSw); go_simp; (try with_reducible rfl)
              simp only [List.setIfInBounds_toArray, List.set_cons_zero, List.set_cons_succ]
              refine wpAnyH_done (by kernel_rfl) ?_ _
              have KR := Lib.hid (HRa.out.sets7_ne (c := w.heap.size + 2) (by omega) (.int .i64 (x.g + 1)) (.int .i64 x.e) (.int .i64 x.a) (.int .i64 x.z) (.int .i64 x.p) (.int .i64 (kk : Int)) (.int .i64 (M.length : Int))); have KJ := Lib.hid (HJa.out.sets7 (.int .i64 (x.g + 1)) (.int .i64 x.e) (.int .i64 x.a) (.int .i64 x.z) (.int .i64 x.p) (.int .i64 (kk : Int)) (.int .i64 (M.length : Int))); have KL := Lib.hid (HLa.out.sets7i HJa.out (.int .i64 (x.g + 1)) (.int .i64 x.e) (.int .i64 x.a) (.int .i64 x.z) (.int .i64 x.p) (.int .i64 (kk : Int)) (.int .i64 (M.length : Int))).drewD; have KB := Lib.hid (below_sets7 HBa.out (w.heap.size + 2) (by omega) (.int .i64 (x.g + 1)) (.int .i64 x.e) (.int .i64 x.a) (.int .i64 x.z) (.int .i64 x.p) (.int .i64 (kk : Int)) (.int .i64 (M.length : Int))).drew
              have KV := Lib.hid (own_drewD (own_sets7 HVa.out (w.heap.size + 2) (by omega) (.int .i64 (x.g + 1)) (.int .i64 x.e) (.int .i64 x.a) (.int .i64 x.z) (.int .i64 x.p) (.int .i64 (kk : Int)) (.int .i64 (M.length : Int))))
              go_wp2
              have k0 := KR.out.cell 0
              have k1 := KR.out.cell 1
              have k2 := KR.out.cell 2
              have k3 := KR.out.cell 3
              have k4 := KR.out.cell 4
              have m0 := KJ.out.cell 0
              have m1 := KJ.out.cell 1
              have m2 := KJ.out.cell 2
              have m3 := KJ.out.cell 3
              have m4 := KJ.out.cell 4
              have m5 := KJ.out.cell 5
              have m6 := KJ.out.cell 6
              simp only [List.getElem?_toArray, List.getElem?_cons_zero, List.getElem?_cons_succ] at k0 k1 k2 k3 k4 m0 m1 m2 m3 m4 m5 m6
              refine bodyPost_ret (v := .tuple #[.agg #[.slice a3 nd.S.length c3, .slice a4 nd.P.length c4, .int .i64 nd.fuse, .int .i64 nd.ops, .bool nd.dead], .agg #[.int .i64 (x.g + 1), .int .i64 x.e, .int .i64 x.a, .int .i64 x.z, .int .i64 x.p, .int .i64 (kk : Int), .int .i64 (M.length : Int)], .string (bs im), .slice ra M.length rc, .int .i64 0]) (by simp [results, Try.results36, go_sem, k0, k1, k2, k3, k4, m0, m1, m2, m3, m4, m5, m6]) rfl ?_
              exact ROPost.mk ⟨nd, ⟨nextS x, (kk : Int), (M.length : Int)⟩, im, M, 0⟩ a3 c3 a4 c4 (.slice ra M.length rc) rfl KL.out (own_mono KV.out (by omega)) KB.out HRES.out
            · have tf : (fe != 0) = true := by rw [bne_iff_ne]; exact hf
              have HFE := Lib.hid hf; clear hf
              have hres : openW d = ⟨nd, j0, [], [], fe⟩ := by unfold openW; rw [if_pos HV.out, HL.out]; simp only; rw [if_neg (by decide), if_pos trivial, HCK.out]; simp only; rw [if_pos trivial, if_neg HM.out, HST.out]; simp only; rw [if_neg HFE.out]
              have HRES := Lib.hid hres; clear hres
              have n0 : v4.cell? ⟨w4.heap.size, 0, none⟩ = some (.slice a3 nd.S.length c3) := HN.out.cell 0
              have n1 : v4.cell? ⟨w4.heap.size, 1, none⟩ = some (.slice a4 nd.P.length c4) := HN.out.cell 1
              have n2 : v4.cell? ⟨w4.heap.size, 2, none⟩ = some (.int .i64 nd.fuse) := HN.out.cell 2
              have n3 : v4.cell? ⟨w4.heap.size, 3, none⟩ = some (.int .i64 nd.ops) := HN.out.cell 3
              have n4 : v4.cell? ⟨w4.heap.size, 4, none⟩ = some (.bool nd.dead) := HN.out.cell 4
              have r0 : v4.cell? ⟨(w.heap.size + 1), 0, none⟩ = some (.slice none 0 0) := HR.out.cell 0
              have r1 : v4.cell? ⟨(w.heap.size + 1), 1, none⟩ = some (.slice none 0 0) := HR.out.cell 1
              have r2 : v4.cell? ⟨(w.heap.size + 1), 2, none⟩ = some (.int .i64 0) := HR.out.cell 2
              have r3 : v4.cell? ⟨(w.heap.size + 1), 3, none⟩ = some (.int .i64 0) := HR.out.cell 3
              have r4 : v4.cell? ⟨(w.heap.size + 1), 4, none⟩ = some (.bool false) := HR.out.cell 4
              have q0 : v4.cell? ⟨(w.heap.size + 2), 0, none⟩ = some (.int .i64 0) := HJ2.out.cell 0
              have q1 : v4.cell? ⟨(w.heap.size + 2), 1, none⟩ = some (.int .i64 0) := HJ2.out.cell 1
              have q2 : v4.cell? ⟨(w.heap.size + 2), 2, none⟩ = some (.int .i64 0) := HJ2.out.cell 2
              have q3 : v4.cell? ⟨(w.heap.size + 2), 3, none⟩ = some (.int .i64 0) := HJ2.out.cell 3
              have q4 : v4.cell? ⟨(w.heap.size + 2), 4, none⟩ = some (.int .i64 0) := HJ2.out.cell 4
              have q5 : v4.cell? ⟨(w.heap.size + 2), 5, none⟩ = some (.int .i64 0) := HJ2.out.cell 5
              have q6 : v4.cell? ⟨(w.heap.size + 2), 6, none⟩ = some (.int .i64 0) := HJ2.out.cell 6
              have f0 := HR.out.free 0
              have f1 := HR.out.free 1
              have f2 := HR.out.free 2
              have f3 := HR.out.free 3
              have f4 := HR.out.free 4
              have p0 := HJ2.out.free 0
              have p1 := HJ2.out.free 1
              have p2 := HJ2.out.free 2
              have p3 := HJ2.out.free 3
              have p4 := HJ2.out.free 4
              have p5 := HJ2.out.free 5
              have p6 := HJ2.out.free 6
              have HJ3 := Lib.hid (HJ2.out.sets_ne (c := w.heap.size + 1) (by omega) (.slice a3 nd.S.length c3) (.slice a4 nd.P.length c4) (.int .i64 nd.fuse) (.int .i64 nd.ops) (.bool nd.dead))
              have KR := Lib.hid ((HR.out.sets (.slice a3 nd.S.length c3) (.slice a4 nd.P.length c4) (.int .i64 nd.fuse) (.int .i64 nd.ops) (.bool nd.dead)).sets7_ne (c := w.heap.size + 2) (by omega) (.int .i64 0) (.int .i64 0) (.int .i64 0) (.int .i64 0) (.int .i64 0) (.int .i64 0) (.int .i64 0))
              have KJ := Lib.hid (HJ3.out.sets7 (.int .i64 0) (.int .i64 0) (.int .i64 0) (.int .i64 0) (.int .i64 0) (.int .i64 0) (.int .i64 0))
              have KL := Lib.hid ((HL4.out.sets_box HR.out (.slice a3 nd.S.length c3) (.slice a4 nd.P.length c4) (.int .i64 nd.fuse) (.int .i64 nd.ops) (.bool nd.dead)).sets7i HJ3.out (.int .i64 0) (.int .i64 0) (.int .i64 0) (.int .i64 0) (.int .i64 0) (.int .i64 0) (.int .i64 0))
              have KB := Lib.hid (below_sets7 (below_sets HB.out (w.heap.size + 1) (by omega) (.slice a3 nd.S.length c3) (.slice a4 nd.P.length c4) (.int .i64 nd.fuse) (.int .i64 nd.ops) (.bool nd.dead)) (w.heap.size + 2) (by omega) (.int .i64 0) (.int .i64 0) (.int .i64 0) (.int .i64 0) (.int .i64 0) (.int .i64 0) (.int .i64 0))
              go_wp2
              have k0 := KR.out.cell 0
              have k1 := KR.out.cell 1
              have k2 := KR.out.cell 2
              have k3 := KR.out.cell 3
              have k4 := KR.out.cell 4
              have m0 := KJ.out.cell 0
              have m1 := KJ.out.cell 1
              have m2 := KJ.out.cell 2
              have m3 := KJ.out.cell 3
              have m4 := KJ.out.cell 4
              have m5 := KJ.out.cell 5
              have m6 := KJ.out.cell 6
              simp only [List.getElem?_toArray, List.getElem?_cons_zero, List.getElem?_cons_succ] at k0 k1 k2 k3 k4 m0 m1 m2 m3 m4 m5 m6
              refine bodyPost_ret (v := .tuple #[.agg #[.slice a3 nd.S.length c3, .slice a4 nd.P.length c4, .int .i64 nd.fuse, .int .i64 nd.ops, .bool nd.dead], .agg #[.int .i64 0, .int .i64 0, .int .i64 0, .int .i64 0, .int .i64 0, .int .i64 0, .int .i64 0], .string (bs []), .slice none 0 0, .int .i64 fe]) (by simp [results, Try.results36, go_sem, k0, k1, k2, k3, k4, m0, m1, m2, m3, m4, m5, m6]; rfl) rfl ?_
              exact ROPost.mk ⟨nd, j0, [], [], fe⟩ a3 c3 a4 c4 (.slice none 0 0) rfl KL.out (World.ownsRow_nil _ _ _ _) KB.out HRES.out
end Go.Proofs.Ytkpfkknldeafkaa

namespace Go.Proofs.Ytkpfkknldeafkaa
open Go.RowKit

theorem store_len (d : Dk) (x : Sp) : (storeS d x).1.S.length = d.S.length ∧ (storeS d x).1.P.length ≤ d.P.length + 1 := by
  have h1 := write_len d (x.g % 2) (encS x).1
  have h2 := sync_len (writeS d (x.g % 2) (encS x).1).1
  unfold storeS
  split
  · exact ⟨rfl, Nat.le_succ _⟩
  · split
    · exact h1
    · omega
theorem open_len (d : Dk) : (openW d).d.S.length = d.S.length ∧ (openW d).d.P.length ≤ d.P.length + 1 := by
  have h1 := store_len d sp1
  have h2 := store_len d (nextS (loadS d).1)
  unfold openW
  split
  · split
    · split <;> exact h1
    · split
      · split
        · split
          · exact ⟨rfl, Nat.le_succ _⟩
          · split <;> exact h2
        · exact ⟨rfl, Nat.le_succ _⟩
      · exact ⟨rfl, Nat.le_succ _⟩
  · exact ⟨rfl, Nat.le_succ _⟩
theorem open_recs (d : Dk) : (openW d).recs.length ≤ 1016 := by
  unfold openW
  by_cases hv : validB d = true
  · rw [if_pos hv]
    have h := log_le (d := d) (x := (loadS d).1) (M := (logS d (loadS d).1).1) (k := (logS d (loadS d).1).2) rfl hv
    split
    · split <;> simp
    · split
      · split
        · split
          · simp
          · split
            · show (logS d (loadS d).1).1.length ≤ 1016; omega
            · simp
        · simp
      · simp
  · rw [if_neg hv]; simp
theorem RWOpen_use (sa pa : Option Addr) (sc pc : Nat) (d nd : Dk) (j : Jn) (im : List UInt8) (M : List (List UInt8)) (e0 : Int) (w : World) (hD : Lists w sa sc pa pc d) (hp : d.P.length ≤ 8000000000000) (hq : openW d = ⟨nd, j, im, M, e0⟩) :
    Calls Try.prog 36 #[.agg #[.slice sa d.S.length sc, .slice pa d.P.length pc, .int .i64 d.fuse, .int .i64 d.ops, .bool d.dead]] w fun E w' => ∃ a1 c1 a2 c2 a3 c3, E = .returned (.tuple #[.agg #[.slice a1 nd.S.length c1, .slice a2 nd.P.length c2, .int .i64 nd.fuse, .int .i64 nd.ops, .bool nd.dead], .agg (jnV j), .string (bs im), .slice a3 M.length c3, .int .i64 e0]) ∧ Lists w' a1 c1 a2 c2 nd ∧ StrS w' (.slice a3 M.length c3) M ∧ Below w.heap.size w w' := by
  refine (RWOpen_any sa pa sc pc d w hD hp).mono ?_
  rw [hq]
  rintro E w' ⟨a1, c1, a2, c2, v, rfl, hO, hV, hB⟩
  obtain ⟨a3, c3, rfl⟩ := own_slice hV
  exact ⟨a1, c1, a2, c2, a3, c3, rfl, hO, StrS.of_own hV, hB⟩

set_option maxRecDepth 100000 in
set_option maxHeartbeats 64000000 in
theorem opensWWalk (sa pa : Option Addr) (sc pc : Nat) (d : Dk) (w : World) (hD : Lists w sa sc pa pc d) (hp : d.P.length ≤ 8000000000000) :
    Calls Try.prog 10 #[.agg #[.slice sa d.S.length sc, .slice pa d.P.length pc, .int .i64 d.fuse, .int .i64 d.ops, .bool d.dead]] w fun e w' => e = .returned (.bool true) ∧ Below w.heap.size w w' := by
  obtain ⟨_, _, _, hszS⟩ := id hD
  obtain ⟨hl1, hl2⟩ := open_len d
  have hl3 := open_recs d
  obtain ⟨⟨nd, nj, im, M, e⟩, ha⟩ : ∃ r, openW d = r := ⟨_, rfl⟩
  rw [ha] at hl1 hl2 hl3
  simp only at hl1 hl2 hl3
  have ps : nd.S.length ≤ 9000000000000 := by omega
  have pp : nd.P.length ≤ 9000000000000 := by omega
  have HA0 := Lib.hid ha; clear ha hl1 hl2
  obtain ⟨⟨q1, q2, q3⟩, hq⟩ : ∃ r, areasS d = r := ⟨_, rfl⟩
  have HQ := Lib.hid hq; clear hq
  have hb0 := ((Below.refl w.heap.size w).alloc (Nat.le_refl _) (.cells #[.slice sa d.S.length sc, .slice pa d.P.length pc, .int .i64 d.fuse, .int .i64 d.ops, .bool d.dead] 38))
  have h_HX := (Bx.new w #[.slice sa d.S.length sc, .slice pa d.P.length pc, .int .i64 d.fuse, .int .i64 d.ops, .bool d.dead] 38)
  have HB := Lib.hid hb0; have HX := Lib.hid h_HX
  clear hb0 h_HX
  have HD := Lib.hid (hD.below HB.out)
  go_enter Try.func10, Try.ntmps10
  go_upto_region 1 with (fail)
  generalize hW0 : w.alloc (.cells #[.slice sa d.S.length sc, .slice pa d.P.length pc, .int .i64 d.fuse, .int .i64 d.ops, .bool d.dead] 38) = v0 at HB HD HX ⊢
  clear hW0
  have x0 : v0.cell? ⟨w.heap.size, 0, none⟩ = some (.slice sa d.S.length sc) := HX.out.cell 0
  have x1 : v0.cell? ⟨w.heap.size, 1, none⟩ = some (.slice pa d.P.length pc) := HX.out.cell 1
  have x2 : v0.cell? ⟨w.heap.size, 2, none⟩ = some (.int .i64 d.fuse) := HX.out.cell 2
  have x3 : v0.cell? ⟨w.heap.size, 3, none⟩ = some (.int .i64 d.ops) := HX.out.cell 3
  have x4 : v0.cell? ⟨w.heap.size, 4, none⟩ = some (.bool d.dead) := HX.out.cell 4
  go_wp2_with fail
  refine (openW_use _ _ _ _ d nd nj im M e _ HD.out (by omega) HA0.out pp ps).mono ?_
  simp only [jnV]
  rintro er w1 ⟨a1, c1, a2, c2, la, lc, rfl, hL, hS, hb1⟩
  clear x0 x1 x2 x3 x4
  have hal := ((Below.refl w1.heap.size w1).alloc (Nat.le_refl _) (.cells #[.slice a1 nd.S.length c1, .slice a2 nd.P.length c2, .int .i64 nd.fuse, .int .i64 nd.ops, .bool nd.dead] 38)).alloc (by simp) (.cells #[.int .i64 nj.x.g, .int .i64 nj.x.e, .int .i64 nj.x.a, .int .i64 nj.x.z, .int .i64 nj.x.p, .int .i64 nj.n, .int .i64 nj.r] 57)
  have HA := Lib.hid ((Bx.new w1 #[.slice a1 nd.S.length c1, .slice a2 nd.P.length c2, .int .i64 nd.fuse, .int .i64 nd.ops, .bool nd.dead] 38).alloc (.cells #[.int .i64 nj.x.g, .int .i64 nj.x.e, .int .i64 nj.x.a, .int .i64 nj.x.z, .int .i64 nj.x.p, .int .i64 nj.n, .int .i64 nj.r] 57)); have HJA := Lib.hid (Bx.new1 w1 (.cells #[.slice a1 nd.S.length c1, .slice a2 nd.P.length c2, .int .i64 nd.fuse, .int .i64 nd.ops, .bool nd.dead] 38) #[.int .i64 nj.x.g, .int .i64 nj.x.e, .int .i64 nj.x.a, .int .i64 nj.x.z, .int .i64 nj.x.p, .int .i64 nj.n, .int .i64 nj.r] 57); have HLA := Lib.hid (hL.below hal); have HSA := Lib.hid (hS.below hal)
  have HX := Lib.hid ((HX.out.call hb1).call hal)
  have HD := Lib.hid ((HD.out.below hb1).below hal)
  have HB := Lib.hid (btrans (btrans HB.out HB.out.size hb1) (btrans HB.out HB.out.size hb1).size hal); clear hb1 hL hS hal
  go_upto_region 2 with (fail)
  generalize hW : (w1.alloc (.cells #[.slice a1 nd.S.length c1, .slice a2 nd.P.length c2, .int .i64 nd.fuse, .int .i64 nd.ops, .bool nd.dead] 38)).alloc (.cells #[.int .i64 nj.x.g, .int .i64 nj.x.e, .int .i64 nj.x.a, .int .i64 nj.x.z, .int .i64 nj.x.p, .int .i64 nj.n, .int .i64 nj.r] 57) = v1 at HX HD HB HA HJA HLA HSA ⊢
  clear hW
  have x0 : v1.cell? ⟨w.heap.size, 0, none⟩ = some (.slice sa d.S.length sc) := HX.out.cell 0
  have x1 : v1.cell? ⟨w.heap.size, 1, none⟩ = some (.slice pa d.P.length pc) := HX.out.cell 1
  have x2 : v1.cell? ⟨w.heap.size, 2, none⟩ = some (.int .i64 d.fuse) := HX.out.cell 2
  have x3 : v1.cell? ⟨w.heap.size, 3, none⟩ = some (.int .i64 d.ops) := HX.out.cell 3
  have x4 : v1.cell? ⟨w.heap.size, 4, none⟩ = some (.bool d.dead) := HX.out.cell 4
  go_wp2_with fail
  refine (RWOpen_use _ _ _ _ d nd nj im M e _ HD.out (by omega) HA0.out).mono ?_
  simp only [jnV]
  rintro er w2 ⟨a3, c3, a4, c4, ma, mc, rfl, hL, hS, hb1⟩
  clear x0 x1 x2 x3 x4
  have hal := ((Below.refl w2.heap.size w2).alloc (Nat.le_refl _) (.cells #[.slice a3 nd.S.length c3, .slice a4 nd.P.length c4, .int .i64 nd.fuse, .int .i64 nd.ops, .bool nd.dead] 38)).alloc (by simp) (.cells #[.int .i64 nj.x.g, .int .i64 nj.x.e, .int .i64 nj.x.a, .int .i64 nj.x.z, .int .i64 nj.x.p, .int .i64 nj.n, .int .i64 nj.r] 57)
  have HE := Lib.hid ((Bx.new w2 #[.slice a3 nd.S.length c3, .slice a4 nd.P.length c4, .int .i64 nd.fuse, .int .i64 nd.ops, .bool nd.dead] 38).alloc (.cells #[.int .i64 nj.x.g, .int .i64 nj.x.e, .int .i64 nj.x.a, .int .i64 nj.x.z, .int .i64 nj.x.p, .int .i64 nj.n, .int .i64 nj.r] 57)); have HJE := Lib.hid (Bx.new1 w2 (.cells #[.slice a3 nd.S.length c3, .slice a4 nd.P.length c4, .int .i64 nd.fuse, .int .i64 nd.ops, .bool nd.dead] 38) #[.int .i64 nj.x.g, .int .i64 nj.x.e, .int .i64 nj.x.a, .int .i64 nj.x.z, .int .i64 nj.x.p, .int .i64 nj.n, .int .i64 nj.r] 57); have HLE := Lib.hid (hL.below hal); have HSE := Lib.hid (hS.below hal)
  have HX := Lib.hid ((HX.out.call hb1).call hal)
  have HA := Lib.hid ((HA.out.call hb1).call hal)
  have HJA := Lib.hid ((HJA.out.call hb1).call hal)
  have HD := Lib.hid ((HD.out.below hb1).below hal)
  have HLA := Lib.hid ((HLA.out.below hb1).below hal)
  have HSA := Lib.hid ((HSA.out.below hb1).below hal)
  have HB := Lib.hid (btrans (btrans HB.out HB.out.size hb1) (btrans HB.out HB.out.size hb1).size hal); clear hb1 hL hS hal
  go_upto_region 3 with (fail)
  generalize hW : (w2.alloc (.cells #[.slice a3 nd.S.length c3, .slice a4 nd.P.length c4, .int .i64 nd.fuse, .int .i64 nd.ops, .bool nd.dead] 38)).alloc (.cells #[.int .i64 nj.x.g, .int .i64 nj.x.e, .int .i64 nj.x.a, .int .i64 nj.x.z, .int .i64 nj.x.p, .int .i64 nj.n, .int .i64 nj.r] 57) = v2 at HX HD HB HE HJE HLE HSE HA HJA HLA HSA ⊢
  clear hW
  have x0 : v2.cell? ⟨w.heap.size, 0, none⟩ = some (.slice sa d.S.length sc) := HX.out.cell 0
  have x1 : v2.cell? ⟨w.heap.size, 1, none⟩ = some (.slice pa d.P.length pc) := HX.out.cell 1
  have x2 : v2.cell? ⟨w.heap.size, 2, none⟩ = some (.int .i64 d.fuse) := HX.out.cell 2
  have x3 : v2.cell? ⟨w.heap.size, 3, none⟩ = some (.int .i64 d.ops) := HX.out.cell 3
  have x4 : v2.cell? ⟨w.heap.size, 4, none⟩ = some (.bool d.dead) := HX.out.cell 4
  go_wp2_with fail
  refine (Areas_any _ _ _ _ d _ HD.out).mono ?_
  rw [HQ.out]
  rintro er w3 ⟨rfl, hb1⟩
  clear x0 x1 x2 x3 x4
  have HX := Lib.hid (HX.out.call hb1)
  have HA := Lib.hid (HA.out.call hb1)
  have HJA := Lib.hid (HJA.out.call hb1)
  have HE := Lib.hid (HE.out.call hb1)
  have HJE := Lib.hid (HJE.out.call hb1)
  have HD := Lib.hid (HD.out.below hb1)
  have HLA := Lib.hid (HLA.out.below hb1)
  have HSA := Lib.hid (HSA.out.below hb1)
  have HLE := Lib.hid (HLE.out.below hb1)
  have HSE := Lib.hid (HSE.out.below hb1)
  have HB := Lib.hid (btrans HB.out HB.out.size hb1); clear hb1
  have x0 : w3.cell? ⟨w.heap.size, 0, none⟩ = some (.slice sa d.S.length sc) := HX.out.cell 0
  have x1 : w3.cell? ⟨w.heap.size, 1, none⟩ = some (.slice pa d.P.length pc) := HX.out.cell 1
  have x2 : w3.cell? ⟨w.heap.size, 2, none⟩ = some (.int .i64 d.fuse) := HX.out.cell 2
  have x3 : w3.cell? ⟨w.heap.size, 3, none⟩ = some (.int .i64 d.ops) := HX.out.cell 3
  have x4 : w3.cell? ⟨w.heap.size, 4, none⟩ = some (.bool d.dead) := HX.out.cell 4
  go_wp2_with fail
  refine (RAreas_any _ _ _ _ d _ HD.out).mono ?_
  rw [HQ.out]
  rintro er w4 ⟨rfl, hb1⟩
  clear x0 x1 x2 x3 x4
  have HX := Lib.hid (HX.out.call hb1)
  have HA := Lib.hid (HA.out.call hb1)
  have HJA := Lib.hid (HJA.out.call hb1)
  have HE := Lib.hid (HE.out.call hb1)
  have HJE := Lib.hid (HJE.out.call hb1)
  have HD := Lib.hid (HD.out.below hb1)
  have HLA := Lib.hid (HLA.out.below hb1)
  have HSA := Lib.hid (HSA.out.below hb1)
  have HLE := Lib.hid (HLE.out.below hb1)
  have HSE := Lib.hid (HSE.out.below hb1)
  have HB := Lib.hid (btrans HB.out HB.out.size hb1); clear hb1
  have x0 : w4.cell? ⟨w1.heap.size, 0, none⟩ = some (.slice a1 nd.S.length c1) := HA.out.cell 0
  have x1 : w4.cell? ⟨w1.heap.size, 1, none⟩ = some (.slice a2 nd.P.length c2) := HA.out.cell 1
  have x2 : w4.cell? ⟨w1.heap.size, 2, none⟩ = some (.int .i64 nd.fuse) := HA.out.cell 2
  have x3 : w4.cell? ⟨w1.heap.size, 3, none⟩ = some (.int .i64 nd.ops) := HA.out.cell 3
  have x4 : w4.cell? ⟨w1.heap.size, 4, none⟩ = some (.bool nd.dead) := HA.out.cell 4
  have y0 : w4.cell? ⟨w2.heap.size, 0, none⟩ = some (.slice a3 nd.S.length c3) := HE.out.cell 0
  have y1 : w4.cell? ⟨w2.heap.size, 1, none⟩ = some (.slice a4 nd.P.length c4) := HE.out.cell 1
  have y2 : w4.cell? ⟨w2.heap.size, 2, none⟩ = some (.int .i64 nd.fuse) := HE.out.cell 2
  have y3 : w4.cell? ⟨w2.heap.size, 3, none⟩ = some (.int .i64 nd.ops) := HE.out.cell 3
  have y4 : w4.cell? ⟨w2.heap.size, 4, none⟩ = some (.bool nd.dead) := HE.out.cell 4
  go_wp2_with fail
  refine (RSame_any _ _ _ _ _ _ _ _ nd _ HLA.out HLE.out).mono ?_
  rintro er w5 ⟨rfl, hb1⟩
  clear x0 x1 x2 x3 x4
  clear y0 y1 y2 y3 y4
  have HX := Lib.hid (HX.out.call hb1)
  have HA := Lib.hid (HA.out.call hb1)
  have HJA := Lib.hid (HJA.out.call hb1)
  have HE := Lib.hid (HE.out.call hb1)
  have HJE := Lib.hid (HJE.out.call hb1)
  have HD := Lib.hid (HD.out.below hb1)
  have HLA := Lib.hid (HLA.out.below hb1)
  have HSA := Lib.hid (HSA.out.below hb1)
  have HLE := Lib.hid (HLE.out.below hb1)
  have HSE := Lib.hid (HSE.out.below hb1)
  have HB := Lib.hid (btrans HB.out HB.out.size hb1); clear hb1
  have x0 : w5.cell? ⟨(w1.heap.size + 1), 0, none⟩ = some (.int .i64 nj.x.g) := HJA.out.cell 0
  have x1 : w5.cell? ⟨(w1.heap.size + 1), 1, none⟩ = some (.int .i64 nj.x.e) := HJA.out.cell 1
  have x2 : w5.cell? ⟨(w1.heap.size + 1), 2, none⟩ = some (.int .i64 nj.x.a) := HJA.out.cell 2
  have x3 : w5.cell? ⟨(w1.heap.size + 1), 3, none⟩ = some (.int .i64 nj.x.z) := HJA.out.cell 3
  have x4 : w5.cell? ⟨(w1.heap.size + 1), 4, none⟩ = some (.int .i64 nj.x.p) := HJA.out.cell 4
  have x5 : w5.cell? ⟨(w1.heap.size + 1), 5, none⟩ = some (.int .i64 nj.n) := HJA.out.cell 5
  have x6 : w5.cell? ⟨(w1.heap.size + 1), 6, none⟩ = some (.int .i64 nj.r) := HJA.out.cell 6
  have y0 : w5.cell? ⟨(w2.heap.size + 1), 0, none⟩ = some (.int .i64 nj.x.g) := HJE.out.cell 0
  have y1 : w5.cell? ⟨(w2.heap.size + 1), 1, none⟩ = some (.int .i64 nj.x.e) := HJE.out.cell 1
  have y2 : w5.cell? ⟨(w2.heap.size + 1), 2, none⟩ = some (.int .i64 nj.x.a) := HJE.out.cell 2
  have y3 : w5.cell? ⟨(w2.heap.size + 1), 3, none⟩ = some (.int .i64 nj.x.z) := HJE.out.cell 3
  have y4 : w5.cell? ⟨(w2.heap.size + 1), 4, none⟩ = some (.int .i64 nj.x.p) := HJE.out.cell 4
  have y5 : w5.cell? ⟨(w2.heap.size + 1), 5, none⟩ = some (.int .i64 nj.n) := HJE.out.cell 5
  have y6 : w5.cell? ⟨(w2.heap.size + 1), 6, none⟩ = some (.int .i64 nj.r) := HJE.out.cell 6
  go_wp2_with fail
  refine (same_any _ _ M M _ HSA.out HSE.out (by omega) (by omega)).mono ?_
  rw [show decide (M = M) = true by simp]
  rintro er w6 ⟨rfl, hb1⟩
  clear x0 x1 x2 x3 x4 x5 x6
  clear y0 y1 y2 y3 y4 y5 y6
  have HB := Lib.hid (btrans HB.out HB.out.size hb1); clear hb1
  go_wp2_with fail
  refine (wexamples_any _).mono ?_
  rintro er w7 ⟨rfl, hb1⟩
  have HB := Lib.hid (btrans HB.out HB.out.size hb1); clear hb1
  go_wp2_with fail
  go_ret
  exact ⟨rfl, HB.out⟩
theorem opensWLaw (sa : Option Addr) (sc : Nat) (pa : Option Addr) (pc : Nat) (d : Dk) {w0 : World} (g1 : StrS w0 (.slice sa d.S.length sc) d.S) (g2 : WrS w0 (.slice pa d.P.length pc) d.P) (g3 : d.P.length ≤ 5864062014805) (g4 : d.S.length ≤ 9000000000000) (w : World) (hw : w0 = w := by rfl) :
    Calls Try.prog 10 #[.agg #[.slice sa d.S.length sc, .slice pa d.P.length pc, .int .i64 d.fuse, .int .i64 d.ops, .bool d.dead]] w fun e w' => e = .returned (.bool true) ∧ Below w.heap.size w w' := by
  subst hw; exact opensWWalk sa pa sc pc d w0 ⟨g1, g2, by omega, g4⟩ (by omega)
end Go.Proofs.Ytkpfkknldeafkaa

