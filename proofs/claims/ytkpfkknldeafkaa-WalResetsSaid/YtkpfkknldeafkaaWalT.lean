/- The walk of the journal's Reset. No conditions. -/
import Derived.Test.YtkpfkknldeafkaaWalR
namespace Go.Proofs.Ytkpfkknldeafkaa
open Go.RowKit

theorem resE_arg {d : Dk} {j : Jn} {l : List UInt8} {p : Int} (h : resArg d j l p = false) : resW d j l p = (d, j0, 1) := by
  have h1 : resE d j l p = 1 := by unfold resE; rw [if_neg (by rw [h]; simp)]
  unfold resW; rw [h1, if_neg (by decide)]
theorem resE_lim {d : Dk} {j : Jn} {l : List UInt8} {p : Int} (h : resArg d j l p = true) (h2 : 16384 < l.length ∨ j.x.g = 1099511627776) : resW d j l p = (d, j0, 2) := by
  have h1 : resE d j l p = 2 := by unfold resE; rw [if_pos h, if_pos h2]
  unfold resW; rw [h1, if_neg (by decide)]
theorem resE_split {d : Dk} {j : Jn} {l : List UInt8} {p e : Int} {SL : List (List UInt8)} (h : resArg d j l p = true) (h2 : ¬ (16384 < l.length ∨ j.x.g = 1099511627776)) (hs : splitS (j.x.g + 1) l = (SL, e)) (he : e ≠ 0) : resW d j l p = (d, j0, e) := by
  have h1 : resE d j l p = e := by unfold resE; rw [if_pos h, if_neg h2, hs]; simp only; rw [if_neg he]
  unfold resW; rw [h1, if_neg he]
theorem resE_full {d : Dk} {j : Jn} {l : List UInt8} {p : Int} {SL : List (List UInt8)} (h : resArg d j l p = true) (h2 : ¬ (16384 < l.length ∨ j.x.g = 1099511627776)) (hs : splitS (j.x.g + 1) l = (SL, 0)) (hf : arN d < SL.length) : resW d j l p = (d, j0, 17) := by
  have h1 : resE d j l p = 17 := by unfold resE; rw [if_pos h, if_neg h2, hs]; simp only; rw [if_pos trivial, if_pos hf]
  unfold resW; rw [h1, if_neg (by decide)]
theorem resE_go {d : Dk} {j : Jn} {l : List UInt8} {p : Int} {SL : List (List UInt8)} (h : resArg d j l p = true) (h2 : ¬ (16384 < l.length ∨ j.x.g = 1099511627776)) (hs : splitS (j.x.g + 1) l = (SL, 0)) (hf : ¬ arN d < SL.length) {nd : Dk} {e : Int} (hq : resQ SL d (2 + (otherA j.x - 1) * (arN d : Int)) (resX j l p) = (nd, e)) :
    resW d j l p = if e = 0 then (nd, ⟨resX j l p, 0, 0⟩, 0) else (nd, j0, e) := by
  have h1 : resE d j l p = 0 := by unfold resE; rw [if_pos h, if_neg h2, hs]; simp only; rw [if_pos trivial, if_neg hf]
  have h3 : resD d j l p SL = (nd, e) := hq
  unfold resW; rw [h1, if_pos rfl, hs]; simp only; rw [h3]
theorem resArg_iff (d : Dk) (j : Jn) (l : List UInt8) (p : Int) : resArg d j l p = true ↔ validB d = true ∧ jB d j = true ∧ l ≠ [] ∧ 0 ≤ p ∧ p ≤ 1099511627776 := by
  unfold resArg; simp only [Bool.and_eq_true, decide_eq_true_eq]
theorem resArg_no {d : Dk} {j : Jn} {l : List UInt8} {p : Int} (h : ¬ (validB d = true ∧ jB d j = true ∧ l ≠ [] ∧ 0 ≤ p ∧ p ≤ 1099511627776)) : resArg d j l p = false := by
  rw [Bool.eq_false_iff]; intro h2; exact h ((resArg_iff d j l p).1 h2)

theorem wc_xxxxxyyyyyz_5 {W : World} {x y z i0 i1 i2 i3 i4 i5 i6 i7 i8 i9 i10 : Nat} {u0 u1 u2 u3 u4 u5 u6 u7 u8 u9 u10 : Value} (h : W.drew.cell? ⟨x, i0, none⟩ = some u0 ∧ W.drew.cell? ⟨x, i1, none⟩ = some u1 ∧ W.drew.cell? ⟨x, i2, none⟩ = some u2 ∧ W.drew.cell? ⟨x, i3, none⟩ = some u3 ∧ W.drew.cell? ⟨x, i4, none⟩ = some u4 ∧ W.drew.cell? ⟨y, i5, none⟩ = some u5 ∧ W.drew.cell? ⟨y, i6, none⟩ = some u6 ∧ W.drew.cell? ⟨y, i7, none⟩ = some u7 ∧ W.drew.cell? ⟨y, i8, none⟩ = some u8 ∧ W.drew.cell? ⟨y, i9, none⟩ = some u9 ∧ W.drew.cell? ⟨z, i10, none⟩ = some u10) (b : Nat) (h_x : b ≠ x) (h_y : b ≠ y) (h_z : b ≠ z) (v0 v1 v2 v3 v4 : Value) :
    (((((W.setCell ⟨b, 0, none⟩ v0).setCell ⟨b, 1, none⟩ v1).setCell ⟨b, 2, none⟩ v2).setCell ⟨b, 3, none⟩ v3).setCell ⟨b, 4, none⟩ v4).drew.cell? ⟨x, i0, none⟩ = some u0 ∧ (((((W.setCell ⟨b, 0, none⟩ v0).setCell ⟨b, 1, none⟩ v1).setCell ⟨b, 2, none⟩ v2).setCell ⟨b, 3, none⟩ v3).setCell ⟨b, 4, none⟩ v4).drew.cell? ⟨x, i1, none⟩ = some u1 ∧ (((((W.setCell ⟨b, 0, none⟩ v0).setCell ⟨b, 1, none⟩ v1).setCell ⟨b, 2, none⟩ v2).setCell ⟨b, 3, none⟩ v3).setCell ⟨b, 4, none⟩ v4).drew.cell? ⟨x, i2, none⟩ = some u2 ∧ (((((W.setCell ⟨b, 0, none⟩ v0).setCell ⟨b, 1, none⟩ v1).setCell ⟨b, 2, none⟩ v2).setCell ⟨b, 3, none⟩ v3).setCell ⟨b, 4, none⟩ v4).drew.cell? ⟨x, i3, none⟩ = some u3 ∧ (((((W.setCell ⟨b, 0, none⟩ v0).setCell ⟨b, 1, none⟩ v1).setCell ⟨b, 2, none⟩ v2).setCell ⟨b, 3, none⟩ v3).setCell ⟨b, 4, none⟩ v4).drew.cell? ⟨x, i4, none⟩ = some u4 ∧ (((((W.setCell ⟨b, 0, none⟩ v0).setCell ⟨b, 1, none⟩ v1).setCell ⟨b, 2, none⟩ v2).setCell ⟨b, 3, none⟩ v3).setCell ⟨b, 4, none⟩ v4).drew.cell? ⟨y, i5, none⟩ = some u5 ∧ (((((W.setCell ⟨b, 0, none⟩ v0).setCell ⟨b, 1, none⟩ v1).setCell ⟨b, 2, none⟩ v2).setCell ⟨b, 3, none⟩ v3).setCell ⟨b, 4, none⟩ v4).drew.cell? ⟨y, i6, none⟩ = some u6 ∧ (((((W.setCell ⟨b, 0, none⟩ v0).setCell ⟨b, 1, none⟩ v1).setCell ⟨b, 2, none⟩ v2).setCell ⟨b, 3, none⟩ v3).setCell ⟨b, 4, none⟩ v4).drew.cell? ⟨y, i7, none⟩ = some u7 ∧ (((((W.setCell ⟨b, 0, none⟩ v0).setCell ⟨b, 1, none⟩ v1).setCell ⟨b, 2, none⟩ v2).setCell ⟨b, 3, none⟩ v3).setCell ⟨b, 4, none⟩ v4).drew.cell? ⟨y, i8, none⟩ = some u8 ∧ (((((W.setCell ⟨b, 0, none⟩ v0).setCell ⟨b, 1, none⟩ v1).setCell ⟨b, 2, none⟩ v2).setCell ⟨b, 3, none⟩ v3).setCell ⟨b, 4, none⟩ v4).drew.cell? ⟨y, i9, none⟩ = some u9 ∧ (((((W.setCell ⟨b, 0, none⟩ v0).setCell ⟨b, 1, none⟩ v1).setCell ⟨b, 2, none⟩ v2).setCell ⟨b, 3, none⟩ v3).setCell ⟨b, 4, none⟩ v4).drew.cell? ⟨z, i10, none⟩ = some u10 := by
  obtain ⟨h0, h1, h2, h3, h4, h5, h6, h7, h8, h9, h10⟩ := h
  exact ⟨drew_cell (cell1_set _ h_x (cell1_set _ h_x (cell1_set _ h_x (cell1_set _ h_x (cell1_set _ h_x (cell_drew h0)))))), drew_cell (cell1_set _ h_x (cell1_set _ h_x (cell1_set _ h_x (cell1_set _ h_x (cell1_set _ h_x (cell_drew h1)))))), drew_cell (cell1_set _ h_x (cell1_set _ h_x (cell1_set _ h_x (cell1_set _ h_x (cell1_set _ h_x (cell_drew h2)))))), drew_cell (cell1_set _ h_x (cell1_set _ h_x (cell1_set _ h_x (cell1_set _ h_x (cell1_set _ h_x (cell_drew h3)))))), drew_cell (cell1_set _ h_x (cell1_set _ h_x (cell1_set _ h_x (cell1_set _ h_x (cell1_set _ h_x (cell_drew h4)))))), drew_cell (cell1_set _ h_y (cell1_set _ h_y (cell1_set _ h_y (cell1_set _ h_y (cell1_set _ h_y (cell_drew h5)))))), drew_cell (cell1_set _ h_y (cell1_set _ h_y (cell1_set _ h_y (cell1_set _ h_y (cell1_set _ h_y (cell_drew h6)))))), drew_cell (cell1_set _ h_y (cell1_set _ h_y (cell1_set _ h_y (cell1_set _ h_y (cell1_set _ h_y (cell_drew h7)))))), drew_cell (cell1_set _ h_y (cell1_set _ h_y (cell1_set _ h_y (cell1_set _ h_y (cell1_set _ h_y (cell_drew h8)))))), drew_cell (cell1_set _ h_y (cell1_set _ h_y (cell1_set _ h_y (cell1_set _ h_y (cell1_set _ h_y (cell_drew h9)))))), drew_cell (cell1_set _ h_z (cell1_set _ h_z (cell1_set _ h_z (cell1_set _ h_z (cell1_set _ h_z (cell_drew h10))))))⟩
theorem wc_xxxxxyyyyyz_7 {W : World} {x y z i0 i1 i2 i3 i4 i5 i6 i7 i8 i9 i10 : Nat} {u0 u1 u2 u3 u4 u5 u6 u7 u8 u9 u10 : Value} (h : W.drew.cell? ⟨x, i0, none⟩ = some u0 ∧ W.drew.cell? ⟨x, i1, none⟩ = some u1 ∧ W.drew.cell? ⟨x, i2, none⟩ = some u2 ∧ W.drew.cell? ⟨x, i3, none⟩ = some u3 ∧ W.drew.cell? ⟨x, i4, none⟩ = some u4 ∧ W.drew.cell? ⟨y, i5, none⟩ = some u5 ∧ W.drew.cell? ⟨y, i6, none⟩ = some u6 ∧ W.drew.cell? ⟨y, i7, none⟩ = some u7 ∧ W.drew.cell? ⟨y, i8, none⟩ = some u8 ∧ W.drew.cell? ⟨y, i9, none⟩ = some u9 ∧ W.drew.cell? ⟨z, i10, none⟩ = some u10) (b : Nat) (h_x : b ≠ x) (h_y : b ≠ y) (h_z : b ≠ z) (v0 v1 v2 v3 v4 v5 v6 : Value) :
    (((((((W.setCell ⟨b, 0, none⟩ v0).setCell ⟨b, 1, none⟩ v1).setCell ⟨b, 2, none⟩ v2).setCell ⟨b, 3, none⟩ v3).setCell ⟨b, 4, none⟩ v4).setCell ⟨b, 5, none⟩ v5).setCell ⟨b, 6, none⟩ v6).drew.cell? ⟨x, i0, none⟩ = some u0 ∧ (((((((W.setCell ⟨b, 0, none⟩ v0).setCell ⟨b, 1, none⟩ v1).setCell ⟨b, 2, none⟩ v2).setCell ⟨b, 3, none⟩ v3).setCell ⟨b, 4, none⟩ v4).setCell ⟨b, 5, none⟩ v5).setCell ⟨b, 6, none⟩ v6).drew.cell? ⟨x, i1, none⟩ = some u1 ∧ (((((((W.setCell ⟨b, 0, none⟩ v0).setCell ⟨b, 1, none⟩ v1).setCell ⟨b, 2, none⟩ v2).setCell ⟨b, 3, none⟩ v3).setCell ⟨b, 4, none⟩ v4).setCell ⟨b, 5, none⟩ v5).setCell ⟨b, 6, none⟩ v6).drew.cell? ⟨x, i2, none⟩ = some u2 ∧ (((((((W.setCell ⟨b, 0, none⟩ v0).setCell ⟨b, 1, none⟩ v1).setCell ⟨b, 2, none⟩ v2).setCell ⟨b, 3, none⟩ v3).setCell ⟨b, 4, none⟩ v4).setCell ⟨b, 5, none⟩ v5).setCell ⟨b, 6, none⟩ v6).drew.cell? ⟨x, i3, none⟩ = some u3 ∧ (((((((W.setCell ⟨b, 0, none⟩ v0).setCell ⟨b, 1, none⟩ v1).setCell ⟨b, 2, none⟩ v2).setCell ⟨b, 3, none⟩ v3).setCell ⟨b, 4, none⟩ v4).setCell ⟨b, 5, none⟩ v5).setCell ⟨b, 6, none⟩ v6).drew.cell? ⟨x, i4, none⟩ = some u4 ∧ (((((((W.setCell ⟨b, 0, none⟩ v0).setCell ⟨b, 1, none⟩ v1).setCell ⟨b, 2, none⟩ v2).setCell ⟨b, 3, none⟩ v3).setCell ⟨b, 4, none⟩ v4).setCell ⟨b, 5, none⟩ v5).setCell ⟨b, 6, none⟩ v6).drew.cell? ⟨y, i5, none⟩ = some u5 ∧ (((((((W.setCell ⟨b, 0, none⟩ v0).setCell ⟨b, 1, none⟩ v1).setCell ⟨b, 2, none⟩ v2).setCell ⟨b, 3, none⟩ v3).setCell ⟨b, 4, none⟩ v4).setCell ⟨b, 5, none⟩ v5).setCell ⟨b, 6, none⟩ v6).drew.cell? ⟨y, i6, none⟩ = some u6 ∧ (((((((W.setCell ⟨b, 0, none⟩ v0).setCell ⟨b, 1, none⟩ v1).setCell ⟨b, 2, none⟩ v2).setCell ⟨b, 3, none⟩ v3).setCell ⟨b, 4, none⟩ v4).setCell ⟨b, 5, none⟩ v5).setCell ⟨b, 6, none⟩ v6).drew.cell? ⟨y, i7, none⟩ = some u7 ∧ (((((((W.setCell ⟨b, 0, none⟩ v0).setCell ⟨b, 1, none⟩ v1).setCell ⟨b, 2, none⟩ v2).setCell ⟨b, 3, none⟩ v3).setCell ⟨b, 4, none⟩ v4).setCell ⟨b, 5, none⟩ v5).setCell ⟨b, 6, none⟩ v6).drew.cell? ⟨y, i8, none⟩ = some u8 ∧ (((((((W.setCell ⟨b, 0, none⟩ v0).setCell ⟨b, 1, none⟩ v1).setCell ⟨b, 2, none⟩ v2).setCell ⟨b, 3, none⟩ v3).setCell ⟨b, 4, none⟩ v4).setCell ⟨b, 5, none⟩ v5).setCell ⟨b, 6, none⟩ v6).drew.cell? ⟨y, i9, none⟩ = some u9 ∧ (((((((W.setCell ⟨b, 0, none⟩ v0).setCell ⟨b, 1, none⟩ v1).setCell ⟨b, 2, none⟩ v2).setCell ⟨b, 3, none⟩ v3).setCell ⟨b, 4, none⟩ v4).setCell ⟨b, 5, none⟩ v5).setCell ⟨b, 6, none⟩ v6).drew.cell? ⟨z, i10, none⟩ = some u10 := by
  obtain ⟨h0, h1, h2, h3, h4, h5, h6, h7, h8, h9, h10⟩ := h
  exact ⟨drew_cell (cell1_set _ h_x (cell1_set _ h_x (cell1_set _ h_x (cell1_set _ h_x (cell1_set _ h_x (cell1_set _ h_x (cell1_set _ h_x (cell_drew h0)))))))), drew_cell (cell1_set _ h_x (cell1_set _ h_x (cell1_set _ h_x (cell1_set _ h_x (cell1_set _ h_x (cell1_set _ h_x (cell1_set _ h_x (cell_drew h1)))))))), drew_cell (cell1_set _ h_x (cell1_set _ h_x (cell1_set _ h_x (cell1_set _ h_x (cell1_set _ h_x (cell1_set _ h_x (cell1_set _ h_x (cell_drew h2)))))))), drew_cell (cell1_set _ h_x (cell1_set _ h_x (cell1_set _ h_x (cell1_set _ h_x (cell1_set _ h_x (cell1_set _ h_x (cell1_set _ h_x (cell_drew h3)))))))), drew_cell (cell1_set _ h_x (cell1_set _ h_x (cell1_set _ h_x (cell1_set _ h_x (cell1_set _ h_x (cell1_set _ h_x (cell1_set _ h_x (cell_drew h4)))))))), drew_cell (cell1_set _ h_y (cell1_set _ h_y (cell1_set _ h_y (cell1_set _ h_y (cell1_set _ h_y (cell1_set _ h_y (cell1_set _ h_y (cell_drew h5)))))))), drew_cell (cell1_set _ h_y (cell1_set _ h_y (cell1_set _ h_y (cell1_set _ h_y (cell1_set _ h_y (cell1_set _ h_y (cell1_set _ h_y (cell_drew h6)))))))), drew_cell (cell1_set _ h_y (cell1_set _ h_y (cell1_set _ h_y (cell1_set _ h_y (cell1_set _ h_y (cell1_set _ h_y (cell1_set _ h_y (cell_drew h7)))))))), drew_cell (cell1_set _ h_y (cell1_set _ h_y (cell1_set _ h_y (cell1_set _ h_y (cell1_set _ h_y (cell1_set _ h_y (cell1_set _ h_y (cell_drew h8)))))))), drew_cell (cell1_set _ h_y (cell1_set _ h_y (cell1_set _ h_y (cell1_set _ h_y (cell1_set _ h_y (cell1_set _ h_y (cell1_set _ h_y (cell_drew h9)))))))), drew_cell (cell1_set _ h_z (cell1_set _ h_z (cell1_set _ h_z (cell1_set _ h_z (cell1_set _ h_z (cell1_set _ h_z (cell1_set _ h_z (cell_drew h10))))))))⟩
set_option maxRecDepth 100000 in
set_option maxHeartbeats 64000000 in
theorem resW_any (sa pa : Option Addr) (sc pc : Nat) (d : Dk) (j : Jn) (l : List UInt8) (p : Int) (w : World) (hD : Lists w sa sc pa pc d) (hl : l.length ≤ 1000000000000000) (hp : d.P.length ≤ 8000000000000) :
    Calls Try.prog 45 #[.agg #[.slice sa d.S.length sc, .slice pa d.P.length pc, .int .i64 d.fuse, .int .i64 d.ops, .bool d.dead], .agg (jnV j), .string (bs l), .int .i64 p] w (APost (resW d j l p) w) := by
  obtain ⟨_, _, _, hszS⟩ := id hD
  simp only [jnV]
  have hb0 := ((((((Below.refl w.heap.size w).alloc (Nat.le_refl _) (.cells #[.slice sa d.S.length sc, .slice pa d.P.length pc, .int .i64 d.fuse, .int .i64 d.ops, .bool d.dead] 38)).alloc (by simp) (.cells #[.int .i64 j.x.g, .int .i64 j.x.e, .int .i64 j.x.a, .int .i64 j.x.z, .int .i64 j.x.p, .int .i64 j.n, .int .i64 j.r] 57)).alloc (by simp; try omega) (.cells #[.string (bs l)] 9)).alloc (by simp; try omega) (.cells #[.slice none 0 0, .slice none 0 0, .int .i64 0, .int .i64 0, .bool false] 38)).alloc (by simp; try omega) (.cells #[.int .i64 0, .int .i64 0, .int .i64 0, .int .i64 0, .int .i64 0, .int .i64 0, .int .i64 0] 57))
  have h_HX := (((((Bx.new w #[.slice sa d.S.length sc, .slice pa d.P.length pc, .int .i64 d.fuse, .int .i64 d.ops, .bool d.dead] 38).alloc (.cells #[.int .i64 j.x.g, .int .i64 j.x.e, .int .i64 j.x.a, .int .i64 j.x.z, .int .i64 j.x.p, .int .i64 j.n, .int .i64 j.r] 57)).alloc (.cells #[.string (bs l)] 9)).alloc (.cells #[.slice none 0 0, .slice none 0 0, .int .i64 0, .int .i64 0, .bool false] 38)).alloc (.cells #[.int .i64 0, .int .i64 0, .int .i64 0, .int .i64 0, .int .i64 0, .int .i64 0, .int .i64 0] 57))
  have h_HJ := ((((Bx.new (w.alloc (.cells #[.slice sa d.S.length sc, .slice pa d.P.length pc, .int .i64 d.fuse, .int .i64 d.ops, .bool d.dead] 38)) #[.int .i64 j.x.g, .int .i64 j.x.e, .int .i64 j.x.a, .int .i64 j.x.z, .int .i64 j.x.p, .int .i64 j.n, .int .i64 j.r] 57).alloc (.cells #[.string (bs l)] 9)).alloc (.cells #[.slice none 0 0, .slice none 0 0, .int .i64 0, .int .i64 0, .bool false] 38)).alloc (.cells #[.int .i64 0, .int .i64 0, .int .i64 0, .int .i64 0, .int .i64 0, .int .i64 0, .int .i64 0] 57))
  rw [show (w.alloc (.cells #[.slice sa d.S.length sc, .slice pa d.P.length pc, .int .i64 d.fuse, .int .i64 d.ops, .bool d.dead] 38)).heap.size = w.heap.size + 1 by simp] at h_HJ
  have h_HL := (((Bx.new ((w.alloc (.cells #[.slice sa d.S.length sc, .slice pa d.P.length pc, .int .i64 d.fuse, .int .i64 d.ops, .bool d.dead] 38)).alloc (.cells #[.int .i64 j.x.g, .int .i64 j.x.e, .int .i64 j.x.a, .int .i64 j.x.z, .int .i64 j.x.p, .int .i64 j.n, .int .i64 j.r] 57)) #[.string (bs l)] 9).alloc (.cells #[.slice none 0 0, .slice none 0 0, .int .i64 0, .int .i64 0, .bool false] 38)).alloc (.cells #[.int .i64 0, .int .i64 0, .int .i64 0, .int .i64 0, .int .i64 0, .int .i64 0, .int .i64 0] 57))
  rw [show ((w.alloc (.cells #[.slice sa d.S.length sc, .slice pa d.P.length pc, .int .i64 d.fuse, .int .i64 d.ops, .bool d.dead] 38)).alloc (.cells #[.int .i64 j.x.g, .int .i64 j.x.e, .int .i64 j.x.a, .int .i64 j.x.z, .int .i64 j.x.p, .int .i64 j.n, .int .i64 j.r] 57)).heap.size = w.heap.size + 2 by simp] at h_HL
  have h_HR := ((Bx.new (((w.alloc (.cells #[.slice sa d.S.length sc, .slice pa d.P.length pc, .int .i64 d.fuse, .int .i64 d.ops, .bool d.dead] 38)).alloc (.cells #[.int .i64 j.x.g, .int .i64 j.x.e, .int .i64 j.x.a, .int .i64 j.x.z, .int .i64 j.x.p, .int .i64 j.n, .int .i64 j.r] 57)).alloc (.cells #[.string (bs l)] 9)) #[.slice none 0 0, .slice none 0 0, .int .i64 0, .int .i64 0, .bool false] 38).alloc (.cells #[.int .i64 0, .int .i64 0, .int .i64 0, .int .i64 0, .int .i64 0, .int .i64 0, .int .i64 0] 57))
  rw [show (((w.alloc (.cells #[.slice sa d.S.length sc, .slice pa d.P.length pc, .int .i64 d.fuse, .int .i64 d.ops, .bool d.dead] 38)).alloc (.cells #[.int .i64 j.x.g, .int .i64 j.x.e, .int .i64 j.x.a, .int .i64 j.x.z, .int .i64 j.x.p, .int .i64 j.n, .int .i64 j.r] 57)).alloc (.cells #[.string (bs l)] 9)).heap.size = w.heap.size + 3 by simp] at h_HR
  have h_HJ2 := (Bx.new ((((w.alloc (.cells #[.slice sa d.S.length sc, .slice pa d.P.length pc, .int .i64 d.fuse, .int .i64 d.ops, .bool d.dead] 38)).alloc (.cells #[.int .i64 j.x.g, .int .i64 j.x.e, .int .i64 j.x.a, .int .i64 j.x.z, .int .i64 j.x.p, .int .i64 j.n, .int .i64 j.r] 57)).alloc (.cells #[.string (bs l)] 9)).alloc (.cells #[.slice none 0 0, .slice none 0 0, .int .i64 0, .int .i64 0, .bool false] 38)) #[.int .i64 0, .int .i64 0, .int .i64 0, .int .i64 0, .int .i64 0, .int .i64 0, .int .i64 0] 57)
  rw [show ((((w.alloc (.cells #[.slice sa d.S.length sc, .slice pa d.P.length pc, .int .i64 d.fuse, .int .i64 d.ops, .bool d.dead] 38)).alloc (.cells #[.int .i64 j.x.g, .int .i64 j.x.e, .int .i64 j.x.a, .int .i64 j.x.z, .int .i64 j.x.p, .int .i64 j.n, .int .i64 j.r] 57)).alloc (.cells #[.string (bs l)] 9)).alloc (.cells #[.slice none 0 0, .slice none 0 0, .int .i64 0, .int .i64 0, .bool false] 38)).heap.size = w.heap.size + 4 by simp] at h_HJ2
  have HB := Lib.hid hb0; have HX := Lib.hid h_HX; have HJ := Lib.hid h_HJ; have HL := Lib.hid h_HL; have HR := Lib.hid h_HR; have HJ2 := Lib.hid h_HJ2
  clear hb0 h_HX h_HJ h_HL h_HR h_HJ2
  have HD := Lib.hid (hD.below HB.out)
  go_enter Try.func45, Try.ntmps45
  go_upto_region 1 with (fail)
  generalize hW0 : ((((w.alloc (.cells #[.slice sa d.S.length sc, .slice pa d.P.length pc, .int .i64 d.fuse, .int .i64 d.ops, .bool d.dead] 38)).alloc (.cells #[.int .i64 j.x.g, .int .i64 j.x.e, .int .i64 j.x.a, .int .i64 j.x.z, .int .i64 j.x.p, .int .i64 j.n, .int .i64 j.r] 57)).alloc (.cells #[.string (bs l)] 9)).alloc (.cells #[.slice none 0 0, .slice none 0 0, .int .i64 0, .int .i64 0, .bool false] 38)).alloc (.cells #[.int .i64 0, .int .i64 0, .int .i64 0, .int .i64 0, .int .i64 0, .int .i64 0, .int .i64 0] 57) = v0 at HB HD HX HJ HL HR HJ2 ⊢
  clear hW0
  have x0 : v0.cell? ⟨w.heap.size, 0, none⟩ = some (.slice sa d.S.length sc) := HX.out.cell 0
  have x1 : v0.cell? ⟨w.heap.size, 1, none⟩ = some (.slice pa d.P.length pc) := HX.out.cell 1
  have x2 : v0.cell? ⟨w.heap.size, 2, none⟩ = some (.int .i64 d.fuse) := HX.out.cell 2
  have x3 : v0.cell? ⟨w.heap.size, 3, none⟩ = some (.int .i64 d.ops) := HX.out.cell 3
  have x4 : v0.cell? ⟨w.heap.size, 4, none⟩ = some (.bool d.dead) := HX.out.cell 4
  cases hv : validB d with
  | false =>
    have HV := Lib.hid hv; clear hv
    go_wp2_with fail
    refine (Valid_any _ _ _ _ d _ HD.out).mono ?_
    rw [HV.out]
    rintro er w1 ⟨rfl, hb1⟩
    clear x0 x1 x2 x3 x4
    have HX := Lib.hid (HX.out.call hb1)
    have HJ := Lib.hid (HJ.out.call hb1)
    have HL := Lib.hid (HL.out.call hb1)
    have HR := Lib.hid (HR.out.call hb1)
    have HJ2 := Lib.hid (HJ2.out.call hb1)
    have HD := Lib.hid (HD.out.below hb1)
    have HB := Lib.hid (btrans HB.out HB.out.size hb1); clear hb1
    have hres : resW d j l p = (d, j0, 1) := resE_arg (resArg_no (by rw [HV.out]; simp))
    have HRES := Lib.hid hres; clear hres
    have x0 : w1.cell? ⟨w.heap.size, 0, none⟩ = some (.slice sa d.S.length sc) := HX.out.cell 0
    have x1 : w1.cell? ⟨w.heap.size, 1, none⟩ = some (.slice pa d.P.length pc) := HX.out.cell 1
    have x2 : w1.cell? ⟨w.heap.size, 2, none⟩ = some (.int .i64 d.fuse) := HX.out.cell 2
    have x3 : w1.cell? ⟨w.heap.size, 3, none⟩ = some (.int .i64 d.ops) := HX.out.cell 3
    have x4 : w1.cell? ⟨w.heap.size, 4, none⟩ = some (.bool d.dead) := HX.out.cell 4
    have zcl : d.P.length ≤ 9000000000000 := by omega
    go_wp2_with fail
    refine (clone_w _ _ _ _ d _ HD.out).mono ?_
    rintro er wc ⟨a1, c1, a2, c2, rfl, hO1, hb1⟩
    clear x0 x1 x2 x3 x4
    have HLC := Lib.hid (hO1.lists (d := d) zcl hszS); clear hO1
    have HR := Lib.hid (HR.out.call hb1)
    have HJ2 := Lib.hid (HJ2.out.call hb1)
    have HB := Lib.hid (btrans HB.out HB.out.size hb1); clear hb1
    have zj := HJ2.out.lt
    have r0 : wc.cell? ⟨(w.heap.size + 3), 0, none⟩ = some (.slice none 0 0) := HR.out.cell 0
    have r1 : wc.cell? ⟨(w.heap.size + 3), 1, none⟩ = some (.slice none 0 0) := HR.out.cell 1
    have r2 : wc.cell? ⟨(w.heap.size + 3), 2, none⟩ = some (.int .i64 0) := HR.out.cell 2
    have r3 : wc.cell? ⟨(w.heap.size + 3), 3, none⟩ = some (.int .i64 0) := HR.out.cell 3
    have r4 : wc.cell? ⟨(w.heap.size + 3), 4, none⟩ = some (.bool false) := HR.out.cell 4
    have q0 : wc.cell? ⟨(w.heap.size + 4), 0, none⟩ = some (.int .i64 0) := HJ2.out.cell 0
    have q1 : wc.cell? ⟨(w.heap.size + 4), 1, none⟩ = some (.int .i64 0) := HJ2.out.cell 1
    have q2 : wc.cell? ⟨(w.heap.size + 4), 2, none⟩ = some (.int .i64 0) := HJ2.out.cell 2
    have q3 : wc.cell? ⟨(w.heap.size + 4), 3, none⟩ = some (.int .i64 0) := HJ2.out.cell 3
    have q4 : wc.cell? ⟨(w.heap.size + 4), 4, none⟩ = some (.int .i64 0) := HJ2.out.cell 4
    have q5 : wc.cell? ⟨(w.heap.size + 4), 5, none⟩ = some (.int .i64 0) := HJ2.out.cell 5
    have q6 : wc.cell? ⟨(w.heap.size + 4), 6, none⟩ = some (.int .i64 0) := HJ2.out.cell 6
    have f0 := HR.out.free 0
    have f1 := HR.out.free 1
    have f2 := HR.out.free 2
    have f3 := HR.out.free 3
    have f4 := HR.out.free 4
    have p0 := HJ2.out.free 0
    have p1 := HJ2.out.free 1
    have p2 := HJ2.out.free 2
    have p3 := HJ2.out.free 3
    have p4 := HJ2.out.free 4
    have p5 := HJ2.out.free 5
    have p6 := HJ2.out.free 6
    have HJ3 := Lib.hid (HJ2.out.sets_ne (c := w.heap.size + 3) (by omega) (.slice a1 d.S.length c1) (.slice a2 d.P.length c2) (.int .i64 d.fuse) (.int .i64 d.ops) (.bool d.dead))
    have KR := Lib.hid ((HR.out.sets (.slice a1 d.S.length c1) (.slice a2 d.P.length c2) (.int .i64 d.fuse) (.int .i64 d.ops) (.bool d.dead)).sets7_ne (c := w.heap.size + 4) (by omega) (.int .i64 0) (.int .i64 0) (.int .i64 0) (.int .i64 0) (.int .i64 0) (.int .i64 0) (.int .i64 0))
    have KJ := Lib.hid (HJ3.out.sets7 (.int .i64 0) (.int .i64 0) (.int .i64 0) (.int .i64 0) (.int .i64 0) (.int .i64 0) (.int .i64 0))
    have KL := Lib.hid ((HLC.out.sets_box HR.out (.slice a1 d.S.length c1) (.slice a2 d.P.length c2) (.int .i64 d.fuse) (.int .i64 d.ops) (.bool d.dead)).sets7i HJ3.out (.int .i64 0) (.int .i64 0) (.int .i64 0) (.int .i64 0) (.int .i64 0) (.int .i64 0) (.int .i64 0))
    have KB := Lib.hid (below_sets7 (below_sets HB.out (w.heap.size + 3) (by omega) (.slice a1 d.S.length c1) (.slice a2 d.P.length c2) (.int .i64 d.fuse) (.int .i64 d.ops) (.bool d.dead)) (w.heap.size + 4) (by omega) (.int .i64 0) (.int .i64 0) (.int .i64 0) (.int .i64 0) (.int .i64 0) (.int .i64 0) (.int .i64 0))
    go_wp2
    have k0 := KR.out.cell 0
    have k1 := KR.out.cell 1
    have k2 := KR.out.cell 2
    have k3 := KR.out.cell 3
    have k4 := KR.out.cell 4
    have m0 := KJ.out.cell 0
    have m1 := KJ.out.cell 1
    have m2 := KJ.out.cell 2
    have m3 := KJ.out.cell 3
    have m4 := KJ.out.cell 4
    have m5 := KJ.out.cell 5
    have m6 := KJ.out.cell 6
    simp only [List.getElem?_toArray, List.getElem?_cons_zero, List.getElem?_cons_succ] at k0 k1 k2 k3 k4 m0 m1 m2 m3 m4 m5 m6
    refine bodyPost_ret (v := .tuple #[.agg #[.slice a1 d.S.length c1, .slice a2 d.P.length c2, .int .i64 d.fuse, .int .i64 d.ops, .bool d.dead], .agg #[.int .i64 0, .int .i64 0, .int .i64 0, .int .i64 0, .int .i64 0, .int .i64 0, .int .i64 0], .int .i64 1]) (by simp [results, Try.results45, go_sem, k0, k1, k2, k3, k4, m0, m1, m2, m3, m4, m5, m6]) rfl ?_
    exact APost.mk (d, j0, 1) a1 c1 a2 c2 rfl KL.out KB.out HRES.out
  | true =>
    have HV := Lib.hid hv; clear hv
    go_wp2_with fail
    refine (Valid_any _ _ _ _ d _ HD.out).mono ?_
    rw [HV.out]
    rintro er w1 ⟨rfl, hb1⟩
    clear x0 x1 x2 x3 x4
    have HX := Lib.hid (HX.out.call hb1)
    have HJ := Lib.hid (HJ.out.call hb1)
    have HL := Lib.hid (HL.out.call hb1)
    have HR := Lib.hid (HR.out.call hb1)
    have HJ2 := Lib.hid (HJ2.out.call hb1)
    have HD := Lib.hid (HD.out.below hb1)
    have HB := Lib.hid (btrans HB.out HB.out.size hb1); clear hb1
    have x0 : w1.cell? ⟨w.heap.size, 0, none⟩ = some (.slice sa d.S.length sc) := HX.out.cell 0
    have x1 : w1.cell? ⟨w.heap.size, 1, none⟩ = some (.slice pa d.P.length pc) := HX.out.cell 1
    have x2 : w1.cell? ⟨w.heap.size, 2, none⟩ = some (.int .i64 d.fuse) := HX.out.cell 2
    have x3 : w1.cell? ⟨w.heap.size, 3, none⟩ = some (.int .i64 d.ops) := HX.out.cell 3
    have x4 : w1.cell? ⟨w.heap.size, 4, none⟩ = some (.bool d.dead) := HX.out.cell 4
    have y0 : w1.cell? ⟨(w.heap.size + 1), 0, none⟩ = some (.int .i64 j.x.g) := HJ.out.cell 0
    have y1 : w1.cell? ⟨(w.heap.size + 1), 1, none⟩ = some (.int .i64 j.x.e) := HJ.out.cell 1
    have y2 : w1.cell? ⟨(w.heap.size + 1), 2, none⟩ = some (.int .i64 j.x.a) := HJ.out.cell 2
    have y3 : w1.cell? ⟨(w.heap.size + 1), 3, none⟩ = some (.int .i64 j.x.z) := HJ.out.cell 3
    have y4 : w1.cell? ⟨(w.heap.size + 1), 4, none⟩ = some (.int .i64 j.x.p) := HJ.out.cell 4
    have y5 : w1.cell? ⟨(w.heap.size + 1), 5, none⟩ = some (.int .i64 j.n) := HJ.out.cell 5
    have y6 : w1.cell? ⟨(w.heap.size + 1), 6, none⟩ = some (.int .i64 j.r) := HJ.out.cell 6
    have l0 : w1.cell? ⟨w.heap.size + 2, 0, none⟩ = some (.string (bs l)) := HL.out.cell 0
    cases hj : jB d j with
    | false =>
      have HJB := Lib.hid hj; clear hj
      go_wp2_with fail
      refine (validW_any _ _ _ _ d j _ HD.out).mono ?_
      rw [HJB.out]
      rintro er w2 ⟨rfl, hb1⟩
      clear x0 x1 x2 x3 x4
      clear y0 y1 y2 y3 y4 y5 y6
      clear l0
      have HX := Lib.hid (HX.out.call hb1)
      have HJ := Lib.hid (HJ.out.call hb1)
      have HL := Lib.hid (HL.out.call hb1)
      have HR := Lib.hid (HR.out.call hb1)
      have HJ2 := Lib.hid (HJ2.out.call hb1)
      have HD := Lib.hid (HD.out.below hb1)
      have HB := Lib.hid (btrans HB.out HB.out.size hb1); clear hb1
      have l0 : w2.cell? ⟨w.heap.size + 2, 0, none⟩ = some (.string (bs l)) := HL.out.cell 0
      have hres : resW d j l p = (d, j0, 1) := resE_arg (resArg_no (by rw [HJB.out]; simp))
      have HRES := Lib.hid hres; clear hres
      have x0 : w2.cell? ⟨w.heap.size, 0, none⟩ = some (.slice sa d.S.length sc) := HX.out.cell 0
      have x1 : w2.cell? ⟨w.heap.size, 1, none⟩ = some (.slice pa d.P.length pc) := HX.out.cell 1
      have x2 : w2.cell? ⟨w.heap.size, 2, none⟩ = some (.int .i64 d.fuse) := HX.out.cell 2
      have x3 : w2.cell? ⟨w.heap.size, 3, none⟩ = some (.int .i64 d.ops) := HX.out.cell 3
      have x4 : w2.cell? ⟨w.heap.size, 4, none⟩ = some (.bool d.dead) := HX.out.cell 4
      have zcl : d.P.length ≤ 9000000000000 := by omega
      go_wp2_with fail
      refine (clone_w _ _ _ _ d _ HD.out).mono ?_
      rintro er wc ⟨a1, c1, a2, c2, rfl, hO1, hb1⟩
      clear x0 x1 x2 x3 x4
      have HLC := Lib.hid (hO1.lists (d := d) zcl hszS); clear hO1
      have HR := Lib.hid (HR.out.call hb1)
      have HJ2 := Lib.hid (HJ2.out.call hb1)
      have HB := Lib.hid (btrans HB.out HB.out.size hb1); clear hb1
      have zj := HJ2.out.lt
      have r0 : wc.cell? ⟨(w.heap.size + 3), 0, none⟩ = some (.slice none 0 0) := HR.out.cell 0
      have r1 : wc.cell? ⟨(w.heap.size + 3), 1, none⟩ = some (.slice none 0 0) := HR.out.cell 1
      have r2 : wc.cell? ⟨(w.heap.size + 3), 2, none⟩ = some (.int .i64 0) := HR.out.cell 2
      have r3 : wc.cell? ⟨(w.heap.size + 3), 3, none⟩ = some (.int .i64 0) := HR.out.cell 3
      have r4 : wc.cell? ⟨(w.heap.size + 3), 4, none⟩ = some (.bool false) := HR.out.cell 4
      have q0 : wc.cell? ⟨(w.heap.size + 4), 0, none⟩ = some (.int .i64 0) := HJ2.out.cell 0
      have q1 : wc.cell? ⟨(w.heap.size + 4), 1, none⟩ = some (.int .i64 0) := HJ2.out.cell 1
      have q2 : wc.cell? ⟨(w.heap.size + 4), 2, none⟩ = some (.int .i64 0) := HJ2.out.cell 2
      have q3 : wc.cell? ⟨(w.heap.size + 4), 3, none⟩ = some (.int .i64 0) := HJ2.out.cell 3
      have q4 : wc.cell? ⟨(w.heap.size + 4), 4, none⟩ = some (.int .i64 0) := HJ2.out.cell 4
      have q5 : wc.cell? ⟨(w.heap.size + 4), 5, none⟩ = some (.int .i64 0) := HJ2.out.cell 5
      have q6 : wc.cell? ⟨(w.heap.size + 4), 6, none⟩ = some (.int .i64 0) := HJ2.out.cell 6
      have f0 := HR.out.free 0
      have f1 := HR.out.free 1
      have f2 := HR.out.free 2
      have f3 := HR.out.free 3
      have f4 := HR.out.free 4
      have p0 := HJ2.out.free 0
      have p1 := HJ2.out.free 1
      have p2 := HJ2.out.free 2
      have p3 := HJ2.out.free 3
      have p4 := HJ2.out.free 4
      have p5 := HJ2.out.free 5
      have p6 := HJ2.out.free 6
      have HJ3 := Lib.hid (HJ2.out.sets_ne (c := w.heap.size + 3) (by omega) (.slice a1 d.S.length c1) (.slice a2 d.P.length c2) (.int .i64 d.fuse) (.int .i64 d.ops) (.bool d.dead))
      have KR := Lib.hid ((HR.out.sets (.slice a1 d.S.length c1) (.slice a2 d.P.length c2) (.int .i64 d.fuse) (.int .i64 d.ops) (.bool d.dead)).sets7_ne (c := w.heap.size + 4) (by omega) (.int .i64 0) (.int .i64 0) (.int .i64 0) (.int .i64 0) (.int .i64 0) (.int .i64 0) (.int .i64 0))
      have KJ := Lib.hid (HJ3.out.sets7 (.int .i64 0) (.int .i64 0) (.int .i64 0) (.int .i64 0) (.int .i64 0) (.int .i64 0) (.int .i64 0))
      have KL := Lib.hid ((HLC.out.sets_box HR.out (.slice a1 d.S.length c1) (.slice a2 d.P.length c2) (.int .i64 d.fuse) (.int .i64 d.ops) (.bool d.dead)).sets7i HJ3.out (.int .i64 0) (.int .i64 0) (.int .i64 0) (.int .i64 0) (.int .i64 0) (.int .i64 0) (.int .i64 0))
      have KB := Lib.hid (below_sets7 (below_sets HB.out (w.heap.size + 3) (by omega) (.slice a1 d.S.length c1) (.slice a2 d.P.length c2) (.int .i64 d.fuse) (.int .i64 d.ops) (.bool d.dead)) (w.heap.size + 4) (by omega) (.int .i64 0) (.int .i64 0) (.int .i64 0) (.int .i64 0) (.int .i64 0) (.int .i64 0) (.int .i64 0))
      go_wp2
      have k0 := KR.out.cell 0
      have k1 := KR.out.cell 1
      have k2 := KR.out.cell 2
      have k3 := KR.out.cell 3
      have k4 := KR.out.cell 4
      have m0 := KJ.out.cell 0
      have m1 := KJ.out.cell 1
      have m2 := KJ.out.cell 2
      have m3 := KJ.out.cell 3
      have m4 := KJ.out.cell 4
      have m5 := KJ.out.cell 5
      have m6 := KJ.out.cell 6
      simp only [List.getElem?_toArray, List.getElem?_cons_zero, List.getElem?_cons_succ] at k0 k1 k2 k3 k4 m0 m1 m2 m3 m4 m5 m6
      refine bodyPost_ret (v := .tuple #[.agg #[.slice a1 d.S.length c1, .slice a2 d.P.length c2, .int .i64 d.fuse, .int .i64 d.ops, .bool d.dead], .agg #[.int .i64 0, .int .i64 0, .int .i64 0, .int .i64 0, .int .i64 0, .int .i64 0, .int .i64 0], .int .i64 1]) (by simp [results, Try.results45, go_sem, k0, k1, k2, k3, k4, m0, m1, m2, m3, m4, m5, m6]) rfl ?_
      exact APost.mk (d, j0, 1) a1 c1 a2 c2 rfl KL.out KB.out HRES.out
    | true =>
      have HJB := Lib.hid hj; clear hj
      go_wp2_with fail
      refine (validW_any _ _ _ _ d j _ HD.out).mono ?_
      rw [HJB.out]
      rintro er w2 ⟨rfl, hb1⟩
      clear x0 x1 x2 x3 x4
      clear y0 y1 y2 y3 y4 y5 y6
      clear l0
      have HX := Lib.hid (HX.out.call hb1)
      have HJ := Lib.hid (HJ.out.call hb1)
      have HL := Lib.hid (HL.out.call hb1)
      have HR := Lib.hid (HR.out.call hb1)
      have HJ2 := Lib.hid (HJ2.out.call hb1)
      have HD := Lib.hid (HD.out.below hb1)
      have HB := Lib.hid (btrans HB.out HB.out.size hb1); clear hb1
      have l0 : w2.cell? ⟨w.heap.size + 2, 0, none⟩ = some (.string (bs l)) := HL.out.cell 0
      by_cases hi : l = []
      · have ti : (l == []) = true := by rw [hi]; rfl
        have HI := Lib.hid hi; clear hi
        have hres : resW d j l p = (d, j0, 1) := resE_arg (resArg_no (by rw [HI.out]; simp))
        have HRES := Lib.hid hres; clear hres
        have x0 : w2.cell? ⟨w.heap.size, 0, none⟩ = some (.slice sa d.S.length sc) := HX.out.cell 0
        have x1 : w2.cell? ⟨w.heap.size, 1, none⟩ = some (.slice pa d.P.length pc) := HX.out.cell 1
        have x2 : w2.cell? ⟨w.heap.size, 2, none⟩ = some (.int .i64 d.fuse) := HX.out.cell 2
        have x3 : w2.cell? ⟨w.heap.size, 3, none⟩ = some (.int .i64 d.ops) := HX.out.cell 3
        have x4 : w2.cell? ⟨w.heap.size, 4, none⟩ = some (.bool d.dead) := HX.out.cell 4
        have zcl : d.P.length ≤ 9000000000000 := by omega
        go_wp2_with fail
        refine (clone_w _ _ _ _ d _ HD.out).mono ?_
        rintro er wc ⟨a1, c1, a2, c2, rfl, hO1, hb1⟩
        clear x0 x1 x2 x3 x4
        have HLC := Lib.hid (hO1.lists (d := d) zcl hszS); clear hO1
        have HR := Lib.hid (HR.out.call hb1)
        have HJ2 := Lib.hid (HJ2.out.call hb1)
        have HB := Lib.hid (btrans HB.out HB.out.size hb1); clear hb1
        have zj := HJ2.out.lt
        have r0 : wc.cell? ⟨(w.heap.size + 3), 0, none⟩ = some (.slice none 0 0) := HR.out.cell 0
        have r1 : wc.cell? ⟨(w.heap.size + 3), 1, none⟩ = some (.slice none 0 0) := HR.out.cell 1
        have r2 : wc.cell? ⟨(w.heap.size + 3), 2, none⟩ = some (.int .i64 0) := HR.out.cell 2
        have r3 : wc.cell? ⟨(w.heap.size + 3), 3, none⟩ = some (.int .i64 0) := HR.out.cell 3
        have r4 : wc.cell? ⟨(w.heap.size + 3), 4, none⟩ = some (.bool false) := HR.out.cell 4
        have q0 : wc.cell? ⟨(w.heap.size + 4), 0, none⟩ = some (.int .i64 0) := HJ2.out.cell 0
        have q1 : wc.cell? ⟨(w.heap.size + 4), 1, none⟩ = some (.int .i64 0) := HJ2.out.cell 1
        have q2 : wc.cell? ⟨(w.heap.size + 4), 2, none⟩ = some (.int .i64 0) := HJ2.out.cell 2
        have q3 : wc.cell? ⟨(w.heap.size + 4), 3, none⟩ = some (.int .i64 0) := HJ2.out.cell 3
        have q4 : wc.cell? ⟨(w.heap.size + 4), 4, none⟩ = some (.int .i64 0) := HJ2.out.cell 4
        have q5 : wc.cell? ⟨(w.heap.size + 4), 5, none⟩ = some (.int .i64 0) := HJ2.out.cell 5
        have q6 : wc.cell? ⟨(w.heap.size + 4), 6, none⟩ = some (.int .i64 0) := HJ2.out.cell 6
        have f0 := HR.out.free 0
        have f1 := HR.out.free 1
        have f2 := HR.out.free 2
        have f3 := HR.out.free 3
        have f4 := HR.out.free 4
        have p0 := HJ2.out.free 0
        have p1 := HJ2.out.free 1
        have p2 := HJ2.out.free 2
        have p3 := HJ2.out.free 3
        have p4 := HJ2.out.free 4
        have p5 := HJ2.out.free 5
        have p6 := HJ2.out.free 6
        have HJ3 := Lib.hid (HJ2.out.sets_ne (c := w.heap.size + 3) (by omega) (.slice a1 d.S.length c1) (.slice a2 d.P.length c2) (.int .i64 d.fuse) (.int .i64 d.ops) (.bool d.dead))
        have KR := Lib.hid ((HR.out.sets (.slice a1 d.S.length c1) (.slice a2 d.P.length c2) (.int .i64 d.fuse) (.int .i64 d.ops) (.bool d.dead)).sets7_ne (c := w.heap.size + 4) (by omega) (.int .i64 0) (.int .i64 0) (.int .i64 0) (.int .i64 0) (.int .i64 0) (.int .i64 0) (.int .i64 0))
        have KJ := Lib.hid (HJ3.out.sets7 (.int .i64 0) (.int .i64 0) (.int .i64 0) (.int .i64 0) (.int .i64 0) (.int .i64 0) (.int .i64 0))
        have KL := Lib.hid ((HLC.out.sets_box HR.out (.slice a1 d.S.length c1) (.slice a2 d.P.length c2) (.int .i64 d.fuse) (.int .i64 d.ops) (.bool d.dead)).sets7i HJ3.out (.int .i64 0) (.int .i64 0) (.int .i64 0) (.int .i64 0) (.int .i64 0) (.int .i64 0) (.int .i64 0))
        have KB := Lib.hid (below_sets7 (below_sets HB.out (w.heap.size + 3) (by omega) (.slice a1 d.S.length c1) (.slice a2 d.P.length c2) (.int .i64 d.fuse) (.int .i64 d.ops) (.bool d.dead)) (w.heap.size + 4) (by omega) (.int .i64 0) (.int .i64 0) (.int .i64 0) (.int .i64 0) (.int .i64 0) (.int .i64 0) (.int .i64 0))
        go_wp2
        have k0 := KR.out.cell 0
        have k1 := KR.out.cell 1
        have k2 := KR.out.cell 2
        have k3 := KR.out.cell 3
        have k4 := KR.out.cell 4
        have m0 := KJ.out.cell 0
        have m1 := KJ.out.cell 1
        have m2 := KJ.out.cell 2
        have m3 := KJ.out.cell 3
        have m4 := KJ.out.cell 4
        have m5 := KJ.out.cell 5
        have m6 := KJ.out.cell 6
        simp only [List.getElem?_toArray, List.getElem?_cons_zero, List.getElem?_cons_succ] at k0 k1 k2 k3 k4 m0 m1 m2 m3 m4 m5 m6
        refine bodyPost_ret (v := .tuple #[.agg #[.slice a1 d.S.length c1, .slice a2 d.P.length c2, .int .i64 d.fuse, .int .i64 d.ops, .bool d.dead], .agg #[.int .i64 0, .int .i64 0, .int .i64 0, .int .i64 0, .int .i64 0, .int .i64 0, .int .i64 0], .int .i64 1]) (by simp [results, Try.results45, go_sem, k0, k1, k2, k3, k4, m0, m1, m2, m3, m4, m5, m6]) rfl ?_
        exact APost.mk (d, j0, 1) a1 c1 a2 c2 rfl KL.out KB.out HRES.out
      have ti : (l == []) = false := by rw [beq_eq_false_iff_ne]; exact hi
      have HI := Lib.hid hi; clear hi
      by_cases hp0 : p < 0
      · skip
        have hres : resW d j l p = (d, j0, 1) := resE_arg (resArg_no (by omega))
        have HRES := Lib.hid hres; clear hres
        have x0 : w2.cell? ⟨w.heap.size, 0, none⟩ = some (.slice sa d.S.length sc) := HX.out.cell 0
        have x1 : w2.cell? ⟨w.heap.size, 1, none⟩ = some (.slice pa d.P.length pc) := HX.out.cell 1
        have x2 : w2.cell? ⟨w.heap.size, 2, none⟩ = some (.int .i64 d.fuse) := HX.out.cell 2
        have x3 : w2.cell? ⟨w.heap.size, 3, none⟩ = some (.int .i64 d.ops) := HX.out.cell 3
        have x4 : w2.cell? ⟨w.heap.size, 4, none⟩ = some (.bool d.dead) := HX.out.cell 4
        have zcl : d.P.length ≤ 9000000000000 := by omega
        go_wp2_with fail
        refine (clone_w _ _ _ _ d _ HD.out).mono ?_
        rintro er wc ⟨a1, c1, a2, c2, rfl, hO1, hb1⟩
        clear x0 x1 x2 x3 x4
        have HLC := Lib.hid (hO1.lists (d := d) zcl hszS); clear hO1
        have HR := Lib.hid (HR.out.call hb1)
        have HJ2 := Lib.hid (HJ2.out.call hb1)
        have HB := Lib.hid (btrans HB.out HB.out.size hb1); clear hb1
        have zj := HJ2.out.lt
        have r0 : wc.cell? ⟨(w.heap.size + 3), 0, none⟩ = some (.slice none 0 0) := HR.out.cell 0
        have r1 : wc.cell? ⟨(w.heap.size + 3), 1, none⟩ = some (.slice none 0 0) := HR.out.cell 1
        have r2 : wc.cell? ⟨(w.heap.size + 3), 2, none⟩ = some (.int .i64 0) := HR.out.cell 2
        have r3 : wc.cell? ⟨(w.heap.size + 3), 3, none⟩ = some (.int .i64 0) := HR.out.cell 3
        have r4 : wc.cell? ⟨(w.heap.size + 3), 4, none⟩ = some (.bool false) := HR.out.cell 4
        have q0 : wc.cell? ⟨(w.heap.size + 4), 0, none⟩ = some (.int .i64 0) := HJ2.out.cell 0
        have q1 : wc.cell? ⟨(w.heap.size + 4), 1, none⟩ = some (.int .i64 0) := HJ2.out.cell 1
        have q2 : wc.cell? ⟨(w.heap.size + 4), 2, none⟩ = some (.int .i64 0) := HJ2.out.cell 2
        have q3 : wc.cell? ⟨(w.heap.size + 4), 3, none⟩ = some (.int .i64 0) := HJ2.out.cell 3
        have q4 : wc.cell? ⟨(w.heap.size + 4), 4, none⟩ = some (.int .i64 0) := HJ2.out.cell 4
        have q5 : wc.cell? ⟨(w.heap.size + 4), 5, none⟩ = some (.int .i64 0) := HJ2.out.cell 5
        have q6 : wc.cell? ⟨(w.heap.size + 4), 6, none⟩ = some (.int .i64 0) := HJ2.out.cell 6
        have f0 := HR.out.free 0
        have f1 := HR.out.free 1
        have f2 := HR.out.free 2
        have f3 := HR.out.free 3
        have f4 := HR.out.free 4
        have p0 := HJ2.out.free 0
        have p1 := HJ2.out.free 1
        have p2 := HJ2.out.free 2
        have p3 := HJ2.out.free 3
        have p4 := HJ2.out.free 4
        have p5 := HJ2.out.free 5
        have p6 := HJ2.out.free 6
        have HJ3 := Lib.hid (HJ2.out.sets_ne (c := w.heap.size + 3) (by omega) (.slice a1 d.S.length c1) (.slice a2 d.P.length c2) (.int .i64 d.fuse) (.int .i64 d.ops) (.bool d.dead))
        have KR := Lib.hid ((HR.out.sets (.slice a1 d.S.length c1) (.slice a2 d.P.length c2) (.int .i64 d.fuse) (.int .i64 d.ops) (.bool d.dead)).sets7_ne (c := w.heap.size + 4) (by omega) (.int .i64 0) (.int .i64 0) (.int .i64 0) (.int .i64 0) (.int .i64 0) (.int .i64 0) (.int .i64 0))
        have KJ := Lib.hid (HJ3.out.sets7 (.int .i64 0) (.int .i64 0) (.int .i64 0) (.int .i64 0) (.int .i64 0) (.int .i64 0) (.int .i64 0))
        have KL := Lib.hid ((HLC.out.sets_box HR.out (.slice a1 d.S.length c1) (.slice a2 d.P.length c2) (.int .i64 d.fuse) (.int .i64 d.ops) (.bool d.dead)).sets7i HJ3.out (.int .i64 0) (.int .i64 0) (.int .i64 0) (.int .i64 0) (.int .i64 0) (.int .i64 0) (.int .i64 0))
        have KB := Lib.hid (below_sets7 (below_sets HB.out (w.heap.size + 3) (by omega) (.slice a1 d.S.length c1) (.slice a2 d.P.length c2) (.int .i64 d.fuse) (.int .i64 d.ops) (.bool d.dead)) (w.heap.size + 4) (by omega) (.int .i64 0) (.int .i64 0) (.int .i64 0) (.int .i64 0) (.int .i64 0) (.int .i64 0) (.int .i64 0))
        go_wp2
        have k0 := KR.out.cell 0
        have k1 := KR.out.cell 1
        have k2 := KR.out.cell 2
        have k3 := KR.out.cell 3
        have k4 := KR.out.cell 4
        have m0 := KJ.out.cell 0
        have m1 := KJ.out.cell 1
        have m2 := KJ.out.cell 2
        have m3 := KJ.out.cell 3
        have m4 := KJ.out.cell 4
        have m5 := KJ.out.cell 5
        have m6 := KJ.out.cell 6
        simp only [List.getElem?_toArray, List.getElem?_cons_zero, List.getElem?_cons_succ] at k0 k1 k2 k3 k4 m0 m1 m2 m3 m4 m5 m6
        refine bodyPost_ret (v := .tuple #[.agg #[.slice a1 d.S.length c1, .slice a2 d.P.length c2, .int .i64 d.fuse, .int .i64 d.ops, .bool d.dead], .agg #[.int .i64 0, .int .i64 0, .int .i64 0, .int .i64 0, .int .i64 0, .int .i64 0, .int .i64 0], .int .i64 1]) (by simp [results, Try.results45, go_sem, k0, k1, k2, k3, k4, m0, m1, m2, m3, m4, m5, m6]) rfl ?_
        exact APost.mk (d, j0, 1) a1 c1 a2 c2 rfl KL.out KB.out HRES.out
      by_cases hp1 : 1099511627776 < p
      · skip
        have hres : resW d j l p = (d, j0, 1) := resE_arg (resArg_no (by omega))
        have HRES := Lib.hid hres; clear hres
        have x0 : w2.cell? ⟨w.heap.size, 0, none⟩ = some (.slice sa d.S.length sc) := HX.out.cell 0
        have x1 : w2.cell? ⟨w.heap.size, 1, none⟩ = some (.slice pa d.P.length pc) := HX.out.cell 1
        have x2 : w2.cell? ⟨w.heap.size, 2, none⟩ = some (.int .i64 d.fuse) := HX.out.cell 2
        have x3 : w2.cell? ⟨w.heap.size, 3, none⟩ = some (.int .i64 d.ops) := HX.out.cell 3
        have x4 : w2.cell? ⟨w.heap.size, 4, none⟩ = some (.bool d.dead) := HX.out.cell 4
        have zcl : d.P.length ≤ 9000000000000 := by omega
        go_wp2_with fail
        refine (clone_w _ _ _ _ d _ HD.out).mono ?_
        rintro er wc ⟨a1, c1, a2, c2, rfl, hO1, hb1⟩
        clear x0 x1 x2 x3 x4
        have HLC := Lib.hid (hO1.lists (d := d) zcl hszS); clear hO1
        have HR := Lib.hid (HR.out.call hb1)
        have HJ2 := Lib.hid (HJ2.out.call hb1)
        have HB := Lib.hid (btrans HB.out HB.out.size hb1); clear hb1
        have zj := HJ2.out.lt
        have r0 : wc.cell? ⟨(w.heap.size + 3), 0, none⟩ = some (.slice none 0 0) := HR.out.cell 0
        have r1 : wc.cell? ⟨(w.heap.size + 3), 1, none⟩ = some (.slice none 0 0) := HR.out.cell 1
        have r2 : wc.cell? ⟨(w.heap.size + 3), 2, none⟩ = some (.int .i64 0) := HR.out.cell 2
        have r3 : wc.cell? ⟨(w.heap.size + 3), 3, none⟩ = some (.int .i64 0) := HR.out.cell 3
        have r4 : wc.cell? ⟨(w.heap.size + 3), 4, none⟩ = some (.bool false) := HR.out.cell 4
        have q0 : wc.cell? ⟨(w.heap.size + 4), 0, none⟩ = some (.int .i64 0) := HJ2.out.cell 0
        have q1 : wc.cell? ⟨(w.heap.size + 4), 1, none⟩ = some (.int .i64 0) := HJ2.out.cell 1
        have q2 : wc.cell? ⟨(w.heap.size + 4), 2, none⟩ = some (.int .i64 0) := HJ2.out.cell 2
        have q3 : wc.cell? ⟨(w.heap.size + 4), 3, none⟩ = some (.int .i64 0) := HJ2.out.cell 3
        have q4 : wc.cell? ⟨(w.heap.size + 4), 4, none⟩ = some (.int .i64 0) := HJ2.out.cell 4
        have q5 : wc.cell? ⟨(w.heap.size + 4), 5, none⟩ = some (.int .i64 0) := HJ2.out.cell 5
        have q6 : wc.cell? ⟨(w.heap.size + 4), 6, none⟩ = some (.int .i64 0) := HJ2.out.cell 6
        have f0 := HR.out.free 0
        have f1 := HR.out.free 1
        have f2 := HR.out.free 2
        have f3 := HR.out.free 3
        have f4 := HR.out.free 4
        have p0 := HJ2.out.free 0
        have p1 := HJ2.out.free 1
        have p2 := HJ2.out.free 2
        have p3 := HJ2.out.free 3
        have p4 := HJ2.out.free 4
        have p5 := HJ2.out.free 5
        have p6 := HJ2.out.free 6
        have HJ3 := Lib.hid (HJ2.out.sets_ne (c := w.heap.size + 3) (by omega) (.slice a1 d.S.length c1) (.slice a2 d.P.length c2) (.int .i64 d.fuse) (.int .i64 d.ops) (.bool d.dead))
        have KR := Lib.hid ((HR.out.sets (.slice a1 d.S.length c1) (.slice a2 d.P.length c2) (.int .i64 d.fuse) (.int .i64 d.ops) (.bool d.dead)).sets7_ne (c := w.heap.size + 4) (by omega) (.int .i64 0) (.int .i64 0) (.int .i64 0) (.int .i64 0) (.int .i64 0) (.int .i64 0) (.int .i64 0))
        have KJ := Lib.hid (HJ3.out.sets7 (.int .i64 0) (.int .i64 0) (.int .i64 0) (.int .i64 0) (.int .i64 0) (.int .i64 0) (.int .i64 0))
        have KL := Lib.hid ((HLC.out.sets_box HR.out (.slice a1 d.S.length c1) (.slice a2 d.P.length c2) (.int .i64 d.fuse) (.int .i64 d.ops) (.bool d.dead)).sets7i HJ3.out (.int .i64 0) (.int .i64 0) (.int .i64 0) (.int .i64 0) (.int .i64 0) (.int .i64 0) (.int .i64 0))
        have KB := Lib.hid (below_sets7 (below_sets HB.out (w.heap.size + 3) (by omega) (.slice a1 d.S.length c1) (.slice a2 d.P.length c2) (.int .i64 d.fuse) (.int .i64 d.ops) (.bool d.dead)) (w.heap.size + 4) (by omega) (.int .i64 0) (.int .i64 0) (.int .i64 0) (.int .i64 0) (.int .i64 0) (.int .i64 0) (.int .i64 0))
        go_wp2
        have k0 := KR.out.cell 0
        have k1 := KR.out.cell 1
        have k2 := KR.out.cell 2
        have k3 := KR.out.cell 3
        have k4 := KR.out.cell 4
        have m0 := KJ.out.cell 0
        have m1 := KJ.out.cell 1
        have m2 := KJ.out.cell 2
        have m3 := KJ.out.cell 3
        have m4 := KJ.out.cell 4
        have m5 := KJ.out.cell 5
        have m6 := KJ.out.cell 6
        simp only [List.getElem?_toArray, List.getElem?_cons_zero, List.getElem?_cons_succ] at k0 k1 k2 k3 k4 m0 m1 m2 m3 m4 m5 m6
        refine bodyPost_ret (v := .tuple #[.agg #[.slice a1 d.S.length c1, .slice a2 d.P.length c2, .int .i64 d.fuse, .int .i64 d.ops, .bool d.dead], .agg #[.int .i64 0, .int .i64 0, .int .i64 0, .int .i64 0, .int .i64 0, .int .i64 0, .int .i64 0], .int .i64 1]) (by simp [results, Try.results45, go_sem, k0, k1, k2, k3, k4, m0, m1, m2, m3, m4, m5, m6]) rfl ?_
        exact APost.mk (d, j0, 1) a1 c1 a2 c2 rfl KL.out KB.out HRES.out
      have hra := (resArg_iff d j l p).2 ⟨HV.out, HJB.out, HI.out, by omega, by omega⟩
      have HRA := Lib.hid hra; clear hra
      have y0 : w2.cell? ⟨w.heap.size + 1, 0, none⟩ = some (.int .i64 j.x.g) := HJ.out.cell 0
      by_cases hlen : (16384 : Int) < (l.length : Int)
      · skip
        have hres : resW d j l p = (d, j0, 2) := resE_lim HRA.out (.inl (by omega))
        have HRES := Lib.hid hres; clear hres
        have x0 : w2.cell? ⟨w.heap.size, 0, none⟩ = some (.slice sa d.S.length sc) := HX.out.cell 0
        have x1 : w2.cell? ⟨w.heap.size, 1, none⟩ = some (.slice pa d.P.length pc) := HX.out.cell 1
        have x2 : w2.cell? ⟨w.heap.size, 2, none⟩ = some (.int .i64 d.fuse) := HX.out.cell 2
        have x3 : w2.cell? ⟨w.heap.size, 3, none⟩ = some (.int .i64 d.ops) := HX.out.cell 3
        have x4 : w2.cell? ⟨w.heap.size, 4, none⟩ = some (.bool d.dead) := HX.out.cell 4
        have zcl : d.P.length ≤ 9000000000000 := by omega
        go_wp2_with fail
        refine (clone_w _ _ _ _ d _ HD.out).mono ?_
        rintro er wc ⟨a1, c1, a2, c2, rfl, hO1, hb1⟩
        clear x0 x1 x2 x3 x4
        have HLC := Lib.hid (hO1.lists (d := d) zcl hszS); clear hO1
        have HR := Lib.hid (HR.out.call hb1)
        have HJ2 := Lib.hid (HJ2.out.call hb1)
        have HB := Lib.hid (btrans HB.out HB.out.size hb1); clear hb1
        have zj := HJ2.out.lt
        have r0 : wc.cell? ⟨(w.heap.size + 3), 0, none⟩ = some (.slice none 0 0) := HR.out.cell 0
        have r1 : wc.cell? ⟨(w.heap.size + 3), 1, none⟩ = some (.slice none 0 0) := HR.out.cell 1
        have r2 : wc.cell? ⟨(w.heap.size + 3), 2, none⟩ = some (.int .i64 0) := HR.out.cell 2
        have r3 : wc.cell? ⟨(w.heap.size + 3), 3, none⟩ = some (.int .i64 0) := HR.out.cell 3
        have r4 : wc.cell? ⟨(w.heap.size + 3), 4, none⟩ = some (.bool false) := HR.out.cell 4
        have q0 : wc.cell? ⟨(w.heap.size + 4), 0, none⟩ = some (.int .i64 0) := HJ2.out.cell 0
        have q1 : wc.cell? ⟨(w.heap.size + 4), 1, none⟩ = some (.int .i64 0) := HJ2.out.cell 1
        have q2 : wc.cell? ⟨(w.heap.size + 4), 2, none⟩ = some (.int .i64 0) := HJ2.out.cell 2
        have q3 : wc.cell? ⟨(w.heap.size + 4), 3, none⟩ = some (.int .i64 0) := HJ2.out.cell 3
        have q4 : wc.cell? ⟨(w.heap.size + 4), 4, none⟩ = some (.int .i64 0) := HJ2.out.cell 4
        have q5 : wc.cell? ⟨(w.heap.size + 4), 5, none⟩ = some (.int .i64 0) := HJ2.out.cell 5
        have q6 : wc.cell? ⟨(w.heap.size + 4), 6, none⟩ = some (.int .i64 0) := HJ2.out.cell 6
        have f0 := HR.out.free 0
        have f1 := HR.out.free 1
        have f2 := HR.out.free 2
        have f3 := HR.out.free 3
        have f4 := HR.out.free 4
        have p0 := HJ2.out.free 0
        have p1 := HJ2.out.free 1
        have p2 := HJ2.out.free 2
        have p3 := HJ2.out.free 3
        have p4 := HJ2.out.free 4
        have p5 := HJ2.out.free 5
        have p6 := HJ2.out.free 6
        have HJ3 := Lib.hid (HJ2.out.sets_ne (c := w.heap.size + 3) (by omega) (.slice a1 d.S.length c1) (.slice a2 d.P.length c2) (.int .i64 d.fuse) (.int .i64 d.ops) (.bool d.dead))
        have KR := Lib.hid ((HR.out.sets (.slice a1 d.S.length c1) (.slice a2 d.P.length c2) (.int .i64 d.fuse) (.int .i64 d.ops) (.bool d.dead)).sets7_ne (c := w.heap.size + 4) (by omega) (.int .i64 0) (.int .i64 0) (.int .i64 0) (.int .i64 0) (.int .i64 0) (.int .i64 0) (.int .i64 0))
        have KJ := Lib.hid (HJ3.out.sets7 (.int .i64 0) (.int .i64 0) (.int .i64 0) (.int .i64 0) (.int .i64 0) (.int .i64 0) (.int .i64 0))
        have KL := Lib.hid ((HLC.out.sets_box HR.out (.slice a1 d.S.length c1) (.slice a2 d.P.length c2) (.int .i64 d.fuse) (.int .i64 d.ops) (.bool d.dead)).sets7i HJ3.out (.int .i64 0) (.int .i64 0) (.int .i64 0) (.int .i64 0) (.int .i64 0) (.int .i64 0) (.int .i64 0))
        have KB := Lib.hid (below_sets7 (below_sets HB.out (w.heap.size + 3) (by omega) (.slice a1 d.S.length c1) (.slice a2 d.P.length c2) (.int .i64 d.fuse) (.int .i64 d.ops) (.bool d.dead)) (w.heap.size + 4) (by omega) (.int .i64 0) (.int .i64 0) (.int .i64 0) (.int .i64 0) (.int .i64 0) (.int .i64 0) (.int .i64 0))
        go_wp2
        have k0 := KR.out.cell 0
        have k1 := KR.out.cell 1
        have k2 := KR.out.cell 2
        have k3 := KR.out.cell 3
        have k4 := KR.out.cell 4
        have m0 := KJ.out.cell 0
        have m1 := KJ.out.cell 1
        have m2 := KJ.out.cell 2
        have m3 := KJ.out.cell 3
        have m4 := KJ.out.cell 4
        have m5 := KJ.out.cell 5
        have m6 := KJ.out.cell 6
        simp only [List.getElem?_toArray, List.getElem?_cons_zero, List.getElem?_cons_succ] at k0 k1 k2 k3 k4 m0 m1 m2 m3 m4 m5 m6
        refine bodyPost_ret (v := .tuple #[.agg #[.slice a1 d.S.length c1, .slice a2 d.P.length c2, .int .i64 d.fuse, .int .i64 d.ops, .bool d.dead], .agg #[.int .i64 0, .int .i64 0, .int .i64 0, .int .i64 0, .int .i64 0, .int .i64 0, .int .i64 0], .int .i64 2]) (by simp [results, Try.results45, go_sem, k0, k1, k2, k3, k4, m0, m1, m2, m3, m4, m5, m6]) rfl ?_
        exact APost.mk (d, j0, 2) a1 c1 a2 c2 rfl KL.out KB.out HRES.out
      by_cases hg : j.x.g = 1099511627776
      · have tm : (j.x.g == 1099511627776) = true := by rw [hg]; rfl
        have HGM := Lib.hid hg; clear hg
        have hres : resW d j l p = (d, j0, 2) := resE_lim HRA.out (.inr HGM.out)
        have HRES := Lib.hid hres; clear hres
        have x0 : w2.cell? ⟨w.heap.size, 0, none⟩ = some (.slice sa d.S.length sc) := HX.out.cell 0
        have x1 : w2.cell? ⟨w.heap.size, 1, none⟩ = some (.slice pa d.P.length pc) := HX.out.cell 1
        have x2 : w2.cell? ⟨w.heap.size, 2, none⟩ = some (.int .i64 d.fuse) := HX.out.cell 2
        have x3 : w2.cell? ⟨w.heap.size, 3, none⟩ = some (.int .i64 d.ops) := HX.out.cell 3
        have x4 : w2.cell? ⟨w.heap.size, 4, none⟩ = some (.bool d.dead) := HX.out.cell 4
        have zcl : d.P.length ≤ 9000000000000 := by omega
        go_wp2_with fail
        refine (clone_w _ _ _ _ d _ HD.out).mono ?_
        rintro er wc ⟨a1, c1, a2, c2, rfl, hO1, hb1⟩
        clear x0 x1 x2 x3 x4
        have HLC := Lib.hid (hO1.lists (d := d) zcl hszS); clear hO1
        have HR := Lib.hid (HR.out.call hb1)
        have HJ2 := Lib.hid (HJ2.out.call hb1)
        have HB := Lib.hid (btrans HB.out HB.out.size hb1); clear hb1
        have zj := HJ2.out.lt
        have r0 : wc.cell? ⟨(w.heap.size + 3), 0, none⟩ = some (.slice none 0 0) := HR.out.cell 0
        have r1 : wc.cell? ⟨(w.heap.size + 3), 1, none⟩ = some (.slice none 0 0) := HR.out.cell 1
        have r2 : wc.cell? ⟨(w.heap.size + 3), 2, none⟩ = some (.int .i64 0) := HR.out.cell 2
        have r3 : wc.cell? ⟨(w.heap.size + 3), 3, none⟩ = some (.int .i64 0) := HR.out.cell 3
        have r4 : wc.cell? ⟨(w.heap.size + 3), 4, none⟩ = some (.bool false) := HR.out.cell 4
        have q0 : wc.cell? ⟨(w.heap.size + 4), 0, none⟩ = some (.int .i64 0) := HJ2.out.cell 0
        have q1 : wc.cell? ⟨(w.heap.size + 4), 1, none⟩ = some (.int .i64 0) := HJ2.out.cell 1
        have q2 : wc.cell? ⟨(w.heap.size + 4), 2, none⟩ = some (.int .i64 0) := HJ2.out.cell 2
        have q3 : wc.cell? ⟨(w.heap.size + 4), 3, none⟩ = some (.int .i64 0) := HJ2.out.cell 3
        have q4 : wc.cell? ⟨(w.heap.size + 4), 4, none⟩ = some (.int .i64 0) := HJ2.out.cell 4
        have q5 : wc.cell? ⟨(w.heap.size + 4), 5, none⟩ = some (.int .i64 0) := HJ2.out.cell 5
        have q6 : wc.cell? ⟨(w.heap.size + 4), 6, none⟩ = some (.int .i64 0) := HJ2.out.cell 6
        have f0 := HR.out.free 0
        have f1 := HR.out.free 1
        have f2 := HR.out.free 2
        have f3 := HR.out.free 3
        have f4 := HR.out.free 4
        have p0 := HJ2.out.free 0
        have p1 := HJ2.out.free 1
        have p2 := HJ2.out.free 2
        have p3 := HJ2.out.free 3
        have p4 := HJ2.out.free 4
        have p5 := HJ2.out.free 5
        have p6 := HJ2.out.free 6
        have HJ3 := Lib.hid (HJ2.out.sets_ne (c := w.heap.size + 3) (by omega) (.slice a1 d.S.length c1) (.slice a2 d.P.length c2) (.int .i64 d.fuse) (.int .i64 d.ops) (.bool d.dead))
        have KR := Lib.hid ((HR.out.sets (.slice a1 d.S.length c1) (.slice a2 d.P.length c2) (.int .i64 d.fuse) (.int .i64 d.ops) (.bool d.dead)).sets7_ne (c := w.heap.size + 4) (by omega) (.int .i64 0) (.int .i64 0) (.int .i64 0) (.int .i64 0) (.int .i64 0) (.int .i64 0) (.int .i64 0))
        have KJ := Lib.hid (HJ3.out.sets7 (.int .i64 0) (.int .i64 0) (.int .i64 0) (.int .i64 0) (.int .i64 0) (.int .i64 0) (.int .i64 0))
        have KL := Lib.hid ((HLC.out.sets_box HR.out (.slice a1 d.S.length c1) (.slice a2 d.P.length c2) (.int .i64 d.fuse) (.int .i64 d.ops) (.bool d.dead)).sets7i HJ3.out (.int .i64 0) (.int .i64 0) (.int .i64 0) (.int .i64 0) (.int .i64 0) (.int .i64 0) (.int .i64 0))
        have KB := Lib.hid (below_sets7 (below_sets HB.out (w.heap.size + 3) (by omega) (.slice a1 d.S.length c1) (.slice a2 d.P.length c2) (.int .i64 d.fuse) (.int .i64 d.ops) (.bool d.dead)) (w.heap.size + 4) (by omega) (.int .i64 0) (.int .i64 0) (.int .i64 0) (.int .i64 0) (.int .i64 0) (.int .i64 0) (.int .i64 0))
        go_wp2
        have k0 := KR.out.cell 0
        have k1 := KR.out.cell 1
        have k2 := KR.out.cell 2
        have k3 := KR.out.cell 3
        have k4 := KR.out.cell 4
        have m0 := KJ.out.cell 0
        have m1 := KJ.out.cell 1
        have m2 := KJ.out.cell 2
        have m3 := KJ.out.cell 3
        have m4 := KJ.out.cell 4
        have m5 := KJ.out.cell 5
        have m6 := KJ.out.cell 6
        simp only [List.getElem?_toArray, List.getElem?_cons_zero, List.getElem?_cons_succ] at k0 k1 k2 k3 k4 m0 m1 m2 m3 m4 m5 m6
        refine bodyPost_ret (v := .tuple #[.agg #[.slice a1 d.S.length c1, .slice a2 d.P.length c2, .int .i64 d.fuse, .int .i64 d.ops, .bool d.dead], .agg #[.int .i64 0, .int .i64 0, .int .i64 0, .int .i64 0, .int .i64 0, .int .i64 0, .int .i64 0], .int .i64 2]) (by simp [results, Try.results45, go_sem, k0, k1, k2, k3, k4, m0, m1, m2, m3, m4, m5, m6]) rfl ?_
        exact APost.mk (d, j0, 2) a1 c1 a2 c2 rfl KL.out KB.out HRES.out
      have tm : (j.x.g == 1099511627776) = false := by rw [beq_eq_false_iff_ne]; exact hg
      have hlim : ¬ (16384 < l.length ∨ j.x.g = 1099511627776) := by omega
      have HLIM := Lib.hid hlim; clear hlim
      obtain ⟨hsx, jn0, jn1, jr0, jr1⟩ := jB_bounds HV.out HJB.out
      obtain ⟨xg1, xg2, _⟩ := spB_bounds hsx
      have xg3 : j.x.g + 1 ≤ 1099511627776 := by omega
      clear hsx hg
      obtain ⟨_, za2, _, za4, _⟩ := arN_bounds HV.out
      have zj2 := HJ2.out.lt
      have hal := (Below.refl w2.heap.size w2).alloc (Nat.le_refl _) (.cells #[.int .i64 (j.x.g + 1)] 2)
      have HG := Lib.hid (Bx.new w2 #[.int .i64 (j.x.g + 1)] 2)
      have HX := Lib.hid (HX.out.call hal)
      have HJ := Lib.hid (HJ.out.call hal)
      have HL := Lib.hid (HL.out.call hal)
      have HR := Lib.hid (HR.out.call hal)
      have HJ2 := Lib.hid (HJ2.out.call hal)
      have HD := Lib.hid (HD.out.below hal)
      have HB := Lib.hid (btrans HB.out HB.out.size hal); clear hal
      go_upto_region 6 with (fail)
      clear y0 l0
      generalize hW : w2.alloc (.cells #[.int .i64 (j.x.g + 1)] 2) = v2 at HX HJ HL HR HJ2 HD HB HG ⊢
      clear hW
      have zg := HG.out.lt
      have x0 : v2.cell? ⟨w.heap.size, 0, none⟩ = some (.slice sa d.S.length sc) := HX.out.cell 0
      have x1 : v2.cell? ⟨w.heap.size, 1, none⟩ = some (.slice pa d.P.length pc) := HX.out.cell 1
      have x2 : v2.cell? ⟨w.heap.size, 2, none⟩ = some (.int .i64 d.fuse) := HX.out.cell 2
      have x3 : v2.cell? ⟨w.heap.size, 3, none⟩ = some (.int .i64 d.ops) := HX.out.cell 3
      have x4 : v2.cell? ⟨w.heap.size, 4, none⟩ = some (.bool d.dead) := HX.out.cell 4
      go_wp2_with fail
      refine (Areas_any _ _ _ _ d _ HD.out).mono ?_
      rw [areas_ok HV.out]
      rintro er w3 ⟨rfl, hb1⟩
      clear x0 x1 x2 x3 x4
      have HX := Lib.hid (HX.out.call hb1)
      have HJ := Lib.hid (HJ.out.call hb1)
      have HL := Lib.hid (HL.out.call hb1)
      have HR := Lib.hid (HR.out.call hb1)
      have HJ2 := Lib.hid (HJ2.out.call hb1)
      have HG := Lib.hid (HG.out.call hb1)
      have HD := Lib.hid (HD.out.below hb1)
      have HB := Lib.hid (btrans HB.out HB.out.size hb1); clear hb1
      have zg3 := HG.out.lt
      have hal := (Below.refl w3.heap.size w3).alloc (Nat.le_refl _) (.cells #[.int .i64 (arN d : Int)] 3)
      have HA := Lib.hid (Bx.new w3 #[.int .i64 (arN d : Int)] 3)
      have HX := Lib.hid (HX.out.call hal)
      have HJ := Lib.hid (HJ.out.call hal)
      have HL := Lib.hid (HL.out.call hal)
      have HR := Lib.hid (HR.out.call hal)
      have HJ2 := Lib.hid (HJ2.out.call hal)
      have HG := Lib.hid (HG.out.call hal)
      have HD := Lib.hid (HD.out.below hal)
      have HB := Lib.hid (btrans HB.out HB.out.size hal); clear hal
      go_upto_region 7 with (fail)
      generalize hW : w3.alloc (.cells #[.int .i64 (arN d : Int)] 3) = v3 at HX HJ HL HR HJ2 HD HB HG HA ⊢
      clear hW
      have za := HA.out.lt
      obtain ⟨⟨SL, es⟩, hsp⟩ : ∃ r, splitS (j.x.g + 1) l = r := ⟨_, rfl⟩
      have HSP := Lib.hid hsp; have hsl := split_len (j.x.g + 1) l
      rw [hsp] at hsl
      simp only at hsl
      clear hsp
      have g0 : v3.cell? ⟨w2.heap.size, 0, none⟩ = some (.int .i64 (j.x.g + 1)) := HG.out.cell 0
      have l0 : v3.cell? ⟨w.heap.size + 2, 0, none⟩ = some (.string (bs l)) := HL.out.cell 0
      go_wp2_with fail
      refine (Split_any _ l _ hl).mono ?_
      rw [HSP.out]
      rintro er w4 ⟨v, rfl, hown, hb1⟩
      clear g0 l0
      obtain ⟨pa2, pc2, rfl⟩ := own_slice hown
      clear hown
      have HX := Lib.hid (HX.out.call hb1)
      have HJ := Lib.hid (HJ.out.call hb1)
      have HL := Lib.hid (HL.out.call hb1)
      have HR := Lib.hid (HR.out.call hb1)
      have HJ2 := Lib.hid (HJ2.out.call hb1)
      have HG := Lib.hid (HG.out.call hb1)
      have HA := Lib.hid (HA.out.call hb1)
      have HD := Lib.hid (HD.out.below hb1)
      have HB := Lib.hid (btrans HB.out HB.out.size hb1); clear hb1
      by_cases he : es = 0
      rotate_left
      · have te : (es != 0) = true := by rw [bne_iff_ne]; exact he
        have HE := Lib.hid he; clear he
        have hres : resW d j l p = (d, j0, es) := resE_split HRA.out HLIM.out HSP.out HE.out
        have HRES := Lib.hid hres; clear hres
        have x0 : w4.cell? ⟨w.heap.size, 0, none⟩ = some (.slice sa d.S.length sc) := HX.out.cell 0
        have x1 : w4.cell? ⟨w.heap.size, 1, none⟩ = some (.slice pa d.P.length pc) := HX.out.cell 1
        have x2 : w4.cell? ⟨w.heap.size, 2, none⟩ = some (.int .i64 d.fuse) := HX.out.cell 2
        have x3 : w4.cell? ⟨w.heap.size, 3, none⟩ = some (.int .i64 d.ops) := HX.out.cell 3
        have x4 : w4.cell? ⟨w.heap.size, 4, none⟩ = some (.bool d.dead) := HX.out.cell 4
        have zcl : d.P.length ≤ 9000000000000 := by omega
        go_wp2_with fail
        refine (clone_w _ _ _ _ d _ HD.out).mono ?_
        rintro er wc ⟨a1, c1, a2, c2, rfl, hO1, hb1⟩
        clear x0 x1 x2 x3 x4
        have HLC := Lib.hid (hO1.lists (d := d) zcl hszS); clear hO1
        have HR := Lib.hid (HR.out.call hb1)
        have HJ2 := Lib.hid (HJ2.out.call hb1)
        have HB := Lib.hid (btrans HB.out HB.out.size hb1); clear hb1
        have zj := HJ2.out.lt
        have r0 : wc.cell? ⟨(w.heap.size + 3), 0, none⟩ = some (.slice none 0 0) := HR.out.cell 0
        have r1 : wc.cell? ⟨(w.heap.size + 3), 1, none⟩ = some (.slice none 0 0) := HR.out.cell 1
        have r2 : wc.cell? ⟨(w.heap.size + 3), 2, none⟩ = some (.int .i64 0) := HR.out.cell 2
        have r3 : wc.cell? ⟨(w.heap.size + 3), 3, none⟩ = some (.int .i64 0) := HR.out.cell 3
        have r4 : wc.cell? ⟨(w.heap.size + 3), 4, none⟩ = some (.bool false) := HR.out.cell 4
        have q0 : wc.cell? ⟨(w.heap.size + 4), 0, none⟩ = some (.int .i64 0) := HJ2.out.cell 0
        have q1 : wc.cell? ⟨(w.heap.size + 4), 1, none⟩ = some (.int .i64 0) := HJ2.out.cell 1
        have q2 : wc.cell? ⟨(w.heap.size + 4), 2, none⟩ = some (.int .i64 0) := HJ2.out.cell 2
        have q3 : wc.cell? ⟨(w.heap.size + 4), 3, none⟩ = some (.int .i64 0) := HJ2.out.cell 3
        have q4 : wc.cell? ⟨(w.heap.size + 4), 4, none⟩ = some (.int .i64 0) := HJ2.out.cell 4
        have q5 : wc.cell? ⟨(w.heap.size + 4), 5, none⟩ = some (.int .i64 0) := HJ2.out.cell 5
        have q6 : wc.cell? ⟨(w.heap.size + 4), 6, none⟩ = some (.int .i64 0) := HJ2.out.cell 6
        have f0 := HR.out.free 0
        have f1 := HR.out.free 1
        have f2 := HR.out.free 2
        have f3 := HR.out.free 3
        have f4 := HR.out.free 4
        have p0 := HJ2.out.free 0
        have p1 := HJ2.out.free 1
        have p2 := HJ2.out.free 2
        have p3 := HJ2.out.free 3
        have p4 := HJ2.out.free 4
        have p5 := HJ2.out.free 5
        have p6 := HJ2.out.free 6
        have HJ3 := Lib.hid (HJ2.out.sets_ne (c := w.heap.size + 3) (by omega) (.slice a1 d.S.length c1) (.slice a2 d.P.length c2) (.int .i64 d.fuse) (.int .i64 d.ops) (.bool d.dead))
        have KR := Lib.hid ((HR.out.sets (.slice a1 d.S.length c1) (.slice a2 d.P.length c2) (.int .i64 d.fuse) (.int .i64 d.ops) (.bool d.dead)).sets7_ne (c := w.heap.size + 4) (by omega) (.int .i64 0) (.int .i64 0) (.int .i64 0) (.int .i64 0) (.int .i64 0) (.int .i64 0) (.int .i64 0))
        have KJ := Lib.hid (HJ3.out.sets7 (.int .i64 0) (.int .i64 0) (.int .i64 0) (.int .i64 0) (.int .i64 0) (.int .i64 0) (.int .i64 0))
        have KL := Lib.hid ((HLC.out.sets_box HR.out (.slice a1 d.S.length c1) (.slice a2 d.P.length c2) (.int .i64 d.fuse) (.int .i64 d.ops) (.bool d.dead)).sets7i HJ3.out (.int .i64 0) (.int .i64 0) (.int .i64 0) (.int .i64 0) (.int .i64 0) (.int .i64 0) (.int .i64 0))
        have KB := Lib.hid (below_sets7 (below_sets HB.out (w.heap.size + 3) (by omega) (.slice a1 d.S.length c1) (.slice a2 d.P.length c2) (.int .i64 d.fuse) (.int .i64 d.ops) (.bool d.dead)) (w.heap.size + 4) (by omega) (.int .i64 0) (.int .i64 0) (.int .i64 0) (.int .i64 0) (.int .i64 0) (.int .i64 0) (.int .i64 0))
        go_wp2
        have k0 := KR.out.cell 0
        have k1 := KR.out.cell 1
        have k2 := KR.out.cell 2
        have k3 := KR.out.cell 3
        have k4 := KR.out.cell 4
        have m0 := KJ.out.cell 0
        have m1 := KJ.out.cell 1
        have m2 := KJ.out.cell 2
        have m3 := KJ.out.cell 3
        have m4 := KJ.out.cell 4
        have m5 := KJ.out.cell 5
        have m6 := KJ.out.cell 6
        simp only [List.getElem?_toArray, List.getElem?_cons_zero, List.getElem?_cons_succ] at k0 k1 k2 k3 k4 m0 m1 m2 m3 m4 m5 m6
        refine bodyPost_ret (v := .tuple #[.agg #[.slice a1 d.S.length c1, .slice a2 d.P.length c2, .int .i64 d.fuse, .int .i64 d.ops, .bool d.dead], .agg #[.int .i64 0, .int .i64 0, .int .i64 0, .int .i64 0, .int .i64 0, .int .i64 0, .int .i64 0], .int .i64 es]) (by simp [results, Try.results45, go_sem, k0, k1, k2, k3, k4, m0, m1, m2, m3, m4, m5, m6]) rfl ?_
        exact APost.mk (d, j0, es) a1 c1 a2 c2 rfl KL.out KB.out HRES.out
      subst he
      have a0 : w4.cell? ⟨w3.heap.size, 0, none⟩ = some (.int .i64 (arN d : Int)) := HA.out.cell 0
      by_cases hf : (arN d : Int) < (SL.length : Int)
      · skip
        have hres : resW d j l p = (d, j0, 17) := resE_full HRA.out HLIM.out HSP.out (by omega)
        have HRES := Lib.hid hres; clear hres
        have x0 : w4.cell? ⟨w.heap.size, 0, none⟩ = some (.slice sa d.S.length sc) := HX.out.cell 0
        have x1 : w4.cell? ⟨w.heap.size, 1, none⟩ = some (.slice pa d.P.length pc) := HX.out.cell 1
        have x2 : w4.cell? ⟨w.heap.size, 2, none⟩ = some (.int .i64 d.fuse) := HX.out.cell 2
        have x3 : w4.cell? ⟨w.heap.size, 3, none⟩ = some (.int .i64 d.ops) := HX.out.cell 3
        have x4 : w4.cell? ⟨w.heap.size, 4, none⟩ = some (.bool d.dead) := HX.out.cell 4
        have zcl : d.P.length ≤ 9000000000000 := by omega
        go_wp2_with fail
        refine (clone_w _ _ _ _ d _ HD.out).mono ?_
        rintro er wc ⟨a1, c1, a2, c2, rfl, hO1, hb1⟩
        clear x0 x1 x2 x3 x4
        have HLC := Lib.hid (hO1.lists (d := d) zcl hszS); clear hO1
        have HR := Lib.hid (HR.out.call hb1)
        have HJ2 := Lib.hid (HJ2.out.call hb1)
        have HB := Lib.hid (btrans HB.out HB.out.size hb1); clear hb1
        have zj := HJ2.out.lt
        have r0 : wc.cell? ⟨(w.heap.size + 3), 0, none⟩ = some (.slice none 0 0) := HR.out.cell 0
        have r1 : wc.cell? ⟨(w.heap.size + 3), 1, none⟩ = some (.slice none 0 0) := HR.out.cell 1
        have r2 : wc.cell? ⟨(w.heap.size + 3), 2, none⟩ = some (.int .i64 0) := HR.out.cell 2
        have r3 : wc.cell? ⟨(w.heap.size + 3), 3, none⟩ = some (.int .i64 0) := HR.out.cell 3
        have r4 : wc.cell? ⟨(w.heap.size + 3), 4, none⟩ = some (.bool false) := HR.out.cell 4
        have q0 : wc.cell? ⟨(w.heap.size + 4), 0, none⟩ = some (.int .i64 0) := HJ2.out.cell 0
        have q1 : wc.cell? ⟨(w.heap.size + 4), 1, none⟩ = some (.int .i64 0) := HJ2.out.cell 1
        have q2 : wc.cell? ⟨(w.heap.size + 4), 2, none⟩ = some (.int .i64 0) := HJ2.out.cell 2
        have q3 : wc.cell? ⟨(w.heap.size + 4), 3, none⟩ = some (.int .i64 0) := HJ2.out.cell 3
        have q4 : wc.cell? ⟨(w.heap.size + 4), 4, none⟩ = some (.int .i64 0) := HJ2.out.cell 4
        have q5 : wc.cell? ⟨(w.heap.size + 4), 5, none⟩ = some (.int .i64 0) := HJ2.out.cell 5
        have q6 : wc.cell? ⟨(w.heap.size + 4), 6, none⟩ = some (.int .i64 0) := HJ2.out.cell 6
        have f0 := HR.out.free 0
        have f1 := HR.out.free 1
        have f2 := HR.out.free 2
        have f3 := HR.out.free 3
        have f4 := HR.out.free 4
        have p0 := HJ2.out.free 0
        have p1 := HJ2.out.free 1
        have p2 := HJ2.out.free 2
        have p3 := HJ2.out.free 3
        have p4 := HJ2.out.free 4
        have p5 := HJ2.out.free 5
        have p6 := HJ2.out.free 6
        have HJ3 := Lib.hid (HJ2.out.sets_ne (c := w.heap.size + 3) (by omega) (.slice a1 d.S.length c1) (.slice a2 d.P.length c2) (.int .i64 d.fuse) (.int .i64 d.ops) (.bool d.dead))
        have KR := Lib.hid ((HR.out.sets (.slice a1 d.S.length c1) (.slice a2 d.P.length c2) (.int .i64 d.fuse) (.int .i64 d.ops) (.bool d.dead)).sets7_ne (c := w.heap.size + 4) (by omega) (.int .i64 0) (.int .i64 0) (.int .i64 0) (.int .i64 0) (.int .i64 0) (.int .i64 0) (.int .i64 0))
        have KJ := Lib.hid (HJ3.out.sets7 (.int .i64 0) (.int .i64 0) (.int .i64 0) (.int .i64 0) (.int .i64 0) (.int .i64 0) (.int .i64 0))
        have KL := Lib.hid ((HLC.out.sets_box HR.out (.slice a1 d.S.length c1) (.slice a2 d.P.length c2) (.int .i64 d.fuse) (.int .i64 d.ops) (.bool d.dead)).sets7i HJ3.out (.int .i64 0) (.int .i64 0) (.int .i64 0) (.int .i64 0) (.int .i64 0) (.int .i64 0) (.int .i64 0))
        have KB := Lib.hid (below_sets7 (below_sets HB.out (w.heap.size + 3) (by omega) (.slice a1 d.S.length c1) (.slice a2 d.P.length c2) (.int .i64 d.fuse) (.int .i64 d.ops) (.bool d.dead)) (w.heap.size + 4) (by omega) (.int .i64 0) (.int .i64 0) (.int .i64 0) (.int .i64 0) (.int .i64 0) (.int .i64 0) (.int .i64 0))
        go_wp2
        have k0 := KR.out.cell 0
        have k1 := KR.out.cell 1
        have k2 := KR.out.cell 2
        have k3 := KR.out.cell 3
        have k4 := KR.out.cell 4
        have m0 := KJ.out.cell 0
        have m1 := KJ.out.cell 1
        have m2 := KJ.out.cell 2
        have m3 := KJ.out.cell 3
        have m4 := KJ.out.cell 4
        have m5 := KJ.out.cell 5
        have m6 := KJ.out.cell 6
        simp only [List.getElem?_toArray, List.getElem?_cons_zero, List.getElem?_cons_succ] at k0 k1 k2 k3 k4 m0 m1 m2 m3 m4 m5 m6
        refine bodyPost_ret (v := .tuple #[.agg #[.slice a1 d.S.length c1, .slice a2 d.P.length c2, .int .i64 d.fuse, .int .i64 d.ops, .bool d.dead], .agg #[.int .i64 0, .int .i64 0, .int .i64 0, .int .i64 0, .int .i64 0, .int .i64 0, .int .i64 0], .int .i64 17]) (by simp [results, Try.results45, go_sem, k0, k1, k2, k3, k4, m0, m1, m2, m3, m4, m5, m6]) rfl ?_
        exact APost.mk (d, j0, 17) a1 c1 a2 c2 rfl KL.out KB.out HRES.out
      have zj4 := HJ2.out.lt; have zg4 := HG.out.lt; have za4b := HA.out.lt
      have hal := (Below.refl w4.heap.size w4).alloc (Nat.le_refl _) (.cells #[.int .i64 1] 3)
      have HAR := Lib.hid (Bx.new w4 #[.int .i64 1] 3)
      have HX := Lib.hid (HX.out.call hal)
      have HJ := Lib.hid (HJ.out.call hal)
      have HL := Lib.hid (HL.out.call hal)
      have HR := Lib.hid (HR.out.call hal)
      have HJ2 := Lib.hid (HJ2.out.call hal)
      have HG := Lib.hid (HG.out.call hal)
      have HA := Lib.hid (HA.out.call hal)
      have HD := Lib.hid (HD.out.below hal)
      have HB := Lib.hid (btrans HB.out HB.out.size hal); clear hal
      go_upto_region 13 with (fail)
      clear a0
      generalize hW : w4.alloc (.cells #[.int .i64 1] 3) = v4 at HX HJ HL HR HJ2 HD HB HG HA HAR ⊢
      clear hW
      obtain ⟨t, ht⟩ : ∃ t : Bool, (j.x.a == 1) = t := ⟨_, rfl⟩
      have y2 : v4.cell? ⟨w.heap.size + 1, 2, none⟩ = some (.int .i64 j.x.a) := HJ.out.cell 2
      go_upto_if 89 with (fail)
      clear y2
      have HTT := Lib.hid ht; clear ht
      go_cut [17] from 21 to 116 (fun s17 W => s17 = .pointer (some ⟨w4.heap.size, 0, none⟩) ∧ Bx w4.heap.size #[.int .i64 (otherA j.x)] 3 W ∧ KpB w4.heap.size v4 W)
      case first =>
        cases t with
        | false =>
          have hoa : otherA j.x = 1 := by have h := HTT.out; unfold otherA; rw [if_neg (by simpa using h)]
          have HOA := Lib.hid hoa; clear hoa
          go_wp2_with fail
          go_meet
          exact ⟨rfl, by rw [HOA.out]; exact HAR.out, KpB.refl _ _⟩
        | true =>
          have hoa : otherA j.x = 2 := by have h := HTT.out; unfold otherA; rw [if_pos (by simpa using h)]
          have HOA := Lib.hid hoa; clear hoa
          have r0 : v4.cell? ⟨w4.heap.size, 0, none⟩ = some (.int .i64 1) := HAR.out.cell 0
          have f0 := HAR.out.free 0
          go_wp2_with fail
          go_meet
          exact ⟨rfl, by rw [HOA.out]; exact HAR.out.set 0 _, (KpB.refl _ _).set 0 _⟩
      case rest =>
        obtain ⟨rfl, h1, h2⟩ := hcut
        have HX := Lib.hid (h2.bx HX.out (by omega))
        have HJ := Lib.hid (h2.bx HJ.out (by omega))
        have HL := Lib.hid (h2.bx HL.out (by omega))
        have HR := Lib.hid (h2.bx HR.out (by omega))
        have HJ2 := Lib.hid (h2.bx HJ2.out (by omega))
        have HG := Lib.hid (h2.bx HG.out (by omega))
        have HA := Lib.hid (h2.bx HA.out (by omega))
        have HD := Lib.hid (h2.lists1 HD.out HAR.out); have HB := Lib.hid (h2.out HB.out (by omega)); have HAR := Lib.hid h1; clear h1 h2
        have zr := HAR.out.lt
        have hoa : 1 ≤ otherA j.x ∧ otherA j.x ≤ 2 := by unfold otherA; split <;> decide
        have HOA := Lib.hid hoa; clear hoa
        have g0 : wc.cell? ⟨w2.heap.size, 0, none⟩ = some (.int .i64 (j.x.g + 1)) := HG.out.cell 0
        have r0 : wc.cell? ⟨w4.heap.size, 0, none⟩ = some (.int .i64 (otherA j.x)) := HAR.out.cell 0
        have l0 : wc.cell? ⟨w.heap.size + 2, 0, none⟩ = some (.string (bs l)) := HL.out.cell 0
        have hal := (Below.refl wc.heap.size wc).alloc (Nat.le_refl _) (.cells #[.int .i64 (j.x.g + 1), .int .i64 (j.x.g + 1), .int .i64 (otherA j.x), .int .i64 (l.length : Int), .int .i64 p] 23)
        have HXB := Lib.hid (Bx.new wc #[.int .i64 (j.x.g + 1), .int .i64 (j.x.g + 1), .int .i64 (otherA j.x), .int .i64 (l.length : Int), .int .i64 p] 23)
        have HX := Lib.hid (HX.out.call hal)
        have HJ := Lib.hid (HJ.out.call hal)
        have HL := Lib.hid (HL.out.call hal)
        have HR := Lib.hid (HR.out.call hal)
        have HJ2 := Lib.hid (HJ2.out.call hal)
        have HG := Lib.hid (HG.out.call hal)
        have HA := Lib.hid (HA.out.call hal)
        have HAR := Lib.hid (HAR.out.call hal)
        have HD := Lib.hid (HD.out.below hal)
        have HB := Lib.hid (btrans HB.out HB.out.size hal); clear hal
        go_upto_region 16 with (fail)
        clear g0 r0 l0
        generalize hW : wc.alloc (.cells #[.int .i64 (j.x.g + 1), .int .i64 (j.x.g + 1), .int .i64 (otherA j.x), .int .i64 (l.length : Int), .int .i64 p] 23) = v5 at HX HJ HL HR HJ2 HD HB HG HA HAR HXB ⊢
        clear hW
        have zx := HXB.out.lt
        have x0 : v5.cell? ⟨w.heap.size, 0, none⟩ = some (.slice sa d.S.length sc) := HX.out.cell 0
        have x1 : v5.cell? ⟨w.heap.size, 1, none⟩ = some (.slice pa d.P.length pc) := HX.out.cell 1
        have x2 : v5.cell? ⟨w.heap.size, 2, none⟩ = some (.int .i64 d.fuse) := HX.out.cell 2
        have x3 : v5.cell? ⟨w.heap.size, 3, none⟩ = some (.int .i64 d.ops) := HX.out.cell 3
        have x4 : v5.cell? ⟨w.heap.size, 4, none⟩ = some (.bool d.dead) := HX.out.cell 4
        have hal := ((Below.refl v5.heap.size v5).alloc (Nat.le_refl _) (.cells #[.slice sa d.S.length sc, .slice pa d.P.length pc, .int .i64 d.fuse, .int .i64 d.ops, .bool d.dead] 116)).alloc (by simp) (.cells #[.pointer (some ⟨v5.heap.size, 0, none⟩)] 114)
        have HW := Lib.hid ((Bx.new v5 #[.slice sa d.S.length sc, .slice pa d.P.length pc, .int .i64 d.fuse, .int .i64 d.ops, .bool d.dead] 116).alloc (.cells #[.pointer (some ⟨v5.heap.size, 0, none⟩)] 114))
        have HV2 := Lib.hid (Bx.new1 v5 (.cells #[.slice sa d.S.length sc, .slice pa d.P.length pc, .int .i64 d.fuse, .int .i64 d.ops, .bool d.dead] 116) #[.pointer (some ⟨v5.heap.size, 0, none⟩)] 114)
        have HX := Lib.hid (HX.out.call hal)
        have HJ := Lib.hid (HJ.out.call hal)
        have HL := Lib.hid (HL.out.call hal)
        have HR := Lib.hid (HR.out.call hal)
        have HJ2 := Lib.hid (HJ2.out.call hal)
        have HG := Lib.hid (HG.out.call hal)
        have HA := Lib.hid (HA.out.call hal)
        have HAR := Lib.hid (HAR.out.call hal)
        have HXB := Lib.hid (HXB.out.call hal)
        have HD := Lib.hid (HD.out.below hal)
        have HB := Lib.hid (btrans HB.out HB.out.size hal); clear hal
        go_upto_region 17 with (fail)
        clear x0 x1 x2 x3 x4
        generalize hW : (v5.alloc (.cells #[.slice sa d.S.length sc, .slice pa d.P.length pc, .int .i64 d.fuse, .int .i64 d.ops, .bool d.dead] 116)).alloc (.cells #[.pointer (some ⟨v5.heap.size, 0, none⟩)] 114) = v6 at HX HJ HL HR HJ2 HD HB HG HA HAR HXB HW HV2 ⊢
        clear hW
        have zv := HV2.out.lt
        obtain ⟨r, hr⟩ : ∃ r, resQ SL d (2 + (otherA j.x - 1) * (arN d : Int)) (resX j l p) = r := ⟨_, rfl⟩
        have HRR := Lib.hid hr
        have hmf : ∀ (fn : Fn) (first cap : Array Value) (w : World), (Instr.makeFunc fn first cap).run Try.prog w = .ok (.func fn first cap) w := fun _ _ _ _ => rfl
        have v0c : v6.cell? ⟨v5.heap.size + 1, 0, none⟩ = some (.pointer (some ⟨v5.heap.size, 0, none⟩)) := HV2.out.cell 0
        have hal := (Below.refl v6.heap.size v6).alloc (Nat.le_refl _) (.cells #[.int .i64 0] 24)
        have hcl := res1_any (v5.heap.size + 1) w2.heap.size w4.heap.size w3.heap.size (w.heap.size + 2) wc.heap.size v5.heap.size sa pa sc pc d (resX j l p) (j.x.g + 1) (otherA j.x) (arN d : Int) l SL _ (HV2.out.call hal) (HG.out.call hal) (HAR.out.call hal) (HA.out.call hal) (HL.out.call hal) (HXB.out.call hal) (HW.out.call hal) (HD.out.below hal) hl HSP.out HOA.out.1 HOA.out.2 (by omega) (by omega) hp (by omega) (by omega)
        rw [hr] at hcl
        have HCL := Lib.hid hcl; clear hcl hal hr
        have zb3 := HW.out.lt
        go_wp2_with fail
        refine (run_any _ _ v5.heap.size r _ (fun w => by simp [go_sem]) zb3 HCL.out).mono ?_
        rintro er w7 ⟨a3, c3, a4, c4, rfl, hW4, hL4, hK4⟩
        clear v0c hmf HCL
        have HR := Lib.hid (hK4.bx HR.out (by omega))
        have HJ2 := Lib.hid (hK4.bx HJ2.out (by omega))
        have HV2 := Lib.hid (hK4.bx HV2.out (by omega))
        have HXB := Lib.hid (hK4.bx HXB.out (by omega))
        have HB := Lib.hid (hK4.out HB.out (by omega)); have HW := Lib.hid hW4; have HL4 := Lib.hid hL4
        have zs4 := hK4.size
        clear hW4 hL4 hK4 HX HL HD HG HA HAR HJ
        obtain ⟨rd, re⟩ := r
        have zj7 := HJ2.out.lt
        by_cases hfe : re = 0
        rotate_left
        · have tf : (re != 0) = true := by rw [bne_iff_ne]; exact hfe
          have HFE := Lib.hid hfe; clear hfe
          have hres : resW d j l p = (rd, j0, re) := by rw [resE_go HRA.out HLIM.out HSP.out (by omega) HRR.out, if_neg HFE.out]
          have HRES := Lib.hid hres; clear hres
          have n0 : w7.cell? ⟨v5.heap.size, 0, none⟩ = some (.slice a3 rd.S.length c3) := HW.out.cell 0
          have n1 : w7.cell? ⟨v5.heap.size, 1, none⟩ = some (.slice a4 rd.P.length c4) := HW.out.cell 1
          have n2 : w7.cell? ⟨v5.heap.size, 2, none⟩ = some (.int .i64 rd.fuse) := HW.out.cell 2
          have n3 : w7.cell? ⟨v5.heap.size, 3, none⟩ = some (.int .i64 rd.ops) := HW.out.cell 3
          have n4 : w7.cell? ⟨v5.heap.size, 4, none⟩ = some (.bool rd.dead) := HW.out.cell 4
          have v0c : w7.cell? ⟨v5.heap.size + 1, 0, none⟩ = some (.pointer (some ⟨v5.heap.size, 0, none⟩)) := HV2.out.cell 0
          have r0 : w7.cell? ⟨(w.heap.size + 3), 0, none⟩ = some (.slice none 0 0) := HR.out.cell 0
          have r1 : w7.cell? ⟨(w.heap.size + 3), 1, none⟩ = some (.slice none 0 0) := HR.out.cell 1
          have r2 : w7.cell? ⟨(w.heap.size + 3), 2, none⟩ = some (.int .i64 0) := HR.out.cell 2
          have r3 : w7.cell? ⟨(w.heap.size + 3), 3, none⟩ = some (.int .i64 0) := HR.out.cell 3
          have r4 : w7.cell? ⟨(w.heap.size + 3), 4, none⟩ = some (.bool false) := HR.out.cell 4
          have q0 : w7.cell? ⟨(w.heap.size + 4), 0, none⟩ = some (.int .i64 0) := HJ2.out.cell 0
          have q1 : w7.cell? ⟨(w.heap.size + 4), 1, none⟩ = some (.int .i64 0) := HJ2.out.cell 1
          have q2 : w7.cell? ⟨(w.heap.size + 4), 2, none⟩ = some (.int .i64 0) := HJ2.out.cell 2
          have q3 : w7.cell? ⟨(w.heap.size + 4), 3, none⟩ = some (.int .i64 0) := HJ2.out.cell 3
          have q4 : w7.cell? ⟨(w.heap.size + 4), 4, none⟩ = some (.int .i64 0) := HJ2.out.cell 4
          have q5 : w7.cell? ⟨(w.heap.size + 4), 5, none⟩ = some (.int .i64 0) := HJ2.out.cell 5
          have q6 : w7.cell? ⟨(w.heap.size + 4), 6, none⟩ = some (.int .i64 0) := HJ2.out.cell 6
          have f0 := HR.out.free 0
          have f1 := HR.out.free 1
          have f2 := HR.out.free 2
          have f3 := HR.out.free 3
          have f4 := HR.out.free 4
          have p0 := HJ2.out.free 0
          have p1 := HJ2.out.free 1
          have p2 := HJ2.out.free 2
          have p3 := HJ2.out.free 3
          have p4 := HJ2.out.free 4
          have p5 := HJ2.out.free 5
          have p6 := HJ2.out.free 6
          have HJ3 := Lib.hid (HJ2.out.sets_ne (c := w.heap.size + 3) (by omega) (.slice a3 rd.S.length c3) (.slice a4 rd.P.length c4) (.int .i64 rd.fuse) (.int .i64 rd.ops) (.bool rd.dead))
          have KR := Lib.hid ((HR.out.sets (.slice a3 rd.S.length c3) (.slice a4 rd.P.length c4) (.int .i64 rd.fuse) (.int .i64 rd.ops) (.bool rd.dead)).sets7_ne (c := w.heap.size + 4) (by omega) (.int .i64 0) (.int .i64 0) (.int .i64 0) (.int .i64 0) (.int .i64 0) (.int .i64 0) (.int .i64 0))
          have KJ := Lib.hid (HJ3.out.sets7 (.int .i64 0) (.int .i64 0) (.int .i64 0) (.int .i64 0) (.int .i64 0) (.int .i64 0) (.int .i64 0))
          have KL := Lib.hid ((HL4.out.sets_box HR.out (.slice a3 rd.S.length c3) (.slice a4 rd.P.length c4) (.int .i64 rd.fuse) (.int .i64 rd.ops) (.bool rd.dead)).sets7i HJ3.out (.int .i64 0) (.int .i64 0) (.int .i64 0) (.int .i64 0) (.int .i64 0) (.int .i64 0) (.int .i64 0))
          have KB := Lib.hid (below_sets7 (below_sets HB.out (w.heap.size + 3) (by omega) (.slice a3 rd.S.length c3) (.slice a4 rd.P.length c4) (.int .i64 rd.fuse) (.int .i64 rd.ops) (.bool rd.dead)) (w.heap.size + 4) (by omega) (.int .i64 0) (.int .i64 0) (.int .i64 0) (.int .i64 0) (.int .i64 0) (.int .i64 0) (.int .i64 0))
          go_wp2
          have k0 := KR.out.cell 0
          have k1 := KR.out.cell 1
          have k2 := KR.out.cell 2
          have k3 := KR.out.cell 3
          have k4 := KR.out.cell 4
          have m0 := KJ.out.cell 0
          have m1 := KJ.out.cell 1
          have m2 := KJ.out.cell 2
          have m3 := KJ.out.cell 3
          have m4 := KJ.out.cell 4
          have m5 := KJ.out.cell 5
          have m6 := KJ.out.cell 6
          simp only [List.getElem?_toArray, List.getElem?_cons_zero, List.getElem?_cons_succ] at k0 k1 k2 k3 k4 m0 m1 m2 m3 m4 m5 m6
          refine bodyPost_ret (v := .tuple #[.agg #[.slice a3 rd.S.length c3, .slice a4 rd.P.length c4, .int .i64 rd.fuse, .int .i64 rd.ops, .bool rd.dead], .agg #[.int .i64 0, .int .i64 0, .int .i64 0, .int .i64 0, .int .i64 0, .int .i64 0, .int .i64 0], .int .i64 re]) (by simp [results, Try.results45, go_sem, k0, k1, k2, k3, k4, m0, m1, m2, m3, m4, m5, m6]) rfl ?_
          exact APost.mk (rd, j0, re) a3 c3 a4 c4 rfl KL.out KB.out HRES.out
        subst hfe
        have hres : resW d j l p = (rd, ⟨resX j l p, 0, 0⟩, 0) := by rw [resE_go HRA.out HLIM.out HSP.out (by omega) HRR.out, if_pos rfl]
        have HRES := Lib.hid hres; clear hres
        have n0 : w7.cell? ⟨v5.heap.size, 0, none⟩ = some (.slice a3 rd.S.length c3) := HW.out.cell 0
        have n1 : w7.cell? ⟨v5.heap.size, 1, none⟩ = some (.slice a4 rd.P.length c4) := HW.out.cell 1
        have n2 : w7.cell? ⟨v5.heap.size, 2, none⟩ = some (.int .i64 rd.fuse) := HW.out.cell 2
        have n3 : w7.cell? ⟨v5.heap.size, 3, none⟩ = some (.int .i64 rd.ops) := HW.out.cell 3
        have n4 : w7.cell? ⟨v5.heap.size, 4, none⟩ = some (.bool rd.dead) := HW.out.cell 4
        have s0 : w7.cell? ⟨wc.heap.size, 0, none⟩ = some (.int .i64 (j.x.g + 1)) := HXB.out.cell 0
        have s1 : w7.cell? ⟨wc.heap.size, 1, none⟩ = some (.int .i64 (j.x.g + 1)) := HXB.out.cell 1
        have s2 : w7.cell? ⟨wc.heap.size, 2, none⟩ = some (.int .i64 (otherA j.x)) := HXB.out.cell 2
        have s3 : w7.cell? ⟨wc.heap.size, 3, none⟩ = some (.int .i64 (l.length : Int)) := HXB.out.cell 3
        have s4 : w7.cell? ⟨wc.heap.size, 4, none⟩ = some (.int .i64 p) := HXB.out.cell 4
        have v0c : w7.cell? ⟨v5.heap.size + 1, 0, none⟩ = some (.pointer (some ⟨v5.heap.size, 0, none⟩)) := HV2.out.cell 0
        have hsL : w7.drew.cell? ⟨(v5.heap.size), 0, none⟩ = some (.slice a3 rd.S.length c3) ∧ w7.drew.cell? ⟨(v5.heap.size), 1, none⟩ = some (.slice a4 rd.P.length c4) ∧ w7.drew.cell? ⟨(v5.heap.size), 2, none⟩ = some (.int .i64 rd.fuse) ∧ w7.drew.cell? ⟨(v5.heap.size), 3, none⟩ = some (.int .i64 rd.ops) ∧ w7.drew.cell? ⟨(v5.heap.size), 4, none⟩ = some (.bool rd.dead) ∧ w7.drew.cell? ⟨(wc.heap.size), 0, none⟩ = some (.int .i64 (j.x.g + 1)) ∧ w7.drew.cell? ⟨(wc.heap.size), 1, none⟩ = some (.int .i64 (j.x.g + 1)) ∧ w7.drew.cell? ⟨(wc.heap.size), 2, none⟩ = some (.int .i64 (otherA j.x)) ∧ w7.drew.cell? ⟨(wc.heap.size), 3, none⟩ = some (.int .i64 (l.length : Int)) ∧ w7.drew.cell? ⟨(wc.heap.size), 4, none⟩ = some (.int .i64 p) ∧ w7.drew.cell? ⟨(v5.heap.size + 1), 0, none⟩ = some (.pointer (some ⟨v5.heap.size, 0, none⟩)) := ⟨n0, n1, n2, n3, n4, s0, s1, s2, s3, s4, v0c⟩
        have HSL := Lib.hid hsL; clear hsL n0 n1 n2 n3 n4 s0 s1 s2 s3 s4 v0c
        go_wp2_with fail
        refine wp_region_held_drew (S := (fun w' => w'.cell? ⟨(v5.heap.size), 0, none⟩ = some (.slice a3 rd.S.length c3) ∧ w'.cell? ⟨(v5.heap.size), 1, none⟩ = some (.slice a4 rd.P.length c4) ∧ w'.cell? ⟨(v5.heap.size), 2, none⟩ = some (.int .i64 rd.fuse) ∧ w'.cell? ⟨(v5.heap.size), 3, none⟩ = some (.int .i64 rd.ops) ∧ w'.cell? ⟨(v5.heap.size), 4, none⟩ = some (.bool rd.dead) ∧ w'.cell? ⟨(wc.heap.size), 0, none⟩ = some (.int .i64 (j.x.g + 1)) ∧ w'.cell? ⟨(wc.heap.size), 1, none⟩ = some (.int .i64 (j.x.g + 1)) ∧ w'.cell? ⟨(wc.heap.size), 2, none⟩ = some (.int .i64 (otherA j.x)) ∧ w'.cell? ⟨(wc.heap.size), 3, none⟩ = some (.int .i64 (l.length : Int)) ∧ w'.cell? ⟨(wc.heap.size), 4, none⟩ = some (.int .i64 p) ∧ w'.cell? ⟨(v5.heap.size + 1), 0, none⟩ = some (.pointer (some ⟨v5.heap.size, 0, none⟩)))) (by kernel_rfl) ?_ (fun hHeld => ?_)
        · exact HSL.out
        refine takeH (i := 0) (v := ?vv1) 111 rfl rfl (by kernel_rfl) (by kernel_rfl) (by kernel_rfl) (fun _ _ _ h => h) (Or.inl ⟨by kernel_rfl, ?yy1⟩) (by assumption) ?_
        case yy1 => intro w hSw; (try dsimp only at hSw); go_simp; (try with_reducible rfl)
        simp only [List.setIfInBounds_toArray, List.set_cons_zero, List.set_cons_succ]
        refine takeH (i := 1) (v := ?vv2) 112 rfl rfl (by kernel_rfl) (by kernel_rfl) (by kernel_rfl) (fun _ _ _ h => h) (Or.inl ⟨by kernel_rfl, ?yy2⟩) (by assumption) ?_
        case yy2 => intro w hSw; (try dsimp only at hSw); go_simp; (try with_reducible rfl)
        simp only [List.setIfInBounds_toArray, List.set_cons_zero, List.set_cons_succ]
        refine takeH (i := 2) (v := ?vv3) 113 rfl rfl (by kernel_rfl) (by kernel_rfl) (by kernel_rfl) (fun _ _ _ h => h) (Or.inl ⟨by kernel_rfl, ?yy3⟩) (by assumption) ?_
        case yy3 => intro w hSw; (try dsimp only at hSw); go_simp; (try with_reducible rfl)
        simp only [List.setIfInBounds_toArray, List.set_cons_zero, List.set_cons_succ]
        refine takeH (i := 3) (v := ?vv4) 114 rfl rfl (by kernel_rfl) (by kernel_rfl) (by kernel_rfl) (fun _ _ _ h => h) (Or.inl ⟨by kernel_rfl, ?yy4⟩) (by assumption) ?_
        case yy4 => intro w hSw; (try dsimp only at hSw); go_simp; (try with_reducible rfl)
        simp only [List.setIfInBounds_toArray, List.set_cons_zero, List.set_cons_succ]
        refine takeH (i := 4) (v := ?vv5) 115 rfl rfl (by kernel_rfl) (by kernel_rfl) (by kernel_rfl) (fun _ _ _ h => h) (Or.inl ⟨by kernel_rfl, ?yy5⟩) (by assumption) ?_
        case yy5 => intro w hSw; (try dsimp only at hSw); go_simp; (try with_reducible rfl)
        simp only [List.setIfInBounds_toArray, List.set_cons_zero, List.set_cons_succ]
        refine takeH (i := 5) (v := ?vv6) 116 rfl rfl (by kernel_rfl) (by kernel_rfl) (by kernel_rfl) (fun _ _ _ h => h) (Or.inl ⟨by kernel_rfl, ?yy6⟩) (by assumption) ?_
        case yy6 => intro w hSw; (try dsimp only at hSw); go_simp; (try with_reducible rfl)
        simp only [List.setIfInBounds_toArray, List.set_cons_zero, List.set_cons_succ]
        refine wpAnyH_ready (rs := [6]) (by kernel_rfl) (by simp) ?_
        refine (AllReadyH.cons rfl (fun K hK => ?_) AllReadyH.nil)
        have r0 : w7.cell? ⟨(w.heap.size + 3), 0, none⟩ = some (.slice none 0 0) := HR.out.cell 0
        have r1 : w7.cell? ⟨(w.heap.size + 3), 1, none⟩ = some (.slice none 0 0) := HR.out.cell 1
        have r2 : w7.cell? ⟨(w.heap.size + 3), 2, none⟩ = some (.int .i64 0) := HR.out.cell 2
        have r3 : w7.cell? ⟨(w.heap.size + 3), 3, none⟩ = some (.int .i64 0) := HR.out.cell 3
        have r4 : w7.cell? ⟨(w.heap.size + 3), 4, none⟩ = some (.bool false) := HR.out.cell 4
        have f0 : w7.frozen? ⟨(w.heap.size + 3), 0, none⟩ = false := HR.out.free 0
        have f1 : w7.frozen? ⟨(w.heap.size + 3), 1, none⟩ = false := HR.out.free 1
        have f2 : w7.frozen? ⟨(w.heap.size + 3), 2, none⟩ = false := HR.out.free 2
        have f3 : w7.frozen? ⟨(w.heap.size + 3), 3, none⟩ = false := HR.out.free 3
        have f4 : w7.frozen? ⟨(w.heap.size + 3), 4, none⟩ = false := HR.out.free 4
        go_simp
        refine hK.out _ _ ?_ (fun hHeld => ?_)
        · exact wc_xxxxxyyyyyz_5 (W := w7) (by assumption) (w.heap.size + 3) (by omega) (by omega) (by omega) _ _ _ _ _
        clear hK K
        (try simp only [Act.put, List.setIfInBounds_toArray, List.set_cons_zero, List.set_cons_succ])
        clear r0 r1 r2 r3 r4
        clear f0 f1 f2 f3 f4
        have HRa := Lib.hid (HR.out.sets (.slice a3 rd.S.length c3) (.slice a4 rd.P.length c4) (.int .i64 rd.fuse) (.int .i64 rd.ops) (.bool rd.dead)); have HJa := Lib.hid (HJ2.out.sets_ne (c := w.heap.size + 3) (by omega) (.slice a3 rd.S.length c3) (.slice a4 rd.P.length c4) (.int .i64 rd.fuse) (.int .i64 rd.ops) (.bool rd.dead)); have HBa := Lib.hid (below_sets HB.out (w.heap.size + 3) (by omega) (.slice a3 rd.S.length c3) (.slice a4 rd.P.length c4) (.int .i64 rd.fuse) (.int .i64 rd.ops) (.bool rd.dead)); have HLa := Lib.hid (HL4.out.sets_box HR.out (.slice a3 rd.S.length c3) (.slice a4 rd.P.length c4) (.int .i64 rd.fuse) (.int .i64 rd.ops) (.bool rd.dead))
        generalize hWE : (((((w7.setCell ⟨(w.heap.size + 3), 0, none⟩ (.slice a3 rd.S.length c3)).setCell ⟨(w.heap.size + 3), 1, none⟩ (.slice a4 rd.P.length c4)).setCell ⟨(w.heap.size + 3), 2, none⟩ (.int .i64 rd.fuse)).setCell ⟨(w.heap.size + 3), 3, none⟩ (.int .i64 rd.ops)).setCell ⟨(w.heap.size + 3), 4, none⟩ (.bool rd.dead)) = WE at HRa HJa HBa HLa hHeld ⊢
        clear hWE
        refine wpAnyH_ready (rs := [7]) (by kernel_rfl) (by simp) ?_
        refine (AllReadyH.cons rfl (fun K hK => ?_) AllReadyH.nil)
        have q0 : WE.cell? ⟨(w.heap.size + 4), 0, none⟩ = some (.int .i64 0) := HJa.out.cell 0
        have q1 : WE.cell? ⟨(w.heap.size + 4), 1, none⟩ = some (.int .i64 0) := HJa.out.cell 1
        have q2 : WE.cell? ⟨(w.heap.size + 4), 2, none⟩ = some (.int .i64 0) := HJa.out.cell 2
        have q3 : WE.cell? ⟨(w.heap.size + 4), 3, none⟩ = some (.int .i64 0) := HJa.out.cell 3
        have q4 : WE.cell? ⟨(w.heap.size + 4), 4, none⟩ = some (.int .i64 0) := HJa.out.cell 4
        have q5 : WE.cell? ⟨(w.heap.size + 4), 5, none⟩ = some (.int .i64 0) := HJa.out.cell 5
        have q6 : WE.cell? ⟨(w.heap.size + 4), 6, none⟩ = some (.int .i64 0) := HJa.out.cell 6
        have p0 : WE.frozen? ⟨(w.heap.size + 4), 0, none⟩ = false := HJa.out.free 0
        have p1 : WE.frozen? ⟨(w.heap.size + 4), 1, none⟩ = false := HJa.out.free 1
        have p2 : WE.frozen? ⟨(w.heap.size + 4), 2, none⟩ = false := HJa.out.free 2
        have p3 : WE.frozen? ⟨(w.heap.size + 4), 3, none⟩ = false := HJa.out.free 3
        have p4 : WE.frozen? ⟨(w.heap.size + 4), 4, none⟩ = false := HJa.out.free 4
        have p5 : WE.frozen? ⟨(w.heap.size + 4), 5, none⟩ = false := HJa.out.free 5
        have p6 : WE.frozen? ⟨(w.heap.size + 4), 6, none⟩ = false := HJa.out.free 6
        go_simp
        refine hK.out _ _ ?_ (fun hHeld => ?_)
        · exact wc_xxxxxyyyyyz_7 (W := WE) (by assumption) (w.heap.size + 4) (by omega) (by omega) (by omega) _ _ _ _ _ _ _
        clear hK K
        (try simp only [Act.put, List.setIfInBounds_toArray, List.set_cons_zero, List.set_cons_succ])
        refine takeH (i := 8) (v := ?vv7) 10 rfl rfl (by kernel_rfl) (by kernel_rfl) (by kernel_rfl) (fun _ _ _ h => h) (Or.inl ⟨by kernel_rfl, ?yy7⟩) (by assumption) ?_
        case yy7 => intro w hSw; (try dsimp only at hSw); go_simp; (try with_reducible rfl)
        simp only [List.setIfInBounds_toArray, List.set_cons_zero, List.set_cons_succ]
        refine wpAnyH_done (by kernel_rfl) ?_ _
        have KR := Lib.hid (HRa.out.sets7_ne (c := w.heap.size + 4) (by omega) (.int .i64 (j.x.g + 1)) (.int .i64 (j.x.g + 1)) (.int .i64 (otherA j.x)) (.int .i64 (l.length : Int)) (.int .i64 p) (.int .i64 0) (.int .i64 0)); have KJ := Lib.hid (HJa.out.sets7 (.int .i64 (j.x.g + 1)) (.int .i64 (j.x.g + 1)) (.int .i64 (otherA j.x)) (.int .i64 (l.length : Int)) (.int .i64 p) (.int .i64 0) (.int .i64 0)); have KL := Lib.hid (HLa.out.sets7i HJa.out (.int .i64 (j.x.g + 1)) (.int .i64 (j.x.g + 1)) (.int .i64 (otherA j.x)) (.int .i64 (l.length : Int)) (.int .i64 p) (.int .i64 0) (.int .i64 0)).drewD; have KB := Lib.hid (below_sets7 HBa.out (w.heap.size + 4) (by omega) (.int .i64 (j.x.g + 1)) (.int .i64 (j.x.g + 1)) (.int .i64 (otherA j.x)) (.int .i64 (l.length : Int)) (.int .i64 p) (.int .i64 0) (.int .i64 0)).drew
        go_wp2
        have k0 := KR.out.cell 0
        have k1 := KR.out.cell 1
        have k2 := KR.out.cell 2
        have k3 := KR.out.cell 3
        have k4 := KR.out.cell 4
        have m0 := KJ.out.cell 0
        have m1 := KJ.out.cell 1
        have m2 := KJ.out.cell 2
        have m3 := KJ.out.cell 3
        have m4 := KJ.out.cell 4
        have m5 := KJ.out.cell 5
        have m6 := KJ.out.cell 6
        simp only [List.getElem?_toArray, List.getElem?_cons_zero, List.getElem?_cons_succ] at k0 k1 k2 k3 k4 m0 m1 m2 m3 m4 m5 m6
        refine bodyPost_ret (v := .tuple #[.agg #[.slice a3 rd.S.length c3, .slice a4 rd.P.length c4, .int .i64 rd.fuse, .int .i64 rd.ops, .bool rd.dead], .agg #[.int .i64 (j.x.g + 1), .int .i64 (j.x.g + 1), .int .i64 (otherA j.x), .int .i64 (l.length : Int), .int .i64 p, .int .i64 0, .int .i64 0], .int .i64 0]) (by simp [results, Try.results45, go_sem, k0, k1, k2, k3, k4, m0, m1, m2, m3, m4, m5, m6]) rfl ?_
        exact APost.mk (rd, ⟨resX j l p, 0, 0⟩, 0) a3 c3 a4 c4 rfl KL.out KB.out HRES.out
end Go.Proofs.Ytkpfkknldeafkaa
