/- What do and examples of the laws of layer 44 return. No conditions but the sizes. -/
import Derived.Test.YtnghdolpmmdknaaDiskSec
namespace Go.Proofs.Ytnghdolpmmdknaa
open Go.RowKit

theorem cells7_below {W W' : World} {b0 i0 b1 i1 b2 i2 b3 i3 b4 i4 b5 i5 b6 i6 : Nat} {u0 u1 u2 u3 u4 u5 u6 : Value} (h : W.cell? ⟨b0, i0, none⟩ = some u0 ∧ W.cell? ⟨b1, i1, none⟩ = some u1 ∧ W.cell? ⟨b2, i2, none⟩ = some u2 ∧ W.cell? ⟨b3, i3, none⟩ = some u3 ∧ W.cell? ⟨b4, i4, none⟩ = some u4 ∧ W.cell? ⟨b5, i5, none⟩ = some u5 ∧ W.cell? ⟨b6, i6, none⟩ = some u6) (hb : Below W.heap.size W W') : W'.cell? ⟨b0, i0, none⟩ = some u0 ∧ W'.cell? ⟨b1, i1, none⟩ = some u1 ∧ W'.cell? ⟨b2, i2, none⟩ = some u2 ∧ W'.cell? ⟨b3, i3, none⟩ = some u3 ∧ W'.cell? ⟨b4, i4, none⟩ = some u4 ∧ W'.cell? ⟨b5, i5, none⟩ = some u5 ∧ W'.cell? ⟨b6, i6, none⟩ = some u6 := by
  obtain ⟨h0, h1, h2, h3, h4, h5, h6⟩ := h
  exact ⟨cell1_below h0 hb, cell1_below h1 hb, cell1_below h2 hb, cell1_below h3 hb, cell1_below h4 hb, cell1_below h5 hb, cell1_below h6 hb⟩
theorem cells5_below {W W' : World} {b0 i0 b1 i1 b2 i2 b3 i3 b4 i4 : Nat} {u0 u1 u2 u3 u4 : Value} (h : W.cell? ⟨b0, i0, none⟩ = some u0 ∧ W.cell? ⟨b1, i1, none⟩ = some u1 ∧ W.cell? ⟨b2, i2, none⟩ = some u2 ∧ W.cell? ⟨b3, i3, none⟩ = some u3 ∧ W.cell? ⟨b4, i4, none⟩ = some u4) (hb : Below W.heap.size W W') : W'.cell? ⟨b0, i0, none⟩ = some u0 ∧ W'.cell? ⟨b1, i1, none⟩ = some u1 ∧ W'.cell? ⟨b2, i2, none⟩ = some u2 ∧ W'.cell? ⟨b3, i3, none⟩ = some u3 ∧ W'.cell? ⟨b4, i4, none⟩ = some u4 := by
  obtain ⟨h0, h1, h2, h3, h4⟩ := h
  exact ⟨cell1_below h0 hb, cell1_below h1 hb, cell1_below h2 hb, cell1_below h3 hb, cell1_below h4 hb⟩
theorem cells7_sets {W : World} {x y i0 i1 i2 i3 i4 i5 i6 : Nat} {u0 u1 u2 u3 u4 u5 u6 : Value} (h : W.cell? ⟨x, i0, none⟩ = some u0 ∧ W.cell? ⟨x, i1, none⟩ = some u1 ∧ W.cell? ⟨x, i2, none⟩ = some u2 ∧ W.cell? ⟨x, i3, none⟩ = some u3 ∧ W.cell? ⟨x, i4, none⟩ = some u4 ∧ W.cell? ⟨y, i5, none⟩ = some u5 ∧ W.cell? ⟨y, i6, none⟩ = some u6) (b : Nat) (h1 : b ≠ x) (h2 : b ≠ y) (v0 v1 v2 v3 v4 : Value) :
    let W' := (((((W.setCell ⟨b, 0, none⟩ v0).setCell ⟨b, 1, none⟩ v1).setCell ⟨b, 2, none⟩ v2).setCell ⟨b, 3, none⟩ v3).setCell ⟨b, 4, none⟩ v4)
    W'.cell? ⟨x, i0, none⟩ = some u0 ∧ W'.cell? ⟨x, i1, none⟩ = some u1 ∧ W'.cell? ⟨x, i2, none⟩ = some u2 ∧ W'.cell? ⟨x, i3, none⟩ = some u3 ∧ W'.cell? ⟨x, i4, none⟩ = some u4 ∧ W'.cell? ⟨y, i5, none⟩ = some u5 ∧ W'.cell? ⟨y, i6, none⟩ = some u6 := by
  have f1 : ∀ i u, W.cell? ⟨x, i, none⟩ = some u → (((((W.setCell ⟨b, 0, none⟩ v0).setCell ⟨b, 1, none⟩ v1).setCell ⟨b, 2, none⟩ v2).setCell ⟨b, 3, none⟩ v3).setCell ⟨b, 4, none⟩ v4).cell? ⟨x, i, none⟩ = some u :=
    fun i u h => cell1_set _ h1 (cell1_set _ h1 (cell1_set _ h1 (cell1_set _ h1 (cell1_set _ h1 h))))
  have f2 : ∀ i u, W.cell? ⟨y, i, none⟩ = some u → (((((W.setCell ⟨b, 0, none⟩ v0).setCell ⟨b, 1, none⟩ v1).setCell ⟨b, 2, none⟩ v2).setCell ⟨b, 3, none⟩ v3).setCell ⟨b, 4, none⟩ v4).cell? ⟨y, i, none⟩ = some u :=
    fun i u h => cell1_set _ h2 (cell1_set _ h2 (cell1_set _ h2 (cell1_set _ h2 (cell1_set _ h2 h))))
  obtain ⟨h0, h3, h4, h5, h6, h7, h8⟩ := h
  exact ⟨f1 _ _ h0, f1 _ _ h3, f1 _ _ h4, f1 _ _ h5, f1 _ _ h6, f2 _ _ h7, f2 _ _ h8⟩
def doS (d : Dk) (at_ : Int) (fill : UInt8) : Dk × Int := if at_ < 0 then syncS d else writeS d at_ (List.replicate 64 fill)

set_option maxRecDepth 100000 in
set_option maxHeartbeats 4000000 in
theorem do_any (sa pa : Option Addr) (sc pc : Nat) (d : Dk) (n c : Int) (c0 : 0 ≤ c) (c1 : c < 256) (w : World) (hD : Lists w sa sc pa pc d) (hp : d.P.length ≤ 8999999999999) :
    Calls Try.prog 45 #[.agg #[.slice sa d.S.length sc, .slice pa d.P.length pc, .int .i64 d.fuse, .int .i64 d.ops, .bool d.dead], .agg #[.int .i64 n, .int .u8 c]] w (OpPost (doS d n (byt c)) w) := by
  have hb0 := (((Below.refl w.heap.size w).alloc (Nat.le_refl _) (.cells #[.slice sa d.S.length sc, .slice pa d.P.length pc, .int .i64 d.fuse, .int .i64 d.ops, .bool d.dead] 47)).alloc (by simp) (.cells #[.int .i64 n, .int .u8 c] 64)).alloc (by simp; omega) (.cells #[.slice none 0 0, .slice none 0 0, .int .i64 0, .int .i64 0, .bool false] 47)
  have hX : Bx w.heap.size #[.slice sa d.S.length sc, .slice pa d.P.length pc, .int .i64 d.fuse, .int .i64 d.ops, .bool d.dead] 47 (((w.alloc (.cells #[.slice sa d.S.length sc, .slice pa d.P.length pc, .int .i64 d.fuse, .int .i64 d.ops, .bool d.dead] 47)).alloc (.cells #[.int .i64 n, .int .u8 c] 64)).alloc (.cells #[.slice none 0 0, .slice none 0 0, .int .i64 0, .int .i64 0, .bool false] 47)) := by
    have h := (Bx.new w #[.slice sa d.S.length sc, .slice pa d.P.length pc, .int .i64 d.fuse, .int .i64 d.ops, .bool d.dead] 47)
    have h := h.alloc (.cells #[.int .i64 n, .int .u8 c] 64)
    have h := h.alloc (.cells #[.slice none 0 0, .slice none 0 0, .int .i64 0, .int .i64 0, .bool false] 47)
    simpa using h
  have HX := Lib.hid hX; clear hX
  have hO : Bx (w.heap.size + 1) #[.int .i64 n, .int .u8 c] 64 (((w.alloc (.cells #[.slice sa d.S.length sc, .slice pa d.P.length pc, .int .i64 d.fuse, .int .i64 d.ops, .bool d.dead] 47)).alloc (.cells #[.int .i64 n, .int .u8 c] 64)).alloc (.cells #[.slice none 0 0, .slice none 0 0, .int .i64 0, .int .i64 0, .bool false] 47)) := by
    have h := (Bx.new (w.alloc (.cells #[.slice sa d.S.length sc, .slice pa d.P.length pc, .int .i64 d.fuse, .int .i64 d.ops, .bool d.dead] 47)) #[.int .i64 n, .int .u8 c] 64)
    have h := h.alloc (.cells #[.slice none 0 0, .slice none 0 0, .int .i64 0, .int .i64 0, .bool false] 47)
    simpa using h
  have HO := Lib.hid hO; clear hO
  have hR : Bx (w.heap.size + 2) #[.slice none 0 0, .slice none 0 0, .int .i64 0, .int .i64 0, .bool false] 47 (((w.alloc (.cells #[.slice sa d.S.length sc, .slice pa d.P.length pc, .int .i64 d.fuse, .int .i64 d.ops, .bool d.dead] 47)).alloc (.cells #[.int .i64 n, .int .u8 c] 64)).alloc (.cells #[.slice none 0 0, .slice none 0 0, .int .i64 0, .int .i64 0, .bool false] 47)) := by
    have h := (Bx.new ((w.alloc (.cells #[.slice sa d.S.length sc, .slice pa d.P.length pc, .int .i64 d.fuse, .int .i64 d.ops, .bool d.dead] 47)).alloc (.cells #[.int .i64 n, .int .u8 c] 64)) #[.slice none 0 0, .slice none 0 0, .int .i64 0, .int .i64 0, .bool false] 47)
    simpa using h
  have HR := Lib.hid hR; clear hR
  have hD0 := hD.below hb0
  have x0 : (((w.alloc (.cells #[.slice sa d.S.length sc, .slice pa d.P.length pc, .int .i64 d.fuse, .int .i64 d.ops, .bool d.dead] 47)).alloc (.cells #[.int .i64 n, .int .u8 c] 64)).alloc (.cells #[.slice none 0 0, .slice none 0 0, .int .i64 0, .int .i64 0, .bool false] 47)).cell? ⟨w.heap.size, 0, none⟩ = some (.slice sa d.S.length sc) := HX.out.cell 0
  have x1 : (((w.alloc (.cells #[.slice sa d.S.length sc, .slice pa d.P.length pc, .int .i64 d.fuse, .int .i64 d.ops, .bool d.dead] 47)).alloc (.cells #[.int .i64 n, .int .u8 c] 64)).alloc (.cells #[.slice none 0 0, .slice none 0 0, .int .i64 0, .int .i64 0, .bool false] 47)).cell? ⟨w.heap.size, 1, none⟩ = some (.slice pa d.P.length pc) := HX.out.cell 1
  have x2 : (((w.alloc (.cells #[.slice sa d.S.length sc, .slice pa d.P.length pc, .int .i64 d.fuse, .int .i64 d.ops, .bool d.dead] 47)).alloc (.cells #[.int .i64 n, .int .u8 c] 64)).alloc (.cells #[.slice none 0 0, .slice none 0 0, .int .i64 0, .int .i64 0, .bool false] 47)).cell? ⟨w.heap.size, 2, none⟩ = some (.int .i64 d.fuse) := HX.out.cell 2
  have x3 : (((w.alloc (.cells #[.slice sa d.S.length sc, .slice pa d.P.length pc, .int .i64 d.fuse, .int .i64 d.ops, .bool d.dead] 47)).alloc (.cells #[.int .i64 n, .int .u8 c] 64)).alloc (.cells #[.slice none 0 0, .slice none 0 0, .int .i64 0, .int .i64 0, .bool false] 47)).cell? ⟨w.heap.size, 3, none⟩ = some (.int .i64 d.ops) := HX.out.cell 3
  have x4 : (((w.alloc (.cells #[.slice sa d.S.length sc, .slice pa d.P.length pc, .int .i64 d.fuse, .int .i64 d.ops, .bool d.dead] 47)).alloc (.cells #[.int .i64 n, .int .u8 c] 64)).alloc (.cells #[.slice none 0 0, .slice none 0 0, .int .i64 0, .int .i64 0, .bool false] 47)).cell? ⟨w.heap.size, 4, none⟩ = some (.bool d.dead) := HX.out.cell 4
  have o0 : (((w.alloc (.cells #[.slice sa d.S.length sc, .slice pa d.P.length pc, .int .i64 d.fuse, .int .i64 d.ops, .bool d.dead] 47)).alloc (.cells #[.int .i64 n, .int .u8 c] 64)).alloc (.cells #[.slice none 0 0, .slice none 0 0, .int .i64 0, .int .i64 0, .bool false] 47)).cell? ⟨(w.heap.size + 1), 0, none⟩ = some (.int .i64 n) := HO.out.cell 0
  have o1 : (((w.alloc (.cells #[.slice sa d.S.length sc, .slice pa d.P.length pc, .int .i64 d.fuse, .int .i64 d.ops, .bool d.dead] 47)).alloc (.cells #[.int .i64 n, .int .u8 c] 64)).alloc (.cells #[.slice none 0 0, .slice none 0 0, .int .i64 0, .int .i64 0, .bool false] 47)).cell? ⟨(w.heap.size + 1), 1, none⟩ = some (.int .u8 c) := HO.out.cell 1
  by_cases hn : n < 0
  · obtain ⟨⟨d2, er⟩, hq⟩ : ∃ q, syncS d = q := ⟨_, rfl⟩
    have HF := Lib.hid (show doS d n (byt c) = (d2, er) by unfold doS; rw [if_pos hn, hq])
    go_enter Try.func45, Try.ntmps45
    go_wp2_with fail
    refine (Sync_any _ _ _ _ _ _ hD0).mono ?_
    rw [hq]
    clear hq
    rintro e w5 ⟨a1, c1, a2, c2, rfl, hO5, hb5⟩
    have hR := HR.out.call hb5
    have hbl := btrans hb0 hb0.size hb5
    have HOW := Lib.hid (hO5.mono (B' := w.heap.size + 3) (by simp))
    clear x0 x1 x2 x3 x4 o0 o1 hO5 hb5
    have r0 : w5.cell? ⟨w.heap.size + 2, 0, none⟩ = some (.slice none 0 0) := hR.cell 0
    have r1 : w5.cell? ⟨w.heap.size + 2, 1, none⟩ = some (.slice none 0 0) := hR.cell 1
    have r2 : w5.cell? ⟨w.heap.size + 2, 2, none⟩ = some (.int .i64 0) := hR.cell 2
    have r3 : w5.cell? ⟨w.heap.size + 2, 3, none⟩ = some (.int .i64 0) := hR.cell 3
    have r4 : w5.cell? ⟨w.heap.size + 2, 4, none⟩ = some (.bool false) := hR.cell 4
    have g0 := hR.free 0
    have g1 := hR.free 1
    have g2 := hR.free 2
    have g3 := hR.free 3
    have g4 := hR.free 4
    have hlt : w.heap.size + 2 < w5.heap.size := hR.lt
    have HRZ := Lib.hid hR; clear hR
    go_wp2
    have KK := Lib.hid (HRZ.out.sets (.slice a1 d2.S.length c1) (.slice a2 d2.P.length c2) (.int .i64 d2.fuse) (.int .i64 d2.ops) (.bool d2.dead))
    have k0 := KK.out.cell 0
    have k1 := KK.out.cell 1
    have k2 := KK.out.cell 2
    have k3 := KK.out.cell 3
    have k4 := KK.out.cell 4
    simp only [List.getElem?_toArray, List.getElem?_cons_zero, List.getElem?_cons_succ] at k0 k1 k2 k3 k4
    refine bodyPost_ret (v := .tuple #[.agg #[.slice a1 d2.S.length c1, .slice a2 d2.P.length c2, .int .i64 d2.fuse, .int .i64 d2.ops, .bool d2.dead], .int .i64 er]) (by simp [results, Try.results45, go_sem, k0, k1, k2, k3, k4]) rfl ?_
    rw [HF.out]
    refine ⟨a1, c1, a2, c2, rfl, ?_, ?_⟩
    · exact (HOW.out.sets (w.heap.size + 2) (by omega) _ _ _ _ _).mono (by omega)
    · exact below_sets hbl (w.heap.size + 2) (by omega) _ _ _ _ _
  · obtain ⟨data, hdt⟩ : ∃ q, q = List.replicate 64 (byt c) := ⟨_, rfl⟩
    obtain ⟨⟨d2, er⟩, hq⟩ : ∃ q, writeS d n data = q := ⟨_, rfl⟩
    have HF := Lib.hid (show doS d n (byt c) = (d2, er) by unfold doS; rw [if_neg hn, ← hdt, hq])
    have HQ := Lib.hid hq; clear hq
    have HDT := Lib.hid hdt; clear hdt
    have hs0 : (((w.alloc (.cells #[.slice sa d.S.length sc, .slice pa d.P.length pc, .int .i64 d.fuse, .int .i64 d.ops, .bool d.dead] 47)).alloc (.cells #[.int .i64 n, .int .u8 c] 64)).alloc (.cells #[.slice none 0 0, .slice none 0 0, .int .i64 0, .int .i64 0, .bool false] 47)).drew.cell? ⟨w.heap.size, 0, none⟩ = some (.slice sa d.S.length sc) ∧ (((w.alloc (.cells #[.slice sa d.S.length sc, .slice pa d.P.length pc, .int .i64 d.fuse, .int .i64 d.ops, .bool d.dead] 47)).alloc (.cells #[.int .i64 n, .int .u8 c] 64)).alloc (.cells #[.slice none 0 0, .slice none 0 0, .int .i64 0, .int .i64 0, .bool false] 47)).drew.cell? ⟨w.heap.size, 1, none⟩ = some (.slice pa d.P.length pc) ∧ (((w.alloc (.cells #[.slice sa d.S.length sc, .slice pa d.P.length pc, .int .i64 d.fuse, .int .i64 d.ops, .bool d.dead] 47)).alloc (.cells #[.int .i64 n, .int .u8 c] 64)).alloc (.cells #[.slice none 0 0, .slice none 0 0, .int .i64 0, .int .i64 0, .bool false] 47)).drew.cell? ⟨w.heap.size, 2, none⟩ = some (.int .i64 d.fuse) ∧ (((w.alloc (.cells #[.slice sa d.S.length sc, .slice pa d.P.length pc, .int .i64 d.fuse, .int .i64 d.ops, .bool d.dead] 47)).alloc (.cells #[.int .i64 n, .int .u8 c] 64)).alloc (.cells #[.slice none 0 0, .slice none 0 0, .int .i64 0, .int .i64 0, .bool false] 47)).drew.cell? ⟨w.heap.size, 3, none⟩ = some (.int .i64 d.ops) ∧ (((w.alloc (.cells #[.slice sa d.S.length sc, .slice pa d.P.length pc, .int .i64 d.fuse, .int .i64 d.ops, .bool d.dead] 47)).alloc (.cells #[.int .i64 n, .int .u8 c] 64)).alloc (.cells #[.slice none 0 0, .slice none 0 0, .int .i64 0, .int .i64 0, .bool false] 47)).drew.cell? ⟨w.heap.size, 4, none⟩ = some (.bool d.dead) ∧ (((w.alloc (.cells #[.slice sa d.S.length sc, .slice pa d.P.length pc, .int .i64 d.fuse, .int .i64 d.ops, .bool d.dead] 47)).alloc (.cells #[.int .i64 n, .int .u8 c] 64)).alloc (.cells #[.slice none 0 0, .slice none 0 0, .int .i64 0, .int .i64 0, .bool false] 47)).drew.cell? ⟨w.heap.size + 1, 0, none⟩ = some (.int .i64 n) ∧ (((w.alloc (.cells #[.slice sa d.S.length sc, .slice pa d.P.length pc, .int .i64 d.fuse, .int .i64 d.ops, .bool d.dead] 47)).alloc (.cells #[.int .i64 n, .int .u8 c] 64)).alloc (.cells #[.slice none 0 0, .slice none 0 0, .int .i64 0, .int .i64 0, .bool false] 47)).drew.cell? ⟨w.heap.size + 1, 1, none⟩ = some (.int .u8 c) := ⟨x0, x1, x2, x3, x4, o0, o1⟩
    go_enter Try.func45, Try.ntmps45
    go_wp2_with fail
    refine wp_region_held_drew (S := (fun w' => w'.cell? ⟨w.heap.size, 0, none⟩ = some (.slice sa d.S.length sc) ∧ w'.cell? ⟨w.heap.size, 1, none⟩ = some (.slice pa d.P.length pc) ∧ w'.cell? ⟨w.heap.size, 2, none⟩ = some (.int .i64 d.fuse) ∧ w'.cell? ⟨w.heap.size, 3, none⟩ = some (.int .i64 d.ops) ∧ w'.cell? ⟨w.heap.size, 4, none⟩ = some (.bool d.dead) ∧ w'.cell? ⟨w.heap.size + 1, 0, none⟩ = some (.int .i64 n) ∧ w'.cell? ⟨w.heap.size + 1, 1, none⟩ = some (.int .u8 c))) (by kernel_rfl) ?_ (fun hHeld => ?_)
    · exact hs0
    refine takeH (i := 0) (v := ?vv1) 13 rfl rfl (by kernel_rfl) (by kernel_rfl) (by kernel_rfl) (fun _ _ _ h => h) (Or.inl ⟨by kernel_rfl, ?yy1⟩) (by assumption) ?_
    case yy1 => intro w hSw; (try dsimp only at hSw); go_simp; (try with_reducible rfl)
    simp only [List.setIfInBounds_toArray, List.set_cons_zero, List.set_cons_succ]
    refine takeH (i := 1) (v := ?vv2) 14 rfl rfl (by kernel_rfl) (by kernel_rfl) (by kernel_rfl) (fun _ _ _ h => h) (Or.inl ⟨by kernel_rfl, ?yy2⟩) (by assumption) ?_
    case yy2 => intro w hSw; (try dsimp only at hSw); go_simp; (try with_reducible rfl)
    simp only [List.setIfInBounds_toArray, List.set_cons_zero, List.set_cons_succ]
    refine takeH (i := 2) (v := ?vv3) 15 rfl rfl (by kernel_rfl) (by kernel_rfl) (by kernel_rfl) (fun _ _ _ h => h) (Or.inl ⟨by kernel_rfl, ?yy3⟩) (by assumption) ?_
    case yy3 => intro w hSw; (try dsimp only at hSw); go_simp; (try with_reducible rfl)
    simp only [List.setIfInBounds_toArray, List.set_cons_zero, List.set_cons_succ]
    refine takeH (i := 3) (v := ?vv4) 16 rfl rfl (by kernel_rfl) (by kernel_rfl) (by kernel_rfl) (fun _ _ _ h => h) (Or.inl ⟨by kernel_rfl, ?yy4⟩) (by assumption) ?_
    case yy4 => intro w hSw; (try dsimp only at hSw); go_simp; (try with_reducible rfl)
    simp only [List.setIfInBounds_toArray, List.set_cons_zero, List.set_cons_succ]
    refine takeH (i := 4) (v := ?vv5) 17 rfl rfl (by kernel_rfl) (by kernel_rfl) (by kernel_rfl) (fun _ _ _ h => h) (Or.inl ⟨by kernel_rfl, ?yy5⟩) (by assumption) ?_
    case yy5 => intro w hSw; (try dsimp only at hSw); go_simp; (try with_reducible rfl)
    simp only [List.setIfInBounds_toArray, List.set_cons_zero, List.set_cons_succ]
    refine wpAnyH_ready (rs := [5]) (by kernel_rfl) (by simp) ?_
    refine AllReadyH.cons rfl (fun K hK => ?_) AllReadyH.nil
    go_simp
    (refine (sector_any c c0 c1 _).mono ?_; rw [← HDT.out]; rintro e w1 ⟨rfl, hb1⟩; have hR1 := HR.out.drew.call hb1)
    (try go_wp2_with fail)
    refine hK.out _ _ ?_ (fun hHeld => ?_)
    · exact cells7_below hHeld hb1
    clear hK K
    (try simp only [Act.put, List.setIfInBounds_toArray, List.set_cons_zero, List.set_cons_succ])
    refine wpAnyH_ready (rs := [6]) (by kernel_rfl) (by simp) ?_
    refine AllReadyH.cons rfl (fun K hK => ?_) AllReadyH.nil
    go_simp
    (refine (Write_any _ _ _ _ d n data _ (hD0.below (btrans (Below.refl _ _).drew (Nat.le_refl _) hb1)) hp).mono ?_; rw [HQ.out]; rintro e w5 ⟨a1, c1, a2, c2, rfl, hO5, hb5⟩; have hR := hR1.call hb5; have r0 : w5.cell? ⟨w.heap.size + 2, 0, none⟩ = some (.slice none 0 0) := hR.cell 0; have r1 : w5.cell? ⟨w.heap.size + 2, 1, none⟩ = some (.slice none 0 0) := hR.cell 1; have r2 : w5.cell? ⟨w.heap.size + 2, 2, none⟩ = some (.int .i64 0) := hR.cell 2; have r3 : w5.cell? ⟨w.heap.size + 2, 3, none⟩ = some (.int .i64 0) := hR.cell 3; have r4 : w5.cell? ⟨w.heap.size + 2, 4, none⟩ = some (.bool false) := hR.cell 4; have g0 := hR.free 0; have g1 := hR.free 1; have g2 := hR.free 2; have g3 := hR.free 3; have g4 := hR.free 4)
    (try go_wp2_with fail)
    refine hK.out _ _ ?_ (fun hHeld => ?_)
    · exact cells7_below hHeld hb5
    clear hK K
    (try simp only [Act.put, List.setIfInBounds_toArray, List.set_cons_zero, List.set_cons_succ])
    refine takeH (i := 7) (v := ?vv6) 20 rfl rfl (by kernel_rfl) (by kernel_rfl) (by kernel_rfl) (fun _ _ _ h => h) (Or.inl ⟨by kernel_rfl, ?yy6⟩) (by assumption) ?_
    case yy6 => intro w hSw; (try dsimp only at hSw); go_simp; (try with_reducible rfl)
    simp only [List.setIfInBounds_toArray, List.set_cons_zero, List.set_cons_succ]
    refine takeH (i := 8) (v := ?vv7) 21 rfl rfl (by kernel_rfl) (by kernel_rfl) (by kernel_rfl) (fun _ _ _ h => h) (Or.inl ⟨by kernel_rfl, ?yy7⟩) (by assumption) ?_
    case yy7 => intro w hSw; (try dsimp only at hSw); go_simp; (try with_reducible rfl)
    simp only [List.setIfInBounds_toArray, List.set_cons_zero, List.set_cons_succ]
    refine wpAnyH_ready (rs := [9]) (by kernel_rfl) (by simp) ?_
    refine AllReadyH.cons rfl (fun K hK => ?_) AllReadyH.nil
    go_simp
    skip
    (try go_wp2_with fail)
    refine hK.out _ _ ?_ (fun hHeld => ?_)
    · exact cells7_sets hHeld (w.heap.size + 2) (by omega) (by omega) _ _ _ _ _
    clear hK K
    (try simp only [Act.put, List.setIfInBounds_toArray, List.set_cons_zero, List.set_cons_succ])
    refine takeH (i := 10) (v := ?vv8) 5 rfl rfl (by kernel_rfl) (by kernel_rfl) (by kernel_rfl) (fun _ _ _ h => h) (Or.inl ⟨by kernel_rfl, ?yy8⟩) (by assumption) ?_
    case yy8 => intro w hSw; (try dsimp only at hSw); go_simp; (try with_reducible rfl)
    simp only [List.setIfInBounds_toArray, List.set_cons_zero, List.set_cons_succ]
    refine wpAnyH_done (by kernel_rfl) ?_ _
    have hbl := btrans hb0.drew hb0.size (btrans hb1 hb1.size hb5)
    have HOW := Lib.hid (hO5.mono (B' := w.heap.size + 3) (by have := hb1.size; simp at this; omega))
    clear hO5 hb5 hR1 hb1 hs0 x0 x1 x2 x3 x4 o0 o1
    have hlt : w.heap.size + 2 < w5.heap.size := hR.lt
    have HRZ := Lib.hid hR; clear hR
    go_wp2
    have KK := Lib.hid (HRZ.out.sets (.slice a1 d2.S.length c1) (.slice a2 d2.P.length c2) (.int .i64 d2.fuse) (.int .i64 d2.ops) (.bool d2.dead))
    have k0 := KK.out.cell 0
    have k1 := KK.out.cell 1
    have k2 := KK.out.cell 2
    have k3 := KK.out.cell 3
    have k4 := KK.out.cell 4
    simp only [List.getElem?_toArray, List.getElem?_cons_zero, List.getElem?_cons_succ] at k0 k1 k2 k3 k4
    refine bodyPost_ret (v := .tuple #[.agg #[.slice a1 d2.S.length c1, .slice a2 d2.P.length c2, .int .i64 d2.fuse, .int .i64 d2.ops, .bool d2.dead], .int .i64 er]) (by simp [results, Try.results45, go_sem, k0, k1, k2, k3, k4]) rfl ?_
    rw [HF.out]
    refine ⟨a1, c1, a2, c2, rfl, ?_, ?_⟩
    · exact (HOW.out.sets (w.heap.size + 2) (by omega) _ _ _ _ _).mono (by omega)
    · exact below_sets hbl (w.heap.size + 2) (by omega) _ _ _ _ _
end Go.Proofs.Ytnghdolpmmdknaa
