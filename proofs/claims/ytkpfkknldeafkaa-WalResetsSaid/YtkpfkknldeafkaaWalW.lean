/- The walk of WalResets, and how an act among the arguments is read. No conditions. -/
import Derived.Test.YtkpfkknldeafkaaWalT
import Derived.Test.YtkpfkknldeafkaaWalU
import Derived.Test.YtkpfkknldeafkaaWalTwo
import Derived.Test.YtkpfkknldeafkaaSupOne
namespace Go.Proofs.Ytkpfkknldeafkaa
open Go.ChangeShapes Go.WideShapes Go.ChangeAt Go.RowKit

section
variable {H : Type} {enc : TypeId × Value → H} {W : World} {base : Nat} {spare : Nat → Bool} {held : Bool}
set_option maxRecDepth 100000 in
theorem open_act {r : Reach} {b0 : Nat} {v : Value} {d : DataW H} {p : List MemPlace} (hv : Value.okWide Try.prog W r b0 67 v) (h : DataW.Trod enc Try.prog W base spare held 67 v d p)
    (hz : ∀ n ∈ d.weights Try.prog 67, n ≤ reachBytes) :
    ∃ (k : Int) (l : List UInt8) (q : Int), v = .agg #[.int .i64 k, .string (bs l), .int .i64 q] ∧ l.length ≤ 140737488351232 := by
  obtain ⟨cs, rfl, hsz⟩ := okWide_struct Try.underlying67 hv
  obtain ⟨l⟩ := cs
  have hC : Try.prog.cellsOf 67 = 3 := by kernel_rfl
  match l, hsz.trans hC with
  | [u0, u1, u2], _ =>
    obtain ⟨fuel, hf⟩ := h
    obtain ⟨ys, n, _, hx, _, hyl, hg⟩ := DataW.trod_struct Try.underlying67 hf
    match ys, hyl with
    | [y0, y1, y2], _ =>
      have g0 : DataW.trod enc Try.prog W base spare held n 3 (([u0, u1, u2].drop 0).take (Try.prog.cellsOf 3)) = some y0 := hg 0 _ rfl
      have g1 : DataW.trod enc Try.prog W base spare held n 9 (([u0, u1, u2].drop 1).take (Try.prog.cellsOf 9)) = some y1 := hg 1 _ rfl
      have g2 : DataW.trod enc Try.prog W base spare held n 2 (([u0, u1, u2].drop 2).take (Try.prog.cellsOf 2)) = some y2 := hg 2 _ rfl
      have c1 : Try.prog.cellsOf 3 = 1 := by kernel_rfl
      have c2 : Try.prog.cellsOf 9 = 1 := by kernel_rfl
      have c3 : Try.prog.cellsOf 2 = 1 := by kernel_rfl
      rw [c1] at g0
      rw [c2] at g1
      rw [c3] at g2
      obtain ⟨a, e0, _⟩ := DataW.trod_int Try.underlying3 g0
      rw [Prod.mk.injEq] at hx
      have z1 : ∀ n ∈ y1.1.weights Try.prog 9, n ≤ reachBytes := fun n hn => hz n (by rw [hx.1]; simp only [DataW.weights, Try.underlying67, List.map_cons, List.map_nil, DataW.weightsEach, List.mem_append]; exact Or.inr (Or.inl hn))
      obtain ⟨s, e1, f1⟩ := DataW.trod_string Try.underlying9 g1
      obtain ⟨q, e2, _⟩ := DataW.trod_int Try.underlying2 g2
      simp at e0 e1 e2
      subst e0 e1 e2
      rw [f1.1] at z1
      refine ⟨a, s.data.toList, q, by rw [bs_toList], ?_⟩
      have := z1 s.data.toList.length (by simp [DataW.weights])
      unfold reachBytes at this
      omega
end

theorem resW_use (sa pa : Option Addr) (sc pc : Nat) (d nd : Dk) (j j2 : Jn) (l : List UInt8) (p e0 : Int) (w : World) (hD : Lists w sa sc pa pc d) (hl : l.length ≤ 1000000000000000) (hp : d.P.length ≤ 8000000000000) (hq : resW d j l p = (nd, j2, e0)) :
    Calls Try.prog 45 #[.agg #[.slice sa d.S.length sc, .slice pa d.P.length pc, .int .i64 d.fuse, .int .i64 d.ops, .bool d.dead], .agg (jnV j), .string (bs l), .int .i64 p] w fun E w' => ∃ a1 c1 a2 c2, E = .returned (.tuple #[.agg #[.slice a1 nd.S.length c1, .slice a2 nd.P.length c2, .int .i64 nd.fuse, .int .i64 nd.ops, .bool nd.dead], .agg (jnV j2), .int .i64 e0]) ∧ Lists w' a1 c1 a2 c2 nd ∧ Below w.heap.size w w' := by
  refine (resW_any sa pa sc pc d j l p w hD hl hp).mono ?_
  rw [hq]
  rintro E w' ⟨a1, c1, a2, c2, rfl, hL, hB⟩
  exact ⟨a1, c1, a2, c2, rfl, hL, hB⟩

theorem Rres_use (sa pa : Option Addr) (sc pc : Nat) (d nd : Dk) (j j2 : Jn) (l : List UInt8) (p e0 : Int) (w : World) (hD : Lists w sa sc pa pc d) (hl : l.length ≤ 1000000000000000) (hp : d.P.length ≤ 8000000000000) (hq : resW d j l p = (nd, j2, e0)) :
    Calls Try.prog 46 #[.agg #[.slice sa d.S.length sc, .slice pa d.P.length pc, .int .i64 d.fuse, .int .i64 d.ops, .bool d.dead], .agg (jnV j), .string (bs l), .int .i64 p] w fun E w' => ∃ a1 c1 a2 c2, E = .returned (.tuple #[.agg #[.slice a1 nd.S.length c1, .slice a2 nd.P.length c2, .int .i64 nd.fuse, .int .i64 nd.ops, .bool nd.dead], .agg (jnV j2), .int .i64 e0]) ∧ Lists w' a1 c1 a2 c2 nd ∧ Below w.heap.size w w' := by
  refine (Rres_any sa pa sc pc d j l p w hD hl hp).mono ?_
  rw [hq]
  rintro E w' ⟨a1, c1, a2, c2, rfl, hL, hB⟩
  exact ⟨a1, c1, a2, c2, rfl, hL, hB⟩

set_option maxRecDepth 100000 in
set_option maxHeartbeats 64000000 in
theorem resetsWalk (sa pa : Option Addr) (sc pc : Nat) (d : Dk) (j : Jn) (k : Int) (l : List UInt8) (p : Int) (w : World) (hD : Lists w sa sc pa pc d) (hl : l.length ≤ 1000000000000000) (hp : d.P.length ≤ 8000000000000) :
    Calls Try.prog 12 #[.agg #[.slice sa d.S.length sc, .slice pa d.P.length pc, .int .i64 d.fuse, .int .i64 d.ops, .bool d.dead], .agg (jnV j), .agg #[.int .i64 k, .string (bs l), .int .i64 p]] w fun e w' => e = .returned (.bool true) ∧ Below w.heap.size w w' := by
  obtain ⟨⟨nd, nj, e⟩, ha⟩ : ∃ r, resW d j l p = r := ⟨_, rfl⟩
  have HA0 := Lib.hid ha; clear ha
  simp only [jnV]
  have hb0 := ((((Below.refl w.heap.size w).alloc (Nat.le_refl _) (.cells #[.slice sa d.S.length sc, .slice pa d.P.length pc, .int .i64 d.fuse, .int .i64 d.ops, .bool d.dead] 38)).alloc (by simp) (.cells #[.int .i64 j.x.g, .int .i64 j.x.e, .int .i64 j.x.a, .int .i64 j.x.z, .int .i64 j.x.p, .int .i64 j.n, .int .i64 j.r] 57)).alloc (by simp; try omega) (.cells #[.int .i64 k, .string (bs l), .int .i64 p] 67))
  have h_HX := (((Bx.new w #[.slice sa d.S.length sc, .slice pa d.P.length pc, .int .i64 d.fuse, .int .i64 d.ops, .bool d.dead] 38).alloc (.cells #[.int .i64 j.x.g, .int .i64 j.x.e, .int .i64 j.x.a, .int .i64 j.x.z, .int .i64 j.x.p, .int .i64 j.n, .int .i64 j.r] 57)).alloc (.cells #[.int .i64 k, .string (bs l), .int .i64 p] 67))
  have h_HJ := ((Bx.new (w.alloc (.cells #[.slice sa d.S.length sc, .slice pa d.P.length pc, .int .i64 d.fuse, .int .i64 d.ops, .bool d.dead] 38)) #[.int .i64 j.x.g, .int .i64 j.x.e, .int .i64 j.x.a, .int .i64 j.x.z, .int .i64 j.x.p, .int .i64 j.n, .int .i64 j.r] 57).alloc (.cells #[.int .i64 k, .string (bs l), .int .i64 p] 67))
  rw [show (w.alloc (.cells #[.slice sa d.S.length sc, .slice pa d.P.length pc, .int .i64 d.fuse, .int .i64 d.ops, .bool d.dead] 38)).heap.size = w.heap.size + 1 by simp] at h_HJ
  have h_HT := (Bx.new ((w.alloc (.cells #[.slice sa d.S.length sc, .slice pa d.P.length pc, .int .i64 d.fuse, .int .i64 d.ops, .bool d.dead] 38)).alloc (.cells #[.int .i64 j.x.g, .int .i64 j.x.e, .int .i64 j.x.a, .int .i64 j.x.z, .int .i64 j.x.p, .int .i64 j.n, .int .i64 j.r] 57)) #[.int .i64 k, .string (bs l), .int .i64 p] 67)
  rw [show ((w.alloc (.cells #[.slice sa d.S.length sc, .slice pa d.P.length pc, .int .i64 d.fuse, .int .i64 d.ops, .bool d.dead] 38)).alloc (.cells #[.int .i64 j.x.g, .int .i64 j.x.e, .int .i64 j.x.a, .int .i64 j.x.z, .int .i64 j.x.p, .int .i64 j.n, .int .i64 j.r] 57)).heap.size = w.heap.size + 2 by simp] at h_HT
  have HB := Lib.hid hb0; have HX := Lib.hid h_HX; have HJ := Lib.hid h_HJ; have HT := Lib.hid h_HT
  clear hb0 h_HX h_HJ h_HT
  have HD := Lib.hid (hD.below HB.out)
  go_enter Try.func12, Try.ntmps12
  go_upto_region 1 with (fail)
  generalize hW0 : ((w.alloc (.cells #[.slice sa d.S.length sc, .slice pa d.P.length pc, .int .i64 d.fuse, .int .i64 d.ops, .bool d.dead] 38)).alloc (.cells #[.int .i64 j.x.g, .int .i64 j.x.e, .int .i64 j.x.a, .int .i64 j.x.z, .int .i64 j.x.p, .int .i64 j.n, .int .i64 j.r] 57)).alloc (.cells #[.int .i64 k, .string (bs l), .int .i64 p] 67) = v0 at HB HD HX HJ HT ⊢
  clear hW0
  have x0 : v0.cell? ⟨w.heap.size, 0, none⟩ = some (.slice sa d.S.length sc) := HX.out.cell 0
  have x1 : v0.cell? ⟨w.heap.size, 1, none⟩ = some (.slice pa d.P.length pc) := HX.out.cell 1
  have x2 : v0.cell? ⟨w.heap.size, 2, none⟩ = some (.int .i64 d.fuse) := HX.out.cell 2
  have x3 : v0.cell? ⟨w.heap.size, 3, none⟩ = some (.int .i64 d.ops) := HX.out.cell 3
  have x4 : v0.cell? ⟨w.heap.size, 4, none⟩ = some (.bool d.dead) := HX.out.cell 4
  have y0 : v0.cell? ⟨(w.heap.size + 1), 0, none⟩ = some (.int .i64 j.x.g) := HJ.out.cell 0
  have y1 : v0.cell? ⟨(w.heap.size + 1), 1, none⟩ = some (.int .i64 j.x.e) := HJ.out.cell 1
  have y2 : v0.cell? ⟨(w.heap.size + 1), 2, none⟩ = some (.int .i64 j.x.a) := HJ.out.cell 2
  have y3 : v0.cell? ⟨(w.heap.size + 1), 3, none⟩ = some (.int .i64 j.x.z) := HJ.out.cell 3
  have y4 : v0.cell? ⟨(w.heap.size + 1), 4, none⟩ = some (.int .i64 j.x.p) := HJ.out.cell 4
  have y5 : v0.cell? ⟨(w.heap.size + 1), 5, none⟩ = some (.int .i64 j.n) := HJ.out.cell 5
  have y6 : v0.cell? ⟨(w.heap.size + 1), 6, none⟩ = some (.int .i64 j.r) := HJ.out.cell 6
  have t0 : v0.cell? ⟨(w.heap.size + 2), 0, none⟩ = some (.int .i64 k) := HT.out.cell 0
  have t1 : v0.cell? ⟨(w.heap.size + 2), 1, none⟩ = some (.string (bs l)) := HT.out.cell 1
  have t2 : v0.cell? ⟨(w.heap.size + 2), 2, none⟩ = some (.int .i64 p) := HT.out.cell 2
  go_wp2_with fail
  refine (resW_use _ _ _ _ d nd j nj l p e _ HD.out hl hp HA0.out).mono ?_
  simp only [jnV]
  rintro er w1 ⟨a1, c1, a2, c2, rfl, hL, hb1⟩
  clear x0 x1 x2 x3 x4
  clear y0 y1 y2 y3 y4 y5 y6
  clear t0 t1 t2
  have hal := ((Below.refl w1.heap.size w1).alloc (Nat.le_refl _) (.cells #[.slice a1 nd.S.length c1, .slice a2 nd.P.length c2, .int .i64 nd.fuse, .int .i64 nd.ops, .bool nd.dead] 38)).alloc (by simp) (.cells #[.int .i64 nj.x.g, .int .i64 nj.x.e, .int .i64 nj.x.a, .int .i64 nj.x.z, .int .i64 nj.x.p, .int .i64 nj.n, .int .i64 nj.r] 57)
  have HA := Lib.hid ((Bx.new w1 #[.slice a1 nd.S.length c1, .slice a2 nd.P.length c2, .int .i64 nd.fuse, .int .i64 nd.ops, .bool nd.dead] 38).alloc (.cells #[.int .i64 nj.x.g, .int .i64 nj.x.e, .int .i64 nj.x.a, .int .i64 nj.x.z, .int .i64 nj.x.p, .int .i64 nj.n, .int .i64 nj.r] 57)); have HJA := Lib.hid (Bx.new1 w1 (.cells #[.slice a1 nd.S.length c1, .slice a2 nd.P.length c2, .int .i64 nd.fuse, .int .i64 nd.ops, .bool nd.dead] 38) #[.int .i64 nj.x.g, .int .i64 nj.x.e, .int .i64 nj.x.a, .int .i64 nj.x.z, .int .i64 nj.x.p, .int .i64 nj.n, .int .i64 nj.r] 57); have HLA := Lib.hid (hL.below hal)
  have HX := Lib.hid ((HX.out.call hb1).call hal)
  have HJ := Lib.hid ((HJ.out.call hb1).call hal)
  have HT := Lib.hid ((HT.out.call hb1).call hal)
  have HD := Lib.hid ((HD.out.below hb1).below hal)
  have HB := Lib.hid (btrans (btrans HB.out HB.out.size hb1) (btrans HB.out HB.out.size hb1).size hal); clear hb1 hL hal
  go_upto_region 2 with (fail)
  generalize hW : (w1.alloc (.cells #[.slice a1 nd.S.length c1, .slice a2 nd.P.length c2, .int .i64 nd.fuse, .int .i64 nd.ops, .bool nd.dead] 38)).alloc (.cells #[.int .i64 nj.x.g, .int .i64 nj.x.e, .int .i64 nj.x.a, .int .i64 nj.x.z, .int .i64 nj.x.p, .int .i64 nj.n, .int .i64 nj.r] 57) = v1 at HX HJ HT HD HB HA HJA HLA ⊢
  clear hW
  have x0 : v1.cell? ⟨w.heap.size, 0, none⟩ = some (.slice sa d.S.length sc) := HX.out.cell 0
  have x1 : v1.cell? ⟨w.heap.size, 1, none⟩ = some (.slice pa d.P.length pc) := HX.out.cell 1
  have x2 : v1.cell? ⟨w.heap.size, 2, none⟩ = some (.int .i64 d.fuse) := HX.out.cell 2
  have x3 : v1.cell? ⟨w.heap.size, 3, none⟩ = some (.int .i64 d.ops) := HX.out.cell 3
  have x4 : v1.cell? ⟨w.heap.size, 4, none⟩ = some (.bool d.dead) := HX.out.cell 4
  have y0 : v1.cell? ⟨(w.heap.size + 1), 0, none⟩ = some (.int .i64 j.x.g) := HJ.out.cell 0
  have y1 : v1.cell? ⟨(w.heap.size + 1), 1, none⟩ = some (.int .i64 j.x.e) := HJ.out.cell 1
  have y2 : v1.cell? ⟨(w.heap.size + 1), 2, none⟩ = some (.int .i64 j.x.a) := HJ.out.cell 2
  have y3 : v1.cell? ⟨(w.heap.size + 1), 3, none⟩ = some (.int .i64 j.x.z) := HJ.out.cell 3
  have y4 : v1.cell? ⟨(w.heap.size + 1), 4, none⟩ = some (.int .i64 j.x.p) := HJ.out.cell 4
  have y5 : v1.cell? ⟨(w.heap.size + 1), 5, none⟩ = some (.int .i64 j.n) := HJ.out.cell 5
  have y6 : v1.cell? ⟨(w.heap.size + 1), 6, none⟩ = some (.int .i64 j.r) := HJ.out.cell 6
  have t0 : v1.cell? ⟨(w.heap.size + 2), 0, none⟩ = some (.int .i64 k) := HT.out.cell 0
  have t1 : v1.cell? ⟨(w.heap.size + 2), 1, none⟩ = some (.string (bs l)) := HT.out.cell 1
  have t2 : v1.cell? ⟨(w.heap.size + 2), 2, none⟩ = some (.int .i64 p) := HT.out.cell 2
  go_wp2_with fail
  refine (Rres_use _ _ _ _ d nd j nj l p e _ HD.out hl hp HA0.out).mono ?_
  simp only [jnV]
  rintro er w2 ⟨a3, c3, a4, c4, rfl, hL, hb1⟩
  clear x0 x1 x2 x3 x4
  clear y0 y1 y2 y3 y4 y5 y6
  clear t0 t1 t2
  have hal := ((Below.refl w2.heap.size w2).alloc (Nat.le_refl _) (.cells #[.slice a3 nd.S.length c3, .slice a4 nd.P.length c4, .int .i64 nd.fuse, .int .i64 nd.ops, .bool nd.dead] 38)).alloc (by simp) (.cells #[.int .i64 nj.x.g, .int .i64 nj.x.e, .int .i64 nj.x.a, .int .i64 nj.x.z, .int .i64 nj.x.p, .int .i64 nj.n, .int .i64 nj.r] 57)
  have HE := Lib.hid ((Bx.new w2 #[.slice a3 nd.S.length c3, .slice a4 nd.P.length c4, .int .i64 nd.fuse, .int .i64 nd.ops, .bool nd.dead] 38).alloc (.cells #[.int .i64 nj.x.g, .int .i64 nj.x.e, .int .i64 nj.x.a, .int .i64 nj.x.z, .int .i64 nj.x.p, .int .i64 nj.n, .int .i64 nj.r] 57)); have HJE := Lib.hid (Bx.new1 w2 (.cells #[.slice a3 nd.S.length c3, .slice a4 nd.P.length c4, .int .i64 nd.fuse, .int .i64 nd.ops, .bool nd.dead] 38) #[.int .i64 nj.x.g, .int .i64 nj.x.e, .int .i64 nj.x.a, .int .i64 nj.x.z, .int .i64 nj.x.p, .int .i64 nj.n, .int .i64 nj.r] 57); have HLE := Lib.hid (hL.below hal)
  have HX := Lib.hid ((HX.out.call hb1).call hal)
  have HJ := Lib.hid ((HJ.out.call hb1).call hal)
  have HT := Lib.hid ((HT.out.call hb1).call hal)
  have HA := Lib.hid ((HA.out.call hb1).call hal)
  have HJA := Lib.hid ((HJA.out.call hb1).call hal)
  have HD := Lib.hid ((HD.out.below hb1).below hal)
  have HLA := Lib.hid ((HLA.out.below hb1).below hal)
  have HB := Lib.hid (btrans (btrans HB.out HB.out.size hb1) (btrans HB.out HB.out.size hb1).size hal); clear hb1 hL hal
  go_upto_region 3 with (fail)
  generalize hW : (w2.alloc (.cells #[.slice a3 nd.S.length c3, .slice a4 nd.P.length c4, .int .i64 nd.fuse, .int .i64 nd.ops, .bool nd.dead] 38)).alloc (.cells #[.int .i64 nj.x.g, .int .i64 nj.x.e, .int .i64 nj.x.a, .int .i64 nj.x.z, .int .i64 nj.x.p, .int .i64 nj.n, .int .i64 nj.r] 57) = v2 at HX HJ HT HD HB HE HJE HLE HA HJA HLA ⊢
  clear hW
  have x0 : v2.cell? ⟨w1.heap.size, 0, none⟩ = some (.slice a1 nd.S.length c1) := HA.out.cell 0
  have x1 : v2.cell? ⟨w1.heap.size, 1, none⟩ = some (.slice a2 nd.P.length c2) := HA.out.cell 1
  have x2 : v2.cell? ⟨w1.heap.size, 2, none⟩ = some (.int .i64 nd.fuse) := HA.out.cell 2
  have x3 : v2.cell? ⟨w1.heap.size, 3, none⟩ = some (.int .i64 nd.ops) := HA.out.cell 3
  have x4 : v2.cell? ⟨w1.heap.size, 4, none⟩ = some (.bool nd.dead) := HA.out.cell 4
  have y0 : v2.cell? ⟨w2.heap.size, 0, none⟩ = some (.slice a3 nd.S.length c3) := HE.out.cell 0
  have y1 : v2.cell? ⟨w2.heap.size, 1, none⟩ = some (.slice a4 nd.P.length c4) := HE.out.cell 1
  have y2 : v2.cell? ⟨w2.heap.size, 2, none⟩ = some (.int .i64 nd.fuse) := HE.out.cell 2
  have y3 : v2.cell? ⟨w2.heap.size, 3, none⟩ = some (.int .i64 nd.ops) := HE.out.cell 3
  have y4 : v2.cell? ⟨w2.heap.size, 4, none⟩ = some (.bool nd.dead) := HE.out.cell 4
  go_wp2_with fail
  refine (RSame_any _ _ _ _ _ _ _ _ nd _ HLA.out HLE.out).mono ?_
  rintro er w3 ⟨rfl, hb3⟩
  clear x0 x1 x2 x3 x4
  clear y0 y1 y2 y3 y4
  have HJA := Lib.hid (HJA.out.call hb3); have HJE := Lib.hid (HJE.out.call hb3); have HB := Lib.hid (btrans HB.out HB.out.size hb3); clear hb3
  have x0 : w3.cell? ⟨(w1.heap.size + 1), 0, none⟩ = some (.int .i64 nj.x.g) := HJA.out.cell 0
  have x1 : w3.cell? ⟨(w1.heap.size + 1), 1, none⟩ = some (.int .i64 nj.x.e) := HJA.out.cell 1
  have x2 : w3.cell? ⟨(w1.heap.size + 1), 2, none⟩ = some (.int .i64 nj.x.a) := HJA.out.cell 2
  have x3 : w3.cell? ⟨(w1.heap.size + 1), 3, none⟩ = some (.int .i64 nj.x.z) := HJA.out.cell 3
  have x4 : w3.cell? ⟨(w1.heap.size + 1), 4, none⟩ = some (.int .i64 nj.x.p) := HJA.out.cell 4
  have x5 : w3.cell? ⟨(w1.heap.size + 1), 5, none⟩ = some (.int .i64 nj.n) := HJA.out.cell 5
  have x6 : w3.cell? ⟨(w1.heap.size + 1), 6, none⟩ = some (.int .i64 nj.r) := HJA.out.cell 6
  have y0 : w3.cell? ⟨(w2.heap.size + 1), 0, none⟩ = some (.int .i64 nj.x.g) := HJE.out.cell 0
  have y1 : w3.cell? ⟨(w2.heap.size + 1), 1, none⟩ = some (.int .i64 nj.x.e) := HJE.out.cell 1
  have y2 : w3.cell? ⟨(w2.heap.size + 1), 2, none⟩ = some (.int .i64 nj.x.a) := HJE.out.cell 2
  have y3 : w3.cell? ⟨(w2.heap.size + 1), 3, none⟩ = some (.int .i64 nj.x.z) := HJE.out.cell 3
  have y4 : w3.cell? ⟨(w2.heap.size + 1), 4, none⟩ = some (.int .i64 nj.x.p) := HJE.out.cell 4
  have y5 : w3.cell? ⟨(w2.heap.size + 1), 5, none⟩ = some (.int .i64 nj.n) := HJE.out.cell 5
  have y6 : w3.cell? ⟨(w2.heap.size + 1), 6, none⟩ = some (.int .i64 nj.r) := HJE.out.cell 6
  go_wp2_with fail
  refine (wexamples_any _).mono ?_
  rintro er w6 ⟨rfl, hb6⟩
  clear x0 x1 x2 x3 x4 x5 x6
  clear y0 y1 y2 y3 y4 y5 y6
  go_wp2_with fail
  go_ret
  exact ⟨rfl, btrans HB.out HB.out.size hb6⟩
theorem resetsLaw (sa : Option Addr) (sc : Nat) (pa : Option Addr) (pc : Nat) (d : Dk) {w0 : World} (g1 : StrS w0 (.slice sa d.S.length sc) d.S) (g2 : WrS w0 (.slice pa d.P.length pc) d.P) (g3 : d.P.length ≤ 5864062014805) (g4 : d.S.length ≤ 9000000000000) (j : Jn) (k : Int) (l : List UInt8) (p : Int) (hl : l.length ≤ 140737488351232) (w : World) (hw : w0 = w := by rfl) :
    Calls Try.prog 12 #[.agg #[.slice sa d.S.length sc, .slice pa d.P.length pc, .int .i64 d.fuse, .int .i64 d.ops, .bool d.dead], .agg (jnV j), .agg #[.int .i64 k, .string (bs l), .int .i64 p]] w fun e w' => e = .returned (.bool true) ∧ Below w.heap.size w w' := by
  subst hw; exact resetsWalk sa pa sc pc d j k l p w0 ⟨g1, g2, by omega, g4⟩ (by omega) (by omega)
end Go.Proofs.Ytkpfkknldeafkaa
