/- The walk of WalAppends. No conditions. -/
import Derived.Test.YtkpfkknldeafkaaWalTwo
import Derived.Test.YtkpfkknldeafkaaSupOne
namespace Go.Proofs.Ytkpfkknldeafkaa
open Go.RowKit

theorem Rapp_use (sa pa : Option Addr) (sc pc : Nat) (d nd : Dk) (j j2 : Jn) (l : List UInt8) (e0 : Int) (w : World) (hD : Lists w sa sc pa pc d) (hl : l.length ≤ 1000000000000000) (hp : d.P.length ≤ 8000000000000) (hq : appW d j l = (nd, j2, e0)) :
    Calls Try.prog 42 #[.agg #[.slice sa d.S.length sc, .slice pa d.P.length pc, .int .i64 d.fuse, .int .i64 d.ops, .bool d.dead], .agg (jnV j), .string (bs l)] w fun E w' => ∃ a1 c1 a2 c2, E = .returned (.tuple #[.agg #[.slice a1 nd.S.length c1, .slice a2 nd.P.length c2, .int .i64 nd.fuse, .int .i64 nd.ops, .bool nd.dead], .agg (jnV j2), .int .i64 e0]) ∧ Lists w' a1 c1 a2 c2 nd ∧ Below w.heap.size w w' := by
  refine (Rapp_any sa pa sc pc d j l w hD hl hp).mono ?_
  rw [hq]
  rintro E w' ⟨a1, c1, a2, c2, rfl, hL, hB⟩
  exact ⟨a1, c1, a2, c2, rfl, hL, hB⟩

set_option maxRecDepth 100000 in
set_option maxHeartbeats 64000000 in
theorem appendsWalk (sa pa : Option Addr) (sc pc : Nat) (d : Dk) (j : Jn) (l : List UInt8) (w : World) (hD : Lists w sa sc pa pc d) (hl : l.length ≤ 1000000000000000) (hp : d.P.length ≤ 8000000000000) :
    Calls Try.prog 11 #[.agg #[.slice sa d.S.length sc, .slice pa d.P.length pc, .int .i64 d.fuse, .int .i64 d.ops, .bool d.dead], .agg (jnV j), .string (bs l)] w fun e w' => e = .returned (.bool true) ∧ Below w.heap.size w w' := by
  obtain ⟨⟨nd, nj, e⟩, ha⟩ : ∃ r, appW d j l = r := ⟨_, rfl⟩
  have HA0 := Lib.hid ha; clear ha
  simp only [jnV]
  have hb0 := (((Below.refl w.heap.size w).alloc (Nat.le_refl _) (.cells #[.slice sa d.S.length sc, .slice pa d.P.length pc, .int .i64 d.fuse, .int .i64 d.ops, .bool d.dead] 38)).alloc (by simp) (.cells #[.int .i64 j.x.g, .int .i64 j.x.e, .int .i64 j.x.a, .int .i64 j.x.z, .int .i64 j.x.p, .int .i64 j.n, .int .i64 j.r] 57))
  have h_HX := ((Bx.new w #[.slice sa d.S.length sc, .slice pa d.P.length pc, .int .i64 d.fuse, .int .i64 d.ops, .bool d.dead] 38).alloc (.cells #[.int .i64 j.x.g, .int .i64 j.x.e, .int .i64 j.x.a, .int .i64 j.x.z, .int .i64 j.x.p, .int .i64 j.n, .int .i64 j.r] 57))
  have h_HJ := (Bx.new (w.alloc (.cells #[.slice sa d.S.length sc, .slice pa d.P.length pc, .int .i64 d.fuse, .int .i64 d.ops, .bool d.dead] 38)) #[.int .i64 j.x.g, .int .i64 j.x.e, .int .i64 j.x.a, .int .i64 j.x.z, .int .i64 j.x.p, .int .i64 j.n, .int .i64 j.r] 57)
  rw [show (w.alloc (.cells #[.slice sa d.S.length sc, .slice pa d.P.length pc, .int .i64 d.fuse, .int .i64 d.ops, .bool d.dead] 38)).heap.size = w.heap.size + 1 by simp] at h_HJ
  have HB := Lib.hid hb0; have HX := Lib.hid h_HX; have HJ := Lib.hid h_HJ
  clear hb0 h_HX h_HJ
  have HD := Lib.hid (hD.below HB.out)
  go_enter Try.func11, Try.ntmps11
  go_upto_region 1 with (fail)
  generalize hW0 : (w.alloc (.cells #[.slice sa d.S.length sc, .slice pa d.P.length pc, .int .i64 d.fuse, .int .i64 d.ops, .bool d.dead] 38)).alloc (.cells #[.int .i64 j.x.g, .int .i64 j.x.e, .int .i64 j.x.a, .int .i64 j.x.z, .int .i64 j.x.p, .int .i64 j.n, .int .i64 j.r] 57) = v0 at HB HD HX HJ ⊢
  clear hW0
  have x0 : v0.cell? ⟨w.heap.size, 0, none⟩ = some (.slice sa d.S.length sc) := HX.out.cell 0
  have x1 : v0.cell? ⟨w.heap.size, 1, none⟩ = some (.slice pa d.P.length pc) := HX.out.cell 1
  have x2 : v0.cell? ⟨w.heap.size, 2, none⟩ = some (.int .i64 d.fuse) := HX.out.cell 2
  have x3 : v0.cell? ⟨w.heap.size, 3, none⟩ = some (.int .i64 d.ops) := HX.out.cell 3
  have x4 : v0.cell? ⟨w.heap.size, 4, none⟩ = some (.bool d.dead) := HX.out.cell 4
  have y0 : v0.cell? ⟨(w.heap.size + 1), 0, none⟩ = some (.int .i64 j.x.g) := HJ.out.cell 0
  have y1 : v0.cell? ⟨(w.heap.size + 1), 1, none⟩ = some (.int .i64 j.x.e) := HJ.out.cell 1
  have y2 : v0.cell? ⟨(w.heap.size + 1), 2, none⟩ = some (.int .i64 j.x.a) := HJ.out.cell 2
  have y3 : v0.cell? ⟨(w.heap.size + 1), 3, none⟩ = some (.int .i64 j.x.z) := HJ.out.cell 3
  have y4 : v0.cell? ⟨(w.heap.size + 1), 4, none⟩ = some (.int .i64 j.x.p) := HJ.out.cell 4
  have y5 : v0.cell? ⟨(w.heap.size + 1), 5, none⟩ = some (.int .i64 j.n) := HJ.out.cell 5
  have y6 : v0.cell? ⟨(w.heap.size + 1), 6, none⟩ = some (.int .i64 j.r) := HJ.out.cell 6
  go_wp2_with fail
  refine (appW_use _ _ _ _ d nd j nj l e _ HD.out hl hp HA0.out).mono ?_
  simp only [jnV]
  rintro er w1 ⟨a1, c1, a2, c2, rfl, hL, hb1⟩
  clear x0 x1 x2 x3 x4
  clear y0 y1 y2 y3 y4 y5 y6
  have hal := ((Below.refl w1.heap.size w1).alloc (Nat.le_refl _) (.cells #[.slice a1 nd.S.length c1, .slice a2 nd.P.length c2, .int .i64 nd.fuse, .int .i64 nd.ops, .bool nd.dead] 38)).alloc (by simp) (.cells #[.int .i64 nj.x.g, .int .i64 nj.x.e, .int .i64 nj.x.a, .int .i64 nj.x.z, .int .i64 nj.x.p, .int .i64 nj.n, .int .i64 nj.r] 57)
  have HA := Lib.hid ((Bx.new w1 #[.slice a1 nd.S.length c1, .slice a2 nd.P.length c2, .int .i64 nd.fuse, .int .i64 nd.ops, .bool nd.dead] 38).alloc (.cells #[.int .i64 nj.x.g, .int .i64 nj.x.e, .int .i64 nj.x.a, .int .i64 nj.x.z, .int .i64 nj.x.p, .int .i64 nj.n, .int .i64 nj.r] 57)); have HJA := Lib.hid (Bx.new1 w1 (.cells #[.slice a1 nd.S.length c1, .slice a2 nd.P.length c2, .int .i64 nd.fuse, .int .i64 nd.ops, .bool nd.dead] 38) #[.int .i64 nj.x.g, .int .i64 nj.x.e, .int .i64 nj.x.a, .int .i64 nj.x.z, .int .i64 nj.x.p, .int .i64 nj.n, .int .i64 nj.r] 57); have HLA := Lib.hid (hL.below hal)
  have HX := Lib.hid ((HX.out.call hb1).call hal)
  have HJ := Lib.hid ((HJ.out.call hb1).call hal)
  have HD := Lib.hid ((HD.out.below hb1).below hal)
  have HB := Lib.hid (btrans (btrans HB.out HB.out.size hb1) (btrans HB.out HB.out.size hb1).size hal); clear hb1 hL hal
  go_upto_region 2 with (fail)
  generalize hW : (w1.alloc (.cells #[.slice a1 nd.S.length c1, .slice a2 nd.P.length c2, .int .i64 nd.fuse, .int .i64 nd.ops, .bool nd.dead] 38)).alloc (.cells #[.int .i64 nj.x.g, .int .i64 nj.x.e, .int .i64 nj.x.a, .int .i64 nj.x.z, .int .i64 nj.x.p, .int .i64 nj.n, .int .i64 nj.r] 57) = v1 at HX HJ HD HB HA HJA HLA ⊢
  clear hW
  have x0 : v1.cell? ⟨w.heap.size, 0, none⟩ = some (.slice sa d.S.length sc) := HX.out.cell 0
  have x1 : v1.cell? ⟨w.heap.size, 1, none⟩ = some (.slice pa d.P.length pc) := HX.out.cell 1
  have x2 : v1.cell? ⟨w.heap.size, 2, none⟩ = some (.int .i64 d.fuse) := HX.out.cell 2
  have x3 : v1.cell? ⟨w.heap.size, 3, none⟩ = some (.int .i64 d.ops) := HX.out.cell 3
  have x4 : v1.cell? ⟨w.heap.size, 4, none⟩ = some (.bool d.dead) := HX.out.cell 4
  have y0 : v1.cell? ⟨(w.heap.size + 1), 0, none⟩ = some (.int .i64 j.x.g) := HJ.out.cell 0
  have y1 : v1.cell? ⟨(w.heap.size + 1), 1, none⟩ = some (.int .i64 j.x.e) := HJ.out.cell 1
  have y2 : v1.cell? ⟨(w.heap.size + 1), 2, none⟩ = some (.int .i64 j.x.a) := HJ.out.cell 2
  have y3 : v1.cell? ⟨(w.heap.size + 1), 3, none⟩ = some (.int .i64 j.x.z) := HJ.out.cell 3
  have y4 : v1.cell? ⟨(w.heap.size + 1), 4, none⟩ = some (.int .i64 j.x.p) := HJ.out.cell 4
  have y5 : v1.cell? ⟨(w.heap.size + 1), 5, none⟩ = some (.int .i64 j.n) := HJ.out.cell 5
  have y6 : v1.cell? ⟨(w.heap.size + 1), 6, none⟩ = some (.int .i64 j.r) := HJ.out.cell 6
  go_wp2_with fail
  refine (Rapp_use _ _ _ _ d nd j nj l e _ HD.out hl hp HA0.out).mono ?_
  simp only [jnV]
  rintro er w2 ⟨a3, c3, a4, c4, rfl, hL, hb1⟩
  clear x0 x1 x2 x3 x4
  clear y0 y1 y2 y3 y4 y5 y6
  have hal := ((Below.refl w2.heap.size w2).alloc (Nat.le_refl _) (.cells #[.slice a3 nd.S.length c3, .slice a4 nd.P.length c4, .int .i64 nd.fuse, .int .i64 nd.ops, .bool nd.dead] 38)).alloc (by simp) (.cells #[.int .i64 nj.x.g, .int .i64 nj.x.e, .int .i64 nj.x.a, .int .i64 nj.x.z, .int .i64 nj.x.p, .int .i64 nj.n, .int .i64 nj.r] 57)
  have HE := Lib.hid ((Bx.new w2 #[.slice a3 nd.S.length c3, .slice a4 nd.P.length c4, .int .i64 nd.fuse, .int .i64 nd.ops, .bool nd.dead] 38).alloc (.cells #[.int .i64 nj.x.g, .int .i64 nj.x.e, .int .i64 nj.x.a, .int .i64 nj.x.z, .int .i64 nj.x.p, .int .i64 nj.n, .int .i64 nj.r] 57)); have HJE := Lib.hid (Bx.new1 w2 (.cells #[.slice a3 nd.S.length c3, .slice a4 nd.P.length c4, .int .i64 nd.fuse, .int .i64 nd.ops, .bool nd.dead] 38) #[.int .i64 nj.x.g, .int .i64 nj.x.e, .int .i64 nj.x.a, .int .i64 nj.x.z, .int .i64 nj.x.p, .int .i64 nj.n, .int .i64 nj.r] 57); have HLE := Lib.hid (hL.below hal)
  have HX := Lib.hid ((HX.out.call hb1).call hal)
  have HJ := Lib.hid ((HJ.out.call hb1).call hal)
  have HA := Lib.hid ((HA.out.call hb1).call hal)
  have HJA := Lib.hid ((HJA.out.call hb1).call hal)
  have HD := Lib.hid ((HD.out.below hb1).below hal)
  have HLA := Lib.hid ((HLA.out.below hb1).below hal)
  have HB := Lib.hid (btrans (btrans HB.out HB.out.size hb1) (btrans HB.out HB.out.size hb1).size hal); clear hb1 hL hal
  go_upto_region 3 with (fail)
  generalize hW : (w2.alloc (.cells #[.slice a3 nd.S.length c3, .slice a4 nd.P.length c4, .int .i64 nd.fuse, .int .i64 nd.ops, .bool nd.dead] 38)).alloc (.cells #[.int .i64 nj.x.g, .int .i64 nj.x.e, .int .i64 nj.x.a, .int .i64 nj.x.z, .int .i64 nj.x.p, .int .i64 nj.n, .int .i64 nj.r] 57) = v2 at HX HJ HD HB HE HJE HLE HA HJA HLA ⊢
  clear hW
  have hs0 : Bx w1.heap.size #[.slice a1 nd.S.length c1, .slice a2 nd.P.length c2, .int .i64 nd.fuse, .int .i64 nd.ops, .bool nd.dead] 38 v2.drew ∧ Bx w2.heap.size #[.slice a3 nd.S.length c3, .slice a4 nd.P.length c4, .int .i64 nd.fuse, .int .i64 nd.ops, .bool nd.dead] 38 v2.drew ∧ Bx (w1.heap.size + 1) #[.int .i64 nj.x.g, .int .i64 nj.x.e, .int .i64 nj.x.a, .int .i64 nj.x.z, .int .i64 nj.x.p, .int .i64 nj.n, .int .i64 nj.r] 57 v2.drew ∧ Bx (w2.heap.size + 1) #[.int .i64 nj.x.g, .int .i64 nj.x.e, .int .i64 nj.x.a, .int .i64 nj.x.z, .int .i64 nj.x.p, .int .i64 nj.n, .int .i64 nj.r] 57 v2.drew ∧ Bx w.heap.size #[.slice sa d.S.length sc, .slice pa d.P.length pc, .int .i64 d.fuse, .int .i64 d.ops, .bool d.dead] 38 v2.drew ∧ Bx (w.heap.size + 1) #[.int .i64 j.x.g, .int .i64 j.x.e, .int .i64 j.x.a, .int .i64 j.x.z, .int .i64 j.x.p, .int .i64 j.n, .int .i64 j.r] 57 v2.drew := ⟨HA.out, HE.out, HJA.out, HJE.out, HX.out, HJ.out⟩
  have HS0 := Lib.hid hs0; clear hs0
  go_wp2_with fail
  refine wp_region_held_drew (S := (fun w' => Bx w1.heap.size #[.slice a1 nd.S.length c1, .slice a2 nd.P.length c2, .int .i64 nd.fuse, .int .i64 nd.ops, .bool nd.dead] 38 w' ∧ Bx w2.heap.size #[.slice a3 nd.S.length c3, .slice a4 nd.P.length c4, .int .i64 nd.fuse, .int .i64 nd.ops, .bool nd.dead] 38 w' ∧ Bx (w1.heap.size + 1) #[.int .i64 nj.x.g, .int .i64 nj.x.e, .int .i64 nj.x.a, .int .i64 nj.x.z, .int .i64 nj.x.p, .int .i64 nj.n, .int .i64 nj.r] 57 w' ∧ Bx (w2.heap.size + 1) #[.int .i64 nj.x.g, .int .i64 nj.x.e, .int .i64 nj.x.a, .int .i64 nj.x.z, .int .i64 nj.x.p, .int .i64 nj.n, .int .i64 nj.r] 57 w' ∧ Bx w.heap.size #[.slice sa d.S.length sc, .slice pa d.P.length pc, .int .i64 d.fuse, .int .i64 d.ops, .bool d.dead] 38 w' ∧ Bx (w.heap.size + 1) #[.int .i64 j.x.g, .int .i64 j.x.e, .int .i64 j.x.a, .int .i64 j.x.z, .int .i64 j.x.p, .int .i64 j.n, .int .i64 j.r] 57 w')) (by kernel_rfl) ?_ (fun hHeld => ?_)
  · exact HS0.out
  refine takeH (i := 0) (v := ?vv1) 29 rfl rfl (by kernel_rfl) (by kernel_rfl) (by kernel_rfl) (fun _ _ _ h => h) (Or.inl ⟨by kernel_rfl, ?yy1⟩) (by assumption) ?_
  case yy1 =>
    intro wq hSw
    have c0_0 : wq.cell? ⟨w1.heap.size, 0, none⟩ = some (.slice a1 nd.S.length c1) := (hSw.1).cell 0
    have c0_1 : wq.cell? ⟨w1.heap.size, 1, none⟩ = some (.slice a2 nd.P.length c2) := (hSw.1).cell 1
    have c0_2 : wq.cell? ⟨w1.heap.size, 2, none⟩ = some (.int .i64 nd.fuse) := (hSw.1).cell 2
    have c0_3 : wq.cell? ⟨w1.heap.size, 3, none⟩ = some (.int .i64 nd.ops) := (hSw.1).cell 3
    have c0_4 : wq.cell? ⟨w1.heap.size, 4, none⟩ = some (.bool nd.dead) := (hSw.1).cell 4
    clear hSw
    go_simp
    (try with_reducible rfl)
  simp only [List.setIfInBounds_toArray, List.set_cons_zero, List.set_cons_succ]
  refine takeH (i := 1) (v := ?vv2) 30 rfl rfl (by kernel_rfl) (by kernel_rfl) (by kernel_rfl) (fun _ _ _ h => h) (Or.inl ⟨by kernel_rfl, ?yy2⟩) (by assumption) ?_
  case yy2 =>
    intro wq hSw
    have c1_0 : wq.cell? ⟨w2.heap.size, 0, none⟩ = some (.slice a3 nd.S.length c3) := (hSw.2.1).cell 0
    have c1_1 : wq.cell? ⟨w2.heap.size, 1, none⟩ = some (.slice a4 nd.P.length c4) := (hSw.2.1).cell 1
    have c1_2 : wq.cell? ⟨w2.heap.size, 2, none⟩ = some (.int .i64 nd.fuse) := (hSw.2.1).cell 2
    have c1_3 : wq.cell? ⟨w2.heap.size, 3, none⟩ = some (.int .i64 nd.ops) := (hSw.2.1).cell 3
    have c1_4 : wq.cell? ⟨w2.heap.size, 4, none⟩ = some (.bool nd.dead) := (hSw.2.1).cell 4
    clear hSw
    go_simp
    (try with_reducible rfl)
  simp only [List.setIfInBounds_toArray, List.set_cons_zero, List.set_cons_succ]
  refine wpAnyH_ready (rs := [2]) (by kernel_rfl) (by simp) ?_
  refine (AllReadyH.cons rfl (fun K hK => ?_) AllReadyH.nil)
  go_simp
  (refine (RSame_any _ _ _ _ _ _ _ _ nd _ (HLA.out.below (Below.refl v2.heap.size v2).drew) (HLE.out.below (Below.refl v2.heap.size v2).drew)).mono ?_; rintro er w3 ⟨rfl, hb3⟩)
  (try go_wp2_with fail)
  refine hK.out _ _ ?_ (fun hHeld => ?_)
  · exact ⟨hHeld.1.call hb3, hHeld.2.1.call hb3, hHeld.2.2.1.call hb3, hHeld.2.2.2.1.call hb3, hHeld.2.2.2.2.1.call hb3, hHeld.2.2.2.2.2.call hb3⟩
  clear hK K
  (try simp only [Act.put, List.setIfInBounds_toArray, List.set_cons_zero, List.set_cons_succ])
  refine takeH (i := 3) (v := ?vv3) 32 rfl rfl (by kernel_rfl) (by kernel_rfl) (by kernel_rfl) (fun _ _ _ h => h) (Or.inl ⟨by kernel_rfl, ?yy3⟩) (by assumption) ?_
  case yy3 => intro w hSw; (try dsimp only at hSw); go_simp; (try with_reducible rfl)
  simp only [List.setIfInBounds_toArray, List.set_cons_zero, List.set_cons_succ]
  refine takeH (i := 4) (v := ?vv4) 33 rfl rfl (by kernel_rfl) (by kernel_rfl) (by kernel_rfl) (fun _ _ _ h => h) (Or.inl ⟨by kernel_rfl, ?yy4⟩) (by assumption) ?_
  case yy4 =>
    intro wq hSw
    have c2_0 : wq.cell? ⟨(w1.heap.size + 1), 0, none⟩ = some (.int .i64 nj.x.g) := (hSw.2.2.1).cell 0
    have c2_1 : wq.cell? ⟨(w1.heap.size + 1), 1, none⟩ = some (.int .i64 nj.x.e) := (hSw.2.2.1).cell 1
    have c2_2 : wq.cell? ⟨(w1.heap.size + 1), 2, none⟩ = some (.int .i64 nj.x.a) := (hSw.2.2.1).cell 2
    have c2_3 : wq.cell? ⟨(w1.heap.size + 1), 3, none⟩ = some (.int .i64 nj.x.z) := (hSw.2.2.1).cell 3
    have c2_4 : wq.cell? ⟨(w1.heap.size + 1), 4, none⟩ = some (.int .i64 nj.x.p) := (hSw.2.2.1).cell 4
    have c2_5 : wq.cell? ⟨(w1.heap.size + 1), 5, none⟩ = some (.int .i64 nj.n) := (hSw.2.2.1).cell 5
    have c2_6 : wq.cell? ⟨(w1.heap.size + 1), 6, none⟩ = some (.int .i64 nj.r) := (hSw.2.2.1).cell 6
    clear hSw
    go_simp
    (try with_reducible rfl)
  simp only [List.setIfInBounds_toArray, List.set_cons_zero, List.set_cons_succ]
  refine takeH (i := 5) (v := ?vv5) 34 rfl rfl (by kernel_rfl) (by kernel_rfl) (by kernel_rfl) (fun _ _ _ h => h) (Or.inl ⟨by kernel_rfl, ?yy5⟩) (by assumption) ?_
  case yy5 =>
    intro wq hSw
    have c3_0 : wq.cell? ⟨(w2.heap.size + 1), 0, none⟩ = some (.int .i64 nj.x.g) := (hSw.2.2.2.1).cell 0
    have c3_1 : wq.cell? ⟨(w2.heap.size + 1), 1, none⟩ = some (.int .i64 nj.x.e) := (hSw.2.2.2.1).cell 1
    have c3_2 : wq.cell? ⟨(w2.heap.size + 1), 2, none⟩ = some (.int .i64 nj.x.a) := (hSw.2.2.2.1).cell 2
    have c3_3 : wq.cell? ⟨(w2.heap.size + 1), 3, none⟩ = some (.int .i64 nj.x.z) := (hSw.2.2.2.1).cell 3
    have c3_4 : wq.cell? ⟨(w2.heap.size + 1), 4, none⟩ = some (.int .i64 nj.x.p) := (hSw.2.2.2.1).cell 4
    have c3_5 : wq.cell? ⟨(w2.heap.size + 1), 5, none⟩ = some (.int .i64 nj.n) := (hSw.2.2.2.1).cell 5
    have c3_6 : wq.cell? ⟨(w2.heap.size + 1), 6, none⟩ = some (.int .i64 nj.r) := (hSw.2.2.2.1).cell 6
    clear hSw
    go_simp
    (try with_reducible rfl)
  simp only [List.setIfInBounds_toArray, List.set_cons_zero, List.set_cons_succ]
  refine takeH (i := 6) (v := ?vv6) 35 rfl rfl (by kernel_rfl) (by kernel_rfl) (by kernel_rfl) (fun _ _ _ h => h) (Or.inl ⟨by kernel_rfl, ?yy6⟩) (by assumption) ?_
  case yy6 => intro w hSw; (try dsimp only at hSw); go_simp; (try with_reducible rfl)
  simp only [List.setIfInBounds_toArray, List.set_cons_zero, List.set_cons_succ]
  refine takeH (i := 7) (v := ?vv7) 36 rfl rfl (by kernel_rfl) (by kernel_rfl) (by kernel_rfl) (fun _ _ _ h => h) (Or.inl ⟨by kernel_rfl, ?yy7⟩) (by assumption) ?_
  case yy7 => intro w hSw; (try dsimp only at hSw); go_simp; (try with_reducible rfl)
  simp only [List.setIfInBounds_toArray, List.set_cons_zero, List.set_cons_succ]
  refine takeH (i := 8) (v := ?vv8) 37 rfl rfl (by kernel_rfl) (by kernel_rfl) (by kernel_rfl) (fun _ _ _ h => h) (Or.inl ⟨by kernel_rfl, ?yy8⟩) (by assumption) ?_
  case yy8 => intro w hSw; (try dsimp only at hSw); go_simp; (try with_reducible rfl)
  simp only [List.setIfInBounds_toArray, List.set_cons_zero, List.set_cons_succ]
  refine takeH (i := 9) (v := ?vv9) 38 rfl rfl (by kernel_rfl) (by kernel_rfl) (by kernel_rfl) (fun _ _ _ h => h) (Or.inl ⟨by kernel_rfl, ?yy9⟩) (by assumption) ?_
  case yy9 => intro w hSw; (try dsimp only at hSw); go_simp; (try with_reducible rfl)
  simp only [List.setIfInBounds_toArray, List.set_cons_zero, List.set_cons_succ]
  refine takeH (i := 10) (v := ?vv10) 39 rfl rfl (by kernel_rfl) (by kernel_rfl) (by kernel_rfl) (fun _ _ _ h => h) (Or.inl ⟨by kernel_rfl, ?yy10⟩) (by assumption) ?_
  case yy10 => intro w hSw; (try dsimp only at hSw); go_simp; (try with_reducible rfl)
  simp only [List.setIfInBounds_toArray, List.set_cons_zero, List.set_cons_succ]
  refine takeH (i := 11) (v := ?vv11) 40 rfl rfl (by kernel_rfl) (by kernel_rfl) (by kernel_rfl) (fun _ _ _ h => h) (Or.inl ⟨by kernel_rfl, ?yy11⟩) (by assumption) ?_
  case yy11 => intro w hSw; (try dsimp only at hSw); go_simp; (try with_reducible rfl)
  simp only [List.setIfInBounds_toArray, List.set_cons_zero, List.set_cons_succ]
  refine takeH (i := 12) (v := ?vv12) 41 rfl rfl (by kernel_rfl) (by kernel_rfl) (by kernel_rfl) (fun _ _ _ h => h) (Or.inl ⟨by kernel_rfl, ?yy12⟩) (by assumption) ?_
  case yy12 => intro w hSw; (try dsimp only at hSw); go_simp; (try with_reducible rfl)
  simp only [List.setIfInBounds_toArray, List.set_cons_zero, List.set_cons_succ]
  refine takeH (i := 13) (v := ?vv13) 42 rfl rfl (by kernel_rfl) (by kernel_rfl) (by kernel_rfl) (fun _ _ _ h => h) (Or.inl ⟨by kernel_rfl, ?yy13⟩) (by assumption) ?_
  case yy13 => intro w hSw; (try dsimp only at hSw); go_simp; (try with_reducible rfl)
  simp only [List.setIfInBounds_toArray, List.set_cons_zero, List.set_cons_succ]
  refine takeH (i := 14) (v := ?vv14) 43 rfl rfl (by kernel_rfl) (by kernel_rfl) (by kernel_rfl) (fun _ _ _ h => h) (Or.inl ⟨by kernel_rfl, ?yy14⟩) (by assumption) ?_
  case yy14 =>
    intro wq hSw
    have c4_0 : wq.cell? ⟨w.heap.size, 0, none⟩ = some (.slice sa d.S.length sc) := (hSw.2.2.2.2.1).cell 0
    have c4_1 : wq.cell? ⟨w.heap.size, 1, none⟩ = some (.slice pa d.P.length pc) := (hSw.2.2.2.2.1).cell 1
    have c4_2 : wq.cell? ⟨w.heap.size, 2, none⟩ = some (.int .i64 d.fuse) := (hSw.2.2.2.2.1).cell 2
    have c4_3 : wq.cell? ⟨w.heap.size, 3, none⟩ = some (.int .i64 d.ops) := (hSw.2.2.2.2.1).cell 3
    have c4_4 : wq.cell? ⟨w.heap.size, 4, none⟩ = some (.bool d.dead) := (hSw.2.2.2.2.1).cell 4
    clear hSw
    go_simp
    (try with_reducible rfl)
  simp only [List.setIfInBounds_toArray, List.set_cons_zero, List.set_cons_succ]
  refine takeH (i := 15) (v := ?vv15) 44 rfl rfl (by kernel_rfl) (by kernel_rfl) (by kernel_rfl) (fun _ _ _ h => h) (Or.inl ⟨by kernel_rfl, ?yy15⟩) (by assumption) ?_
  case yy15 =>
    intro wq hSw
    have c5_0 : wq.cell? ⟨(w.heap.size + 1), 0, none⟩ = some (.int .i64 j.x.g) := (hSw.2.2.2.2.2).cell 0
    have c5_1 : wq.cell? ⟨(w.heap.size + 1), 1, none⟩ = some (.int .i64 j.x.e) := (hSw.2.2.2.2.2).cell 1
    have c5_2 : wq.cell? ⟨(w.heap.size + 1), 2, none⟩ = some (.int .i64 j.x.a) := (hSw.2.2.2.2.2).cell 2
    have c5_3 : wq.cell? ⟨(w.heap.size + 1), 3, none⟩ = some (.int .i64 j.x.z) := (hSw.2.2.2.2.2).cell 3
    have c5_4 : wq.cell? ⟨(w.heap.size + 1), 4, none⟩ = some (.int .i64 j.x.p) := (hSw.2.2.2.2.2).cell 4
    have c5_5 : wq.cell? ⟨(w.heap.size + 1), 5, none⟩ = some (.int .i64 j.n) := (hSw.2.2.2.2.2).cell 5
    have c5_6 : wq.cell? ⟨(w.heap.size + 1), 6, none⟩ = some (.int .i64 j.r) := (hSw.2.2.2.2.2).cell 6
    clear hSw
    go_simp
    (try with_reducible rfl)
  simp only [List.setIfInBounds_toArray, List.set_cons_zero, List.set_cons_succ]
  refine takeH (i := 16) (v := ?vv16) 45 rfl rfl (by kernel_rfl) (by kernel_rfl) (by kernel_rfl) (fun _ _ _ h => h) (Or.inl ⟨by kernel_rfl, ?yy16⟩) (by assumption) ?_
  case yy16 => intro w hSw; (try dsimp only at hSw); go_simp; (try with_reducible rfl)
  simp only [List.setIfInBounds_toArray, List.set_cons_zero, List.set_cons_succ]
  refine takeH (i := 18) (v := ?vv17) 47 rfl rfl (by kernel_rfl) (by kernel_rfl) (by kernel_rfl) (fun _ _ _ h => h) (Or.inl ⟨by kernel_rfl, ?yy17⟩) (by assumption) ?_
  case yy17 =>
    intro wq hSw
    have c4_0 : wq.cell? ⟨w.heap.size, 0, none⟩ = some (.slice sa d.S.length sc) := (hSw.2.2.2.2.1).cell 0
    have c4_1 : wq.cell? ⟨w.heap.size, 1, none⟩ = some (.slice pa d.P.length pc) := (hSw.2.2.2.2.1).cell 1
    have c4_2 : wq.cell? ⟨w.heap.size, 2, none⟩ = some (.int .i64 d.fuse) := (hSw.2.2.2.2.1).cell 2
    have c4_3 : wq.cell? ⟨w.heap.size, 3, none⟩ = some (.int .i64 d.ops) := (hSw.2.2.2.2.1).cell 3
    have c4_4 : wq.cell? ⟨w.heap.size, 4, none⟩ = some (.bool d.dead) := (hSw.2.2.2.2.1).cell 4
    clear hSw
    go_simp
    (try with_reducible rfl)
  simp only [List.setIfInBounds_toArray, List.set_cons_zero, List.set_cons_succ]
  refine takeH (i := 19) (v := ?vv18) 48 rfl rfl (by kernel_rfl) (by kernel_rfl) (by kernel_rfl) (fun _ _ _ h => h) (Or.inl ⟨by kernel_rfl, ?yy18⟩) (by assumption) ?_
  case yy18 =>
    intro wq hSw
    have c5_0 : wq.cell? ⟨(w.heap.size + 1), 0, none⟩ = some (.int .i64 j.x.g) := (hSw.2.2.2.2.2).cell 0
    have c5_1 : wq.cell? ⟨(w.heap.size + 1), 1, none⟩ = some (.int .i64 j.x.e) := (hSw.2.2.2.2.2).cell 1
    have c5_2 : wq.cell? ⟨(w.heap.size + 1), 2, none⟩ = some (.int .i64 j.x.a) := (hSw.2.2.2.2.2).cell 2
    have c5_3 : wq.cell? ⟨(w.heap.size + 1), 3, none⟩ = some (.int .i64 j.x.z) := (hSw.2.2.2.2.2).cell 3
    have c5_4 : wq.cell? ⟨(w.heap.size + 1), 4, none⟩ = some (.int .i64 j.x.p) := (hSw.2.2.2.2.2).cell 4
    have c5_5 : wq.cell? ⟨(w.heap.size + 1), 5, none⟩ = some (.int .i64 j.n) := (hSw.2.2.2.2.2).cell 5
    have c5_6 : wq.cell? ⟨(w.heap.size + 1), 6, none⟩ = some (.int .i64 j.r) := (hSw.2.2.2.2.2).cell 6
    clear hSw
    go_simp
    (try with_reducible rfl)
  simp only [List.setIfInBounds_toArray, List.set_cons_zero, List.set_cons_succ]
  refine takeH (i := 20) (v := ?vv19) 49 rfl rfl (by kernel_rfl) (by kernel_rfl) (by kernel_rfl) (fun _ _ _ h => h) (Or.inl ⟨by kernel_rfl, ?yy19⟩) (by assumption) ?_
  case yy19 => intro w hSw; (try dsimp only at hSw); go_simp; (try with_reducible rfl)
  simp only [List.setIfInBounds_toArray, List.set_cons_zero, List.set_cons_succ]
  have hb03 := btrans (Below.refl v2.heap.size v2).drew (Nat.le_refl _) hb3
  refine wpAnyH_ready (rs := [17]) (by kernel_rfl) (by simp) ?_
  refine (AllReadyH.cons rfl (fun K hK => ?_) AllReadyH.nil)
  go_simp
  (refine (Fits_any _ _ _ _ d j l _ (HD.out.below hb03) hl).mono ?_; rintro er w4 ⟨rfl, hb4⟩)
  (try go_wp2_with fail)
  refine hK.out _ _ ?_ (fun hHeld => ?_)
  · exact ⟨hHeld.1.call hb4, hHeld.2.1.call hb4, hHeld.2.2.1.call hb4, hHeld.2.2.2.1.call hb4, hHeld.2.2.2.2.1.call hb4, hHeld.2.2.2.2.2.call hb4⟩
  clear hK K
  (try simp only [Act.put, List.setIfInBounds_toArray, List.set_cons_zero, List.set_cons_succ])
  have hb04 := btrans hb03 hb03.size hb4
  refine wpAnyH_ready (rs := [21]) (by kernel_rfl) (by simp) ?_
  refine (AllReadyH.cons rfl (fun K hK => ?_) AllReadyH.nil)
  go_simp
  (refine (RFits_any _ _ _ _ d j l _ (HD.out.below hb04) hl).mono ?_; rintro er w5 ⟨rfl, hb5⟩)
  (try go_wp2_with fail)
  refine hK.out _ _ ?_ (fun hHeld => ?_)
  · exact ⟨hHeld.1.call hb5, hHeld.2.1.call hb5, hHeld.2.2.1.call hb5, hHeld.2.2.2.1.call hb5, hHeld.2.2.2.2.1.call hb5, hHeld.2.2.2.2.2.call hb5⟩
  clear hK K
  (try simp only [Act.put, List.setIfInBounds_toArray, List.set_cons_zero, List.set_cons_succ])
  have hb05 := btrans hb04 hb04.size hb5
  refine takeH (i := 22) (v := ?vv20) 51 rfl rfl (by kernel_rfl) (by kernel_rfl) (by kernel_rfl) (fun _ _ _ h => h) (Or.inl ⟨by kernel_rfl, ?yy20⟩) (by assumption) ?_
  case yy20 => intro w hSw; (try dsimp only at hSw); go_simp; (try with_reducible rfl)
  simp only [List.setIfInBounds_toArray, List.set_cons_zero, List.set_cons_succ]
  refine takeH (i := 23) (v := ?vv21) 52 rfl rfl (by kernel_rfl) (by kernel_rfl) (by kernel_rfl) (fun _ _ _ h => h) (Or.inl ⟨by kernel_rfl, ?yy21⟩) (by assumption) ?_
  case yy21 => intro w hSw; (try dsimp only at hSw); go_simp; (try with_reducible rfl)
  simp only [List.setIfInBounds_toArray, List.set_cons_zero, List.set_cons_succ]
  refine takeH (i := 24) (v := ?vv22) 53 rfl rfl (by kernel_rfl) (by kernel_rfl) (by kernel_rfl) (fun _ _ _ h => h) (Or.inl ⟨by kernel_rfl, ?yy22⟩) (by assumption) ?_
  case yy22 => intro w hSw; (try dsimp only at hSw); go_simp; (try with_reducible rfl)
  simp only [List.setIfInBounds_toArray, List.set_cons_zero, List.set_cons_succ]
  refine wpAnyH_ready (rs := [25]) (by kernel_rfl) (by simp) ?_
  refine (AllReadyH.cons rfl (fun K hK => ?_) AllReadyH.nil)
  go_simp
  (refine (wexamples_any _).mono ?_; rintro er w6 ⟨rfl, hb6⟩)
  (try go_wp2_with fail)
  refine hK.out _ _ ?_ (fun hHeld => ?_)
  · exact ⟨hHeld.1.call hb6, hHeld.2.1.call hb6, hHeld.2.2.1.call hb6, hHeld.2.2.2.1.call hb6, hHeld.2.2.2.2.1.call hb6, hHeld.2.2.2.2.2.call hb6⟩
  clear hK K
  (try simp only [Act.put, List.setIfInBounds_toArray, List.set_cons_zero, List.set_cons_succ])
  refine takeH (i := 26) (v := ?vv23) 55 rfl rfl (by kernel_rfl) (by kernel_rfl) (by kernel_rfl) (fun _ _ _ h => h) (Or.inl ⟨by kernel_rfl, ?yy23⟩) (by assumption) ?_
  case yy23 => intro w hSw; (try dsimp only at hSw); go_simp; (try with_reducible rfl)
  simp only [List.setIfInBounds_toArray, List.set_cons_zero, List.set_cons_succ]
  refine takeH (i := 27) (v := ?vv24) 6 rfl rfl (by kernel_rfl) (by kernel_rfl) (by kernel_rfl) (fun _ _ _ h => h) (Or.inl ⟨by kernel_rfl, ?yy24⟩) (by assumption) ?_
  case yy24 => intro w hSw; (try dsimp only at hSw); go_simp; (try with_reducible rfl)
  simp only [List.setIfInBounds_toArray, List.set_cons_zero, List.set_cons_succ]
  refine wpAnyH_done (by kernel_rfl) ?_ _
  have hb06 := btrans hb05 hb05.size hb6
  go_wp2_with fail
  go_ret
  exact ⟨rfl, btrans HB.out HB.out.size hb06⟩
theorem appendsLaw (sa : Option Addr) (sc : Nat) (pa : Option Addr) (pc : Nat) (d : Dk) {w0 : World} (g1 : StrS w0 (.slice sa d.S.length sc) d.S) (g2 : WrS w0 (.slice pa d.P.length pc) d.P) (g3 : d.P.length ≤ 5864062014805) (g4 : d.S.length ≤ 9000000000000) (j : Jn) (l : List UInt8) (hl : l.length ≤ 140737488351232) (w : World) (hw : w0 = w := by rfl) :
    Calls Try.prog 11 #[.agg #[.slice sa d.S.length sc, .slice pa d.P.length pc, .int .i64 d.fuse, .int .i64 d.ops, .bool d.dead], .agg (jnV j), .string (bs l)] w fun e w' => e = .returned (.bool true) ∧ Below w.heap.size w w' := by
  subst hw; exact appendsWalk sa pa sc pc d j l w0 ⟨g1, g2, by omega, g4⟩ (by omega) (by omega)
end Go.Proofs.Ytkpfkknldeafkaa
