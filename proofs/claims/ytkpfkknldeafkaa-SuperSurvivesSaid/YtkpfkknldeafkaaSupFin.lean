/- The examples of layer 46 hold. No conditions. How superblocks are read as arguments of layer 46's laws. No conditions. -/
import Derived.Test.YtkpfkknldeafkaaSupAll
import Derived.Test.YtkpfkknldeafkaaSupDec
import Derived.Test.YtkpfkknldeafkaaDiskArgs
namespace Go.Proofs.Ytkpfkknldeafkaa
open Go.RowKit

theorem w_load0 : loadS d16 = (sp0, 20) := by decide +kernel
theorem w_store : (storeS d16 ⟨1, 0, 0, 0, 0⟩).2 = 0 := by decide +kernel
theorem w_load : loadS (storeS d16 ⟨1, 0, 0, 0, 0⟩).1 = (⟨1, 0, 0, 0, 0⟩, 0) := by decide +kernel
theorem w_enc : (encS ⟨1, 0, 0, 0, 0⟩).2 = 0 := by decide +kernel
theorem w_open : openS (encS ⟨1, 0, 0, 0, 0⟩).1 = ((1, 0, 1), [0, 0, 0, 0], 0) := by decide +kernel
theorem w_enc4 : (encS ⟨4, 2, 1, 9, 3⟩).2 = 0 := by decide +kernel
theorem w_enc5 : (encS ⟨5, 0, 0, 0, 0⟩).2 = 0 := by decide +kernel
theorem w_best : bestS (encS ⟨4, 2, 1, 9, 3⟩).1 (encS ⟨5, 0, 0, 0, 0⟩).1 = (⟨5, 0, 0, 0, 0⟩, true) := by decide +kernel
theorem w_sec : (storeS d16 ⟨1, 0, 0, 0, 0⟩).1.S[1]? = some (encS ⟨1, 0, 0, 0, 0⟩).1 := by decide +kernel
theorem w_len : (storeS d16 ⟨1, 0, 0, 0, 0⟩).1.S.length = 16 ∧ (storeS d16 ⟨1, 0, 0, 0, 0⟩).1.P.length = 0 := by decide +kernel
theorem w_lens : (encS ⟨1, 0, 0, 0, 0⟩).1.length = 64 ∧ (encS ⟨4, 2, 1, 9, 3⟩).1.length = 64 ∧ (encS ⟨5, 0, 0, 0, 0⟩).1.length = 64 := by decide +kernel
theorem w_v1 : spB ⟨3, 4, 0, 0, 0⟩ = false := by decide +kernel
theorem w_v2 : spB ⟨1, 0, 0, 0, 0⟩ = true := by decide +kernel

set_option maxRecDepth 100000 in
set_option maxHeartbeats 8000000 in
theorem works_any (w : World) : Calls Try.prog 20 #[] w fun e w' => e = .returned (.bool true) ∧ Below w.heap.size w w' := by
  obtain ⟨d, hd⟩ : ∃ d, d = d16 := ⟨_, rfl⟩
  obtain ⟨dx, hdx⟩ : ∃ q, q = (storeS d16 ⟨1, 0, 0, 0, 0⟩).1 := ⟨_, rfl⟩
  obtain ⟨s, hs⟩ : ∃ q, q = (encS ⟨1, 0, 0, 0, 0⟩).1 := ⟨_, rfl⟩
  obtain ⟨sa, hsa⟩ : ∃ q, q = (encS ⟨4, 2, 1, 9, 3⟩).1 := ⟨_, rfl⟩
  obtain ⟨sb, hsb⟩ : ∃ q, q = (encS ⟨5, 0, 0, 0, 0⟩).1 := ⟨_, rfl⟩
  have E1 := Lib.hid (show newS 16 = (d, 0) by rw [hd]; exact ex2)
  have E2 := Lib.hid (show loadS d = (sp0, 20) by rw [hd]; exact w_load0)
  have E3 := Lib.hid (show storeS d ⟨1, 0, 0, 0, 0⟩ = (dx, 0) by rw [hd, hdx]; exact Prod.ext rfl w_store)
  have E4 := Lib.hid (show loadS dx = (⟨1, 0, 0, 0, 0⟩, 0) by rw [hdx]; exact w_load)
  have E5 := Lib.hid (show encS ⟨1, 0, 0, 0, 0⟩ = (s, 0) by rw [hs]; exact Prod.ext rfl w_enc)
  have E6 := Lib.hid (show openS s = ((1, 0, 1), [0, 0, 0, 0], 0) by rw [hs]; exact w_open)
  have E7 := Lib.hid (show encS ⟨4, 2, 1, 9, 3⟩ = (sa, 0) by rw [hsa]; exact Prod.ext rfl w_enc4)
  have E8 := Lib.hid (show encS ⟨5, 0, 0, 0, 0⟩ = (sb, 0) by rw [hsb]; exact Prod.ext rfl w_enc5)
  have E9 := Lib.hid (show bestS sa sb = (⟨5, 0, 0, 0, 0⟩, true) by rw [hsa, hsb]; exact w_best)
  have E10 := Lib.hid (show dx.S[1]? = some s by rw [hdx, hs]; exact w_sec)
  have ls : s.length ≤ 100 := by rw [hs, w_lens.1]; omega
  have lsa : sa.length ≤ 100 := by rw [hsa, w_lens.2.1]; omega
  have lsb : sb.length ≤ 100 := by rw [hsb, w_lens.2.2]; omega
  have dS := Lib.hid (show d.S.length = 16 by rw [hd]; decide +kernel)
  have dP := Lib.hid (show d.P.length = 0 by rw [hd]; rfl)
  have xS := Lib.hid (show dx.S.length = 16 by rw [hdx]; exact w_len.1)
  have xP := Lib.hid (show dx.P.length = 0 by rw [hdx]; exact w_len.2)
  clear hd hdx hs hsa hsb
  go_enter Try.func20, Try.ntmps20
  go_wp2_with fail
  refine (RNew_any 16 _).mono ?_
  rw [E1.out]
  rintro e w1 ⟨a1, c1, a2, c2, rfl, hO1, hb1⟩
  have HD := Lib.hid (Bx.new w1 #[.slice a1 d.S.length c1, .slice a2 d.P.length c2, .int .i64 d.fuse, .int .i64 d.ops, .bool d.dead] 38); have HL := Lib.hid ((hO1.alloc (.cells #[.slice a1 d.S.length c1, .slice a2 d.P.length c2, .int .i64 d.fuse, .int .i64 d.ops, .bool d.dead] 38)).lists (d := d) (by rw [dP.out]; omega) (by rw [dS.out]; omega)); have HB := Lib.hid (hb1.alloc hb1.size (.cells #[.slice a1 d.S.length c1, .slice a2 d.P.length c2, .int .i64 d.fuse, .int .i64 d.ops, .bool d.dead] 38))
  have z0 := hb1.size
  clear hO1 hb1
  go_upto_region 2 with (fail)
  generalize hW : w1.alloc (.cells #[.slice a1 d.S.length c1, .slice a2 d.P.length c2, .int .i64 d.fuse, .int .i64 d.ops, .bool d.dead] 38) = v1 at HD HL HB ⊢
  clear hW
  have x0 : v1.cell? ⟨w1.heap.size, 0, none⟩ = some (.slice a1 d.S.length c1) := HD.out.cell 0
  have x1 : v1.cell? ⟨w1.heap.size, 1, none⟩ = some (.slice a2 d.P.length c2) := HD.out.cell 1
  have x2 : v1.cell? ⟨w1.heap.size, 2, none⟩ = some (.int .i64 d.fuse) := HD.out.cell 2
  have x3 : v1.cell? ⟨w1.heap.size, 3, none⟩ = some (.int .i64 d.ops) := HD.out.cell 3
  have x4 : v1.cell? ⟨w1.heap.size, 4, none⟩ = some (.bool d.dead) := HD.out.cell 4
  go_wp2_with fail
  refine (SLoad_any _ _ _ _ d _ HL.out).mono ?_
  rw [E2.out]
  simp only [spV, sp0]
  rintro e w2 ⟨rfl, hb2⟩
  clear x0 x1 x2 x3 x4
  have hal := (Below.refl w2.heap.size w2).alloc (Nat.le_refl _) (.cells #[.int .i64 0, .int .i64 0, .int .i64 0, .int .i64 0, .int .i64 0] 23)
  have HD := Lib.hid ((HD.out.call hb2).alloc (.cells #[.int .i64 0, .int .i64 0, .int .i64 0, .int .i64 0, .int .i64 0] 23))
  have HL := Lib.hid ((HL.out.below hb2).below hal)
  have HB := Lib.hid (btrans (btrans HB.out HB.out.size hb2) (btrans HB.out HB.out.size hb2).size hal)
  clear hal hb2
  go_upto_region 3 with (fail)
  generalize hW : w2.alloc (.cells #[.int .i64 0, .int .i64 0, .int .i64 0, .int .i64 0, .int .i64 0] 23) = v2 at HD HL HB ⊢
  clear hW
  have hal := (Below.refl v2.heap.size v2).alloc (Nat.le_refl _) (.cells #[.int .i64 1, .int .i64 0, .int .i64 0, .int .i64 0, .int .i64 0] 23)
  have HX := Lib.hid (Bx.new v2 #[.int .i64 1, .int .i64 0, .int .i64 0, .int .i64 0, .int .i64 0] 23)
  have zd := HD.out.lt
  have HD := Lib.hid (HD.out.alloc (.cells #[.int .i64 1, .int .i64 0, .int .i64 0, .int .i64 0, .int .i64 0] 23))
  have HL := Lib.hid (HL.out.below hal)
  have HB := Lib.hid (btrans HB.out HB.out.size hal)
  clear hal
  go_upto_region 4 with (fail)
  generalize hW : v2.alloc (.cells #[.int .i64 1, .int .i64 0, .int .i64 0, .int .i64 0, .int .i64 0] 23) = v3 at HX HD HL HB ⊢
  clear hW
  have zx := HX.out.lt
  have x0 : v3.cell? ⟨w1.heap.size, 0, none⟩ = some (.slice a1 d.S.length c1) := HD.out.cell 0
  have x1 : v3.cell? ⟨w1.heap.size, 1, none⟩ = some (.slice a2 d.P.length c2) := HD.out.cell 1
  have x2 : v3.cell? ⟨w1.heap.size, 2, none⟩ = some (.int .i64 d.fuse) := HD.out.cell 2
  have x3 : v3.cell? ⟨w1.heap.size, 3, none⟩ = some (.int .i64 d.ops) := HD.out.cell 3
  have x4 : v3.cell? ⟨w1.heap.size, 4, none⟩ = some (.bool d.dead) := HD.out.cell 4
  have y0 : v3.cell? ⟨v2.heap.size, 0, none⟩ = some (.int .i64 1) := HX.out.cell 0
  have y1 : v3.cell? ⟨v2.heap.size, 1, none⟩ = some (.int .i64 0) := HX.out.cell 1
  have y2 : v3.cell? ⟨v2.heap.size, 2, none⟩ = some (.int .i64 0) := HX.out.cell 2
  have y3 : v3.cell? ⟨v2.heap.size, 3, none⟩ = some (.int .i64 0) := HX.out.cell 3
  have y4 : v3.cell? ⟨v2.heap.size, 4, none⟩ = some (.int .i64 0) := HX.out.cell 4
  go_wp2_with fail
  refine (SStore_any _ _ _ _ d ⟨1, 0, 0, 0, 0⟩ _ HL.out (by rw [dP.out]; omega)).mono ?_
  rw [E3.out]
  rintro e w4 ⟨a3, c3, a4, c4, rfl, hO4, hb4⟩
  clear x0 x1 x2 x3 x4 y0 y1 y2 y3 y4 HL
  have HD := Lib.hid (HD.out.call hb4); have HX := Lib.hid (HX.out.call hb4)
  have x0 : w4.cell? ⟨w1.heap.size, 0, none⟩ = some (.slice a1 d.S.length c1) := HD.out.cell 0
  have x1 : w4.cell? ⟨w1.heap.size, 1, none⟩ = some (.slice a2 d.P.length c2) := HD.out.cell 1
  have x2 : w4.cell? ⟨w1.heap.size, 2, none⟩ = some (.int .i64 d.fuse) := HD.out.cell 2
  have x3 : w4.cell? ⟨w1.heap.size, 3, none⟩ = some (.int .i64 d.ops) := HD.out.cell 3
  have x4 : w4.cell? ⟨w1.heap.size, 4, none⟩ = some (.bool d.dead) := HD.out.cell 4
  have g0 := HD.out.free 0
  have g1 := HD.out.free 1
  have g2 := HD.out.free 2
  have g3 := HD.out.free 3
  have g4 := HD.out.free 4
  have HD := Lib.hid (HD.out.sets (.slice a3 dx.S.length c3) (.slice a4 dx.P.length c4) (.int .i64 dx.fuse) (.int .i64 dx.ops) (.bool dx.dead)); have HX := Lib.hid (HX.out.sets_ne (c := w1.heap.size) (by omega) (.slice a3 dx.S.length c3) (.slice a4 dx.P.length c4) (.int .i64 dx.fuse) (.int .i64 dx.ops) (.bool dx.dead)); have HO := Lib.hid (hO4.sets w1.heap.size (by omega) (.slice a3 dx.S.length c3) (.slice a4 dx.P.length c4) (.int .i64 dx.fuse) (.int .i64 dx.ops) (.bool dx.dead)); have HB := Lib.hid (below_sets (btrans HB.out HB.out.size hb4) w1.heap.size z0 (.slice a3 dx.S.length c3) (.slice a4 dx.P.length c4) (.int .i64 dx.fuse) (.int .i64 dx.ops) (.bool dx.dead))
  clear hO4 hb4
  go_upto_region 5 with (fail)
  generalize hW : (((((w4.setCell ⟨w1.heap.size, 0, none⟩ (.slice a3 dx.S.length c3)).setCell ⟨w1.heap.size, 1, none⟩ (.slice a4 dx.P.length c4)).setCell ⟨w1.heap.size, 2, none⟩ (.int .i64 dx.fuse)).setCell ⟨w1.heap.size, 3, none⟩ (.int .i64 dx.ops)).setCell ⟨w1.heap.size, 4, none⟩ (.bool dx.dead)) = v4 at HD HX HO HB ⊢
  clear hW x0 x1 x2 x3 x4 g0 g1 g2 g3 g4
  have HL := Lib.hid (HO.out.lists (d := dx) (by rw [xP.out]; omega) (by rw [xS.out]; omega)); clear HO
  have x0 : v4.cell? ⟨w1.heap.size, 0, none⟩ = some (.slice a3 dx.S.length c3) := HD.out.cell 0
  have x1 : v4.cell? ⟨w1.heap.size, 1, none⟩ = some (.slice a4 dx.P.length c4) := HD.out.cell 1
  have x2 : v4.cell? ⟨w1.heap.size, 2, none⟩ = some (.int .i64 dx.fuse) := HD.out.cell 2
  have x3 : v4.cell? ⟨w1.heap.size, 3, none⟩ = some (.int .i64 dx.ops) := HD.out.cell 3
  have x4 : v4.cell? ⟨w1.heap.size, 4, none⟩ = some (.bool dx.dead) := HD.out.cell 4
  go_wp2_with fail
  refine (SLoad_any _ _ _ _ dx _ HL.out).mono ?_
  rw [E4.out]
  simp only [spV]
  rintro e w5 ⟨rfl, hb5⟩
  clear x0 x1 x2 x3 x4
  have hal := (Below.refl w5.heap.size w5).alloc (Nat.le_refl _) (.cells #[.int .i64 1, .int .i64 0, .int .i64 0, .int .i64 0, .int .i64 0] 23)
  have HD := Lib.hid ((HD.out.call hb5).alloc (.cells #[.int .i64 1, .int .i64 0, .int .i64 0, .int .i64 0, .int .i64 0] 23))
  have HL := Lib.hid ((HL.out.below hb5).below hal)
  have HX := Lib.hid ((HX.out.call hb5).alloc (.cells #[.int .i64 1, .int .i64 0, .int .i64 0, .int .i64 0, .int .i64 0] 23))
  have HB := Lib.hid (btrans (btrans HB.out HB.out.size hb5) (btrans HB.out HB.out.size hb5).size hal)
  have HY := Lib.hid (Bx.new w5 #[.int .i64 1, .int .i64 0, .int .i64 0, .int .i64 0, .int .i64 0] 23)
  clear hal hb5
  go_upto_region 6 with (fail)
  generalize hW : w5.alloc (.cells #[.int .i64 1, .int .i64 0, .int .i64 0, .int .i64 0, .int .i64 0] 23) = v5 at HD HL HX HB HY ⊢
  clear hW
  have y0 : v5.cell? ⟨v2.heap.size, 0, none⟩ = some (.int .i64 1) := HX.out.cell 0
  have y1 : v5.cell? ⟨v2.heap.size, 1, none⟩ = some (.int .i64 0) := HX.out.cell 1
  have y2 : v5.cell? ⟨v2.heap.size, 2, none⟩ = some (.int .i64 0) := HX.out.cell 2
  have y3 : v5.cell? ⟨v2.heap.size, 3, none⟩ = some (.int .i64 0) := HX.out.cell 3
  have y4 : v5.cell? ⟨v2.heap.size, 4, none⟩ = some (.int .i64 0) := HX.out.cell 4
  go_wp2_with fail
  refine (SEncode_any ⟨1, 0, 0, 0, 0⟩ _).mono ?_
  rw [E5.out]
  rintro e w6 ⟨rfl, hb6⟩
  clear y0 y1 y2 y3 y4
  have HD := Lib.hid (HD.out.call hb6); have HL := Lib.hid (HL.out.below hb6); have HX := Lib.hid (HX.out.call hb6); have HY := Lib.hid (HY.out.call hb6); have HB := Lib.hid (btrans HB.out HB.out.size hb6); clear hb6
  go_wp2_with fail
  refine (Open_any s _ (by omega)).mono ?_
  rw [E6.out]
  rintro e w7 ⟨rfl, hb7⟩
  have hal := (Below.refl w7.heap.size w7).alloc (Nat.le_refl _) (.cells #[.int .i64 1, .int .i64 0, .int .i64 1] 87)
  have HD := Lib.hid ((HD.out.call hb7).alloc (.cells #[.int .i64 1, .int .i64 0, .int .i64 1] 87))
  have HL := Lib.hid ((HL.out.below hb7).below hal)
  have HX := Lib.hid ((HX.out.call hb7).alloc (.cells #[.int .i64 1, .int .i64 0, .int .i64 1] 87))
  have HY := Lib.hid ((HY.out.call hb7).alloc (.cells #[.int .i64 1, .int .i64 0, .int .i64 1] 87))
  have HB := Lib.hid (btrans (btrans HB.out HB.out.size hb7) (btrans HB.out HB.out.size hb7).size hal)
  clear hal hb7
  go_upto_region 8 with (fail)
  generalize hW : w7.alloc (.cells #[.int .i64 1, .int .i64 0, .int .i64 1] 87) = v7 at HD HL HX HY HB ⊢
  clear hW
  go_wp2_with fail
  refine (SEncode_any ⟨4, 2, 1, 9, 3⟩ _).mono ?_
  rw [E7.out]
  rintro e w8 ⟨rfl, hb8⟩
  have HD := Lib.hid (HD.out.call hb8); have HL := Lib.hid (HL.out.below hb8); have HX := Lib.hid (HX.out.call hb8); have HY := Lib.hid (HY.out.call hb8); have HB := Lib.hid (btrans HB.out HB.out.size hb8); clear hb8
  go_wp2_with fail
  refine (SEncode_any ⟨5, 0, 0, 0, 0⟩ _).mono ?_
  rw [E8.out]
  rintro e w9 ⟨rfl, hb8⟩
  have HD := Lib.hid (HD.out.call hb8); have HL := Lib.hid (HL.out.below hb8); have HX := Lib.hid (HX.out.call hb8); have HY := Lib.hid (HY.out.call hb8); have HB := Lib.hid (btrans HB.out HB.out.size hb8); clear hb8
  go_wp2_with fail
  refine (SBest_any sa sb _ (by omega) (by omega)).mono ?_
  rw [E9.out]
  simp only [spV]
  rintro e w10 ⟨rfl, hb10⟩
  have hal := (Below.refl w10.heap.size w10).alloc (Nat.le_refl _) (.cells #[.int .i64 5, .int .i64 0, .int .i64 0, .int .i64 0, .int .i64 0] 23)
  have HD := Lib.hid ((HD.out.call hb10).alloc (.cells #[.int .i64 5, .int .i64 0, .int .i64 0, .int .i64 0, .int .i64 0] 23))
  have HL := Lib.hid ((HL.out.below hb10).below hal)
  have HX := Lib.hid ((HX.out.call hb10).alloc (.cells #[.int .i64 5, .int .i64 0, .int .i64 0, .int .i64 0, .int .i64 0] 23))
  have HY := Lib.hid ((HY.out.call hb10).alloc (.cells #[.int .i64 5, .int .i64 0, .int .i64 0, .int .i64 0, .int .i64 0] 23))
  have HB := Lib.hid (btrans (btrans HB.out HB.out.size hb10) (btrans HB.out HB.out.size hb10).size hal)
  have HZ := Lib.hid (Bx.new w10 #[.int .i64 5, .int .i64 0, .int .i64 0, .int .i64 0, .int .i64 0] 23)
  clear hal hb10
  go_upto_region 11 with (fail)
  generalize hW : w10.alloc (.cells #[.int .i64 5, .int .i64 0, .int .i64 0, .int .i64 0, .int .i64 0] 23) = v10 at HD HL HX HY HB HZ ⊢
  clear hW
  have h16 : 1 < dx.S.length := by rw [xS.out]; omega
  obtain ⟨b, off, rfl, hcap, hcell⟩ := HL.out.sec 1 h16
  have hs1 : dx.S[1] = s := by have h := E10.out; rw [List.getElem?_eq_getElem h16] at h; exact Option.some.inj h
  rw [hs1] at hcell
  clear hs1
  have h16' : (1 : Int) < (dx.S.length : Int) := by omega
  have t1 : ((dx.S.length : Int) != 16) = false := by rw [xS.out]; rfl
  have t2 : (s == s) = true := by simp
  have x0 : v10.cell? ⟨w1.heap.size, 0, none⟩ = some (.slice (some ⟨b, off, none⟩) dx.S.length c3) := HD.out.cell 0
  have x1 : v10.cell? ⟨w1.heap.size, 1, none⟩ = some (.slice a4 dx.P.length c4) := HD.out.cell 1
  have x2 : v10.cell? ⟨w1.heap.size, 2, none⟩ = some (.int .i64 dx.fuse) := HD.out.cell 2
  have x3 : v10.cell? ⟨w1.heap.size, 3, none⟩ = some (.int .i64 dx.ops) := HD.out.cell 3
  have x4 : v10.cell? ⟨w1.heap.size, 4, none⟩ = some (.bool dx.dead) := HD.out.cell 4
  have y0 : v10.cell? ⟨v2.heap.size, 0, none⟩ = some (.int .i64 1) := HX.out.cell 0
  have y1 : v10.cell? ⟨v2.heap.size, 1, none⟩ = some (.int .i64 0) := HX.out.cell 1
  have y2 : v10.cell? ⟨v2.heap.size, 2, none⟩ = some (.int .i64 0) := HX.out.cell 2
  have y3 : v10.cell? ⟨v2.heap.size, 3, none⟩ = some (.int .i64 0) := HX.out.cell 3
  have y4 : v10.cell? ⟨v2.heap.size, 4, none⟩ = some (.int .i64 0) := HX.out.cell 4
  have q0 : v10.cell? ⟨w5.heap.size, 0, none⟩ = some (.int .i64 1) := HY.out.cell 0
  have q1 : v10.cell? ⟨w5.heap.size, 1, none⟩ = some (.int .i64 0) := HY.out.cell 1
  have q2 : v10.cell? ⟨w5.heap.size, 2, none⟩ = some (.int .i64 0) := HY.out.cell 2
  have q3 : v10.cell? ⟨w5.heap.size, 3, none⟩ = some (.int .i64 0) := HY.out.cell 3
  have q4 : v10.cell? ⟨w5.heap.size, 4, none⟩ = some (.int .i64 0) := HY.out.cell 4
  have r0 : v10.cell? ⟨w10.heap.size, 0, none⟩ = some (.int .i64 5) := HZ.out.cell 0
  have r1 : v10.cell? ⟨w10.heap.size, 1, none⟩ = some (.int .i64 0) := HZ.out.cell 1
  have r2 : v10.cell? ⟨w10.heap.size, 2, none⟩ = some (.int .i64 0) := HZ.out.cell 2
  have r3 : v10.cell? ⟨w10.heap.size, 3, none⟩ = some (.int .i64 0) := HZ.out.cell 3
  have r4 : v10.cell? ⟨w10.heap.size, 4, none⟩ = some (.int .i64 0) := HZ.out.cell 4
  go_wp2_with fail
  refine (SValid_any ⟨3, 4, 0, 0, 0⟩ _).mono ?_
  rw [w_v1]
  rintro e w11 ⟨rfl, hb11⟩
  have HX := Lib.hid (HX.out.call hb11); have HB := Lib.hid (btrans HB.out HB.out.size hb11)
  clear hb11 x0 x1 x2 x3 x4 y0 y1 y2 y3 y4 q0 q1 q2 q3 q4 r0 r1 r2 r3 r4 hcell t1 t2
  have y0 : w11.cell? ⟨v2.heap.size, 0, none⟩ = some (.int .i64 1) := HX.out.cell 0
  have y1 : w11.cell? ⟨v2.heap.size, 1, none⟩ = some (.int .i64 0) := HX.out.cell 1
  have y2 : w11.cell? ⟨v2.heap.size, 2, none⟩ = some (.int .i64 0) := HX.out.cell 2
  have y3 : w11.cell? ⟨v2.heap.size, 3, none⟩ = some (.int .i64 0) := HX.out.cell 3
  have y4 : w11.cell? ⟨v2.heap.size, 4, none⟩ = some (.int .i64 0) := HX.out.cell 4
  go_wp2_with fail
  refine (SValid_any ⟨1, 0, 0, 0, 0⟩ _).mono ?_
  rw [w_v2]
  rintro e w12 ⟨rfl, hb12⟩
  have HB := Lib.hid (btrans HB.out HB.out.size hb12)
  clear hb12
  go_wp2
  go_ret
  exact ⟨rfl, HB.out⟩
end Go.Proofs.Ytkpfkknldeafkaa

namespace Go.Proofs.Ytkpfkknldeafkaa
open Go.ChangeShapes Go.WideShapes Go.ChangeAt Go.RowKit

section
variable {H : Type} {enc : TypeId × Value → H} {W : World} {base : Nat} {spare : Nat → Bool} {held : Bool}
set_option maxRecDepth 100000 in
theorem trod_super {fuel : Nat} {cs : List Value} {x : DataW H × List MemPlace} (h : DataW.trod enc Try.prog W base spare held fuel 23 cs = some x) : ∃ q : Sp, cs = (spV q).toList := by
  obtain ⟨ys, n, _, _, hlen, hyl, hf⟩ := DataW.trod_struct Try.underlying23 h
  rw [show Try.prog.cellsOf 23 = 5 by kernel_rfl] at hlen
  match cs, hlen with
  | [u0, u1, u2, u3, u4], _ =>
    match ys, hyl with
    | [y0, y1, y2, y3, y4], _ =>
      have g0 : DataW.trod enc Try.prog W base spare held n 2 (([u0, u1, u2, u3, u4].drop 0).take (Try.prog.cellsOf 2)) = some y0 := hf 0 _ rfl
      have g1 : DataW.trod enc Try.prog W base spare held n 2 (([u0, u1, u2, u3, u4].drop 1).take (Try.prog.cellsOf 2)) = some y1 := hf 1 _ rfl
      have g2 : DataW.trod enc Try.prog W base spare held n 3 (([u0, u1, u2, u3, u4].drop 2).take (Try.prog.cellsOf 3)) = some y2 := hf 2 _ rfl
      have g3 : DataW.trod enc Try.prog W base spare held n 3 (([u0, u1, u2, u3, u4].drop 3).take (Try.prog.cellsOf 3)) = some y3 := hf 3 _ rfl
      have g4 : DataW.trod enc Try.prog W base spare held n 2 (([u0, u1, u2, u3, u4].drop 4).take (Try.prog.cellsOf 2)) = some y4 := hf 4 _ rfl
      rw [show Try.prog.cellsOf 3 = 1 by kernel_rfl] at g2 g3
      rw [show Try.prog.cellsOf 2 = 1 by kernel_rfl] at g0 g1 g4
      obtain ⟨n0, e0, _⟩ := DataW.trod_int Try.underlying2 g0
      obtain ⟨n1, e1, _⟩ := DataW.trod_int Try.underlying2 g1
      obtain ⟨n2, e2, _⟩ := DataW.trod_int Try.underlying3 g2
      obtain ⟨n3, e3, _⟩ := DataW.trod_int Try.underlying3 g3
      obtain ⟨n4, e4, _⟩ := DataW.trod_int Try.underlying2 g4
      simp at e0 e1 e2 e3 e4
      subst e0 e1 e2 e3 e4
      exact ⟨⟨n0, n1, n2, n3, n4⟩, rfl⟩
set_option maxRecDepth 100000 in
theorem open_super {r : Reach} {b0 : Nat} {v : Value} {d : DataW H} {p : List MemPlace} (hv : Value.okWide Try.prog W r b0 23 v) (h : DataW.Trod enc Try.prog W base spare held 23 v d p) : ∃ q : Sp, v = .agg (spV q) := by
  obtain ⟨cs, rfl, hsz⟩ := okWide_struct Try.underlying23 hv
  obtain ⟨fuel, hf⟩ := h
  obtain ⟨q, hq⟩ := trod_super hf
  have hc : cs = spV q := Array.toList_inj.1 hq
  exact ⟨q, by rw [hc]⟩
end
end Go.Proofs.Ytkpfkknldeafkaa

