/- The walk of DiskFuse. Condition: at most 1048576 operations. -/
import Derived.Test.YtnghdolpmmdknaaDiskFu
import Derived.Test.YtnghdolpmmdknaaDiskArgs2
import Derived.Outline
namespace Go.Proofs.Ytnghdolpmmdknaa
open Go.RowKit

set_option maxRecDepth 100000 in
set_option maxHeartbeats 16000000 in
theorem fuseWalk (n : Nat) (hn : n < 256) (oa : Option Addr) (oc : Nat) (M : List (Int × UInt8)) (w : World) (hM : OpS w (.slice oa M.length oc) M) (hMl : M.length ≤ 1048576) :
    Calls Try.prog 13 #[.int .u8 (n : Int), .slice oa M.length oc] w fun e w' => e = .returned (.bool true) ∧ Below w.heap.size w w' := by
  obtain ⟨d0, hd0⟩ : ∃ d, d = d16 := ⟨_, rfl⟩
  have hS0 : d0.S.length = 16 := by rw [hd0]; decide +kernel
  have hP0 : d0.P.length = 0 := by rw [hd0]; rfl
  obtain ⟨df, hdf⟩ : ∃ d, fuseS d0 n = d := ⟨_, rfl⟩
  have hZ0 : Fz n 0 df := by rw [← hdf, hd0]; exact fz_start n hn
  have hPf : df.P.length = 0 := by rw [← hdf]; unfold fuseS; split <;> exact hP0
  have E2 := Lib.hid (show newS 16 = (d0, 0) by rw [hd0]; exact ex2)
  have HF := Lib.hid hdf; clear hd0 hdf
  have HM := Lib.hid hM; have HZ := Lib.hid hZ0; have PF := Lib.hid hPf; clear hM hZ0 hPf
  have hn0 : (0 : Int) ≤ (n : Int) := by omega
  have hn1 : (n : Int) < 256 := by omega
  go_enter Try.func13, Try.ntmps13
  go_wp2_with fail
  refine (New_any 16 _).mono ?_
  rw [E2.out]
  rintro e w1 ⟨a1, c1, a2, c2, rfl, hO1, hb1⟩
  have hX1 := Bx.new w1 #[.slice a1 d0.S.length c1, .slice a2 d0.P.length c2, .int .i64 d0.fuse, .int .i64 d0.ops, .bool d0.dead] 47
  have hL1 := small_lists (d := d0) (hO1.alloc (.cells #[.slice a1 d0.S.length c1, .slice a2 d0.P.length c2, .int .i64 d0.fuse, .int .i64 d0.ops, .bool d0.dead] 47)) (by omega) (by omega)
  have hB1 := hb1.alloc hb1.size (.cells #[.slice a1 d0.S.length c1, .slice a2 d0.P.length c2, .int .i64 d0.fuse, .int .i64 d0.ops, .bool d0.dead] 47)
  have z1 := hb1.size
  clear hO1 hb1
  have HX1 := Lib.hid hX1; have HL1 := Lib.hid hL1; have HB1 := Lib.hid hB1; clear hX1 hL1 hB1 hS0 hP0
  have x0 : (w1.alloc (.cells #[.slice a1 d0.S.length c1, .slice a2 d0.P.length c2, .int .i64 d0.fuse, .int .i64 d0.ops, .bool d0.dead] 47)).cell? ⟨w1.heap.size, 0, none⟩ = some (.slice a1 d0.S.length c1) := HX1.out.cell 0
  have x1 : (w1.alloc (.cells #[.slice a1 d0.S.length c1, .slice a2 d0.P.length c2, .int .i64 d0.fuse, .int .i64 d0.ops, .bool d0.dead] 47)).cell? ⟨w1.heap.size, 1, none⟩ = some (.slice a2 d0.P.length c2) := HX1.out.cell 1
  have x2 : (w1.alloc (.cells #[.slice a1 d0.S.length c1, .slice a2 d0.P.length c2, .int .i64 d0.fuse, .int .i64 d0.ops, .bool d0.dead] 47)).cell? ⟨w1.heap.size, 2, none⟩ = some (.int .i64 d0.fuse) := HX1.out.cell 2
  have x3 : (w1.alloc (.cells #[.slice a1 d0.S.length c1, .slice a2 d0.P.length c2, .int .i64 d0.fuse, .int .i64 d0.ops, .bool d0.dead] 47)).cell? ⟨w1.heap.size, 3, none⟩ = some (.int .i64 d0.ops) := HX1.out.cell 3
  have x4 : (w1.alloc (.cells #[.slice a1 d0.S.length c1, .slice a2 d0.P.length c2, .int .i64 d0.fuse, .int .i64 d0.ops, .bool d0.dead] 47)).cell? ⟨w1.heap.size, 4, none⟩ = some (.bool d0.dead) := HX1.out.cell 4
  go_wp2_with fail
  refine (Fuse_any _ _ _ _ _ _ _ HL1.out).mono ?_
  rw [HF.out]
  rintro e w2 ⟨a3, c3, a4, c4, rfl, hO2, hb2⟩
  clear x0 x1 x2 x3 x4
  have hX2 := HX1.out.call hb2
  have x0 : w2.cell? ⟨w1.heap.size, 0, none⟩ = some (.slice a1 d0.S.length c1) := hX2.cell 0
  have x1 : w2.cell? ⟨w1.heap.size, 1, none⟩ = some (.slice a2 d0.P.length c2) := hX2.cell 1
  have x2 : w2.cell? ⟨w1.heap.size, 2, none⟩ = some (.int .i64 d0.fuse) := hX2.cell 2
  have x3 : w2.cell? ⟨w1.heap.size, 3, none⟩ = some (.int .i64 d0.ops) := hX2.cell 3
  have x4 : w2.cell? ⟨w1.heap.size, 4, none⟩ = some (.bool d0.dead) := hX2.cell 4
  have g0 := hX2.free 0
  have g1 := hX2.free 1
  have g2 := hX2.free 2
  have g3 := hX2.free 3
  have g4 := hX2.free 4
  have zl : w1.heap.size < w2.heap.size := hX2.lt
  have hXF := Lib.hid (hX2.sets (.slice a3 df.S.length c3) (.slice a4 df.P.length c4) (.int .i64 df.fuse) (.int .i64 df.ops) (.bool df.dead))
  have hOF := Lib.hid (((OwnN.of_owned (x := w1.heap.size) (y := w1.heap.size) hO2 (by simp) (by simp)).sets w1.heap.size (.inl rfl) (.slice a3 df.S.length c3) (.slice a4 df.P.length c4) (.int .i64 df.fuse) (.int .i64 df.ops) (.bool df.dead)))
  have hBF := Lib.hid (below_sets (btrans HB1.out HB1.out.size hb2) w1.heap.size z1 (.slice a3 df.S.length c3) (.slice a4 df.P.length c4) (.int .i64 df.fuse) (.int .i64 df.ops) (.bool df.dead))
  clear hX2 hO2 hb2
  go_wp2
  clear x0 x1 x2 x3 x4 g0 g1 g2 g3 g4
  go_loopw [7, 8] (fun dn i wr => ∃ (k done : Nat) (d : Dk) (a : Option Addr) (c : Nat) (a' : Option Addr) (c' : Nat), k ≤ M.length ∧ i = .int .i64 k ∧ done ≤ k ∧ dn = .int .i64 done ∧ Fz n done d ∧ d.P.length ≤ done ∧ Bx w1.heap.size #[.slice a d.S.length c, .slice a' d.P.length c', .int .i64 d.fuse, .int .i64 d.ops, .bool d.dead] 47 wr ∧ OwnN w1.heap.size w1.heap.size d wr (.slice a d.S.length c) (.slice a' d.P.length c') ∧ w1.heap.size + 1 ≤ wr.heap.size ∧ Below w.heap.size w wr) (fun _ i _ => M.length - (intOf i).toNat)
  case atStart => exact ⟨0, 0, df, _, _, _, _, Nat.zero_le _, rfl, Nat.le_refl _, rfl, HZ.out, by rw [PF.out]; exact Nat.le_refl _, hXF.out, hOF.out, by simp; omega, hBF.out⟩
  case round =>
    obtain ⟨k, done, d, a, c', a', c'', hk, rfl, hdk, rfl, hZ, hpk, hXDr, hOr, hszr, hbr⟩ := hrel
    clear hXF hOF hBF
    by_cases hlt : k < M.length
    · have hlt' : (k : Int) < (M.length : Int) := by omega
      obtain ⟨ob, ooff, rfl, hoc, p1, p2⟩ := (HM.out.below (hbr.mono (Nat.le_refl _))).at k hlt
      have hob1 : ob < w.heap.size := by
        obtain ⟨b2, o2, h2, _, q1, _⟩ := HM.out.at k hlt
        cases h2
        exact World.block_lt_of_cell? w _ q1
      obtain ⟨m, hm⟩ : ∃ n, M[k].1 = n := ⟨_, rfl⟩
      obtain ⟨c, hc⟩ : ∃ c, M[k].2 = c := ⟨_, rfl⟩
      rw [hm] at p1
      rw [hc] at p2
      clear hm hc
      have hc0 : (0 : Int) ≤ (c.toNat : Int) := by omega
      have hc1 : (c.toNat : Int) < 256 := by have := c.toNat_lt; omega
      have hpl : d.P.length ≤ 8999999999999 := by omega
      have hsl : d.S.length ≤ 16 := by rw [hZ.s]; exact Nat.le_refl _
      have HLW := Lib.hid (hOr.lists hpl hsl)
      have HXD := Lib.hid hXDr; have HOR := Lib.hid hOr; have HBR := Lib.hid hbr; have HZD := Lib.hid hZ; clear hXDr hOr hbr hZ
      by_cases hat : m < 16
      · obtain ⟨d2, er, hq, hZ2, her, hp2, hsame⟩ := fz_do HZD.out (by omega) hn m hat (byt (c.toNat : Int))
        have HQ := Lib.hid hq; have HZ2 := Lib.hid hZ2; have HER := Lib.hid her; have HSA := Lib.hid hsame; clear hq hZ2 her hsame
        have x0 : wr.cell? ⟨w1.heap.size, 0, none⟩ = some (.slice a d.S.length c') := HXD.out.cell 0
        have x1 : wr.cell? ⟨w1.heap.size, 1, none⟩ = some (.slice a' d.P.length c'') := HXD.out.cell 1
        have x2 : wr.cell? ⟨w1.heap.size, 2, none⟩ = some (.int .i64 d.fuse) := HXD.out.cell 2
        have x3 : wr.cell? ⟨w1.heap.size, 3, none⟩ = some (.int .i64 d.ops) := HXD.out.cell 3
        have x4 : wr.cell? ⟨w1.heap.size, 4, none⟩ = some (.bool d.dead) := HXD.out.cell 4
        go_wp2_with fail
        have hs0 : wr.drew.cell? ⟨w1.heap.size, 0, none⟩ = some (.slice a d.S.length c') ∧ wr.drew.cell? ⟨w1.heap.size, 1, none⟩ = some (.slice a' d.P.length c'') ∧ wr.drew.cell? ⟨w1.heap.size, 2, none⟩ = some (.int .i64 d.fuse) ∧ wr.drew.cell? ⟨w1.heap.size, 3, none⟩ = some (.int .i64 d.ops) ∧ wr.drew.cell? ⟨w1.heap.size, 4, none⟩ = some (.bool d.dead) ∧ wr.drew.cell? ⟨ob, ooff + k * 2, none⟩ = some (.int .i64 m) ∧ wr.drew.cell? ⟨ob, ooff + k * 2 + 1, none⟩ = some (.int .u8 (c.toNat : Int)) := ⟨x0, x1, x2, x3, x4, p1, p2⟩
        go_cut [9, 10] from 26 to 102 (fun s11 s12 W => ∃ b a5 c5 a6 c6, s11 = .pointer (some ⟨b, 0, none⟩) ∧ s12 = .int .i64 er ∧ Bx b #[.slice a5 d2.S.length c5, .slice a6 d2.P.length c6, .int .i64 d2.fuse, .int .i64 d2.ops, .bool d2.dead] 47 W ∧ OwnN (w1.heap.size) (w1.heap.size) d2 W (.slice a5 d2.S.length c5) (.slice a6 d2.P.length c6) ∧ wr.heap.size ≤ b ∧ Below wr.heap.size wr W)
        case first =>
          refine wp_region_held_drew (S := (fun w' => w'.cell? ⟨w1.heap.size, 0, none⟩ = some (.slice a d.S.length c') ∧ w'.cell? ⟨w1.heap.size, 1, none⟩ = some (.slice a' d.P.length c'') ∧ w'.cell? ⟨w1.heap.size, 2, none⟩ = some (.int .i64 d.fuse) ∧ w'.cell? ⟨w1.heap.size, 3, none⟩ = some (.int .i64 d.ops) ∧ w'.cell? ⟨w1.heap.size, 4, none⟩ = some (.bool d.dead) ∧ w'.cell? ⟨ob, ooff + k * 2, none⟩ = some (.int .i64 m) ∧ w'.cell? ⟨ob, ooff + k * 2 + 1, none⟩ = some (.int .u8 (c.toNat : Int)))) (by kernel_rfl) ?_ (fun hHeld => ?_)
          · exact hs0
          refine takeH (i := 0) (v := ?vv1) 39 rfl rfl (by kernel_rfl) (by kernel_rfl) (by kernel_rfl) (fun _ _ _ h => h) (Or.inl ⟨by kernel_rfl, ?yy1⟩) (by assumption) ?_
          case yy1 => intro w hSw; (try dsimp only at hSw); go_simp; (try with_reducible rfl)
          simp only [List.setIfInBounds_toArray, List.set_cons_zero, List.set_cons_succ]
          refine takeH (i := 1) (v := ?vv2) 40 rfl rfl (by kernel_rfl) (by kernel_rfl) (by kernel_rfl) (fun _ _ _ h => h) (Or.inl ⟨by kernel_rfl, ?yy2⟩) (by assumption) ?_
          case yy2 => intro w hSw; (try dsimp only at hSw); go_simp; (try with_reducible rfl)
          simp only [List.setIfInBounds_toArray, List.set_cons_zero, List.set_cons_succ]
          refine takeH (i := 2) (v := ?vv3) 41 rfl rfl (by kernel_rfl) (by kernel_rfl) (by kernel_rfl) (fun _ _ _ h => h) (Or.inl ⟨by kernel_rfl, ?yy3⟩) (by assumption) ?_
          case yy3 => intro w hSw; (try dsimp only at hSw); go_simp; (try with_reducible rfl)
          simp only [List.setIfInBounds_toArray, List.set_cons_zero, List.set_cons_succ]
          refine takeH (i := 3) (v := ?vv4) 42 rfl rfl (by kernel_rfl) (by kernel_rfl) (by kernel_rfl) (fun _ _ _ h => h) (Or.inl ⟨by kernel_rfl, ?yy4⟩) (by assumption) ?_
          case yy4 => intro w hSw; (try dsimp only at hSw); go_simp; (try with_reducible rfl)
          simp only [List.setIfInBounds_toArray, List.set_cons_zero, List.set_cons_succ]
          refine takeH (i := 4) (v := ?vv5) 43 rfl rfl (by kernel_rfl) (by kernel_rfl) (by kernel_rfl) (fun _ _ _ h => h) (Or.inl ⟨by kernel_rfl, ?yy5⟩) (by assumption) ?_
          case yy5 => intro w hSw; (try dsimp only at hSw); go_simp; (try with_reducible rfl)
          simp only [List.setIfInBounds_toArray, List.set_cons_zero, List.set_cons_succ]
          refine wpAnyH_ready (rs := [5, 9]) (by kernel_rfl) (by simp) ?_
          refine (AllReadyH.cons rfl (fun K hK => ?_) (AllReadyH.cons rfl (fun K hK => ?_) AllReadyH.nil))
          · skip
            go_simp
            (refine (do_any _ _ _ _ d m (c.toNat : Int) hc0 hc1 _ (HLW.out.below (Below.refl wr.heap.size wr).drew) hpl).mono ?_; rw [HQ.out]; rintro e w4 ⟨a5, c5, a6, c6, rfl, hO4, hb4⟩)
            (try go_wp2_with fail)
            refine hK.out _ _ ?_ (fun hHeld => ?_)
            · exact cells7_below hHeld hb4
            clear hK K
            (try simp only [Act.put, List.setIfInBounds_toArray, List.set_cons_zero, List.set_cons_succ])
            refine takeH (i := 6) (v := ?vv6) 38 rfl rfl (by kernel_rfl) (by kernel_rfl) (by kernel_rfl) (fun _ _ _ h => h) (Or.inl ⟨by kernel_rfl, ?yy6⟩) (by assumption) ?_
            case yy6 => intro w hSw; (try dsimp only at hSw); go_simp; (try with_reducible rfl)
            simp only [List.setIfInBounds_toArray, List.set_cons_zero, List.set_cons_succ]
            refine takeH (i := 7) (v := ?vv7) 45 rfl rfl (by kernel_rfl) (by kernel_rfl) (by kernel_rfl) (fun _ _ _ h => h) (Or.inl ⟨by kernel_rfl, ?yy7⟩) (by assumption) ?_
            case yy7 => intro w hSw; (try dsimp only at hSw); go_simp; (try with_reducible rfl)
            simp only [List.setIfInBounds_toArray, List.set_cons_zero, List.set_cons_succ]
            refine takeH (i := 8) (v := ?vv8) 46 rfl rfl (by kernel_rfl) (by kernel_rfl) (by kernel_rfl) (fun _ _ _ h => h) (Or.inl ⟨by kernel_rfl, ?yy8⟩) (by assumption) ?_
            case yy8 => intro w hSw; (try dsimp only at hSw); go_simp; (try with_reducible rfl)
            simp only [List.setIfInBounds_toArray, List.set_cons_zero, List.set_cons_succ]
            refine wpAnyH_ready (rs := [9]) (by kernel_rfl) (by simp) ?_
            refine (AllReadyH.cons rfl (fun K hK => ?_) AllReadyH.nil)
            go_simp
            skip
            (try go_wp2_with fail)
            refine hK.out _ _ ?_ (fun hHeld => ?_)
            · exact cells7_below hHeld ((Below.refl _ _).alloc (Nat.le_refl _) _)
            clear hK K
            (try simp only [Act.put, List.setIfInBounds_toArray, List.set_cons_zero, List.set_cons_succ])
            refine wpAnyH_ready (rs := [10]) (by kernel_rfl) (by simp) ?_
            refine (AllReadyH.cons rfl (fun K hK => ?_) AllReadyH.nil)
            go_simp
            skip
            (try go_wp2_with fail)
            refine hK.out _ _ ?_ (fun hHeld => ?_)
            · exact cells7_below (by assumption) (hb4.alloc hb4.size _)
            clear hK K
            (try simp only [Act.put, List.setIfInBounds_toArray, List.set_cons_zero, List.set_cons_succ])
            refine takeH (i := 11) (v := ?vv9) 10 rfl rfl (by kernel_rfl) (by kernel_rfl) (by kernel_rfl) (fun _ _ _ h => h) (Or.inl ⟨by kernel_rfl, ?yy9⟩) (by assumption) ?_
            case yy9 => intro w hSw; (try dsimp only at hSw); go_simp; (try with_reducible rfl)
            simp only [List.setIfInBounds_toArray, List.set_cons_zero, List.set_cons_succ]
            refine wpAnyH_done (by kernel_rfl) ?_ _
            go_wp2_with fail
            go_meet
            refine ⟨_, a5, c5, a6, c6, rfl, rfl, Bx.new w4 _ _, OwnN.of_owned (hO4.alloc _) (by first | omega | (simp; omega)) (by first | omega | (simp; omega)), hb4.size, (btrans ((Below.refl wr.heap.size wr).drew) (Nat.le_refl _) hb4).alloc hb4.size _⟩
          · skip
            go_simp
            skip
            (try go_wp2_with fail)
            refine hK.out _ _ ?_ (fun hHeld => ?_)
            · exact cells7_below hHeld ((Below.refl _ _).alloc (Nat.le_refl _) _)
            clear hK K
            (try simp only [Act.put, List.setIfInBounds_toArray, List.set_cons_zero, List.set_cons_succ])
            refine wpAnyH_ready (rs := [5]) (by kernel_rfl) (by simp) ?_
            refine (AllReadyH.cons rfl (fun K hK => ?_) AllReadyH.nil)
            go_simp
            (refine (do_any _ _ _ _ d m (c.toNat : Int) hc0 hc1 _ (HLW.out.below (((Below.refl wr.heap.size wr).alloc (Nat.le_refl _) _).drew)) hpl).mono ?_; rw [HQ.out]; rintro e w4 ⟨a5, c5, a6, c6, rfl, hO4, hb4⟩)
            (try go_wp2_with fail)
            refine hK.out _ _ ?_ (fun hHeld => ?_)
            · exact cells7_below hHeld hb4
            clear hK K
            (try simp only [Act.put, List.setIfInBounds_toArray, List.set_cons_zero, List.set_cons_succ])
            refine takeH (i := 6) (v := ?vv10) 38 rfl rfl (by kernel_rfl) (by kernel_rfl) (by kernel_rfl) (fun _ _ _ h => h) (Or.inl ⟨by kernel_rfl, ?yy10⟩) (by assumption) ?_
            case yy10 => intro w hSw; (try dsimp only at hSw); go_simp; (try with_reducible rfl)
            simp only [List.setIfInBounds_toArray, List.set_cons_zero, List.set_cons_succ]
            refine takeH (i := 7) (v := ?vv11) 45 rfl rfl (by kernel_rfl) (by kernel_rfl) (by kernel_rfl) (fun _ _ _ h => h) (Or.inl ⟨by kernel_rfl, ?yy11⟩) (by assumption) ?_
            case yy11 => intro w hSw; (try dsimp only at hSw); go_simp; (try with_reducible rfl)
            simp only [List.setIfInBounds_toArray, List.set_cons_zero, List.set_cons_succ]
            refine takeH (i := 8) (v := ?vv12) 46 rfl rfl (by kernel_rfl) (by kernel_rfl) (by kernel_rfl) (fun _ _ _ h => h) (Or.inl ⟨by kernel_rfl, ?yy12⟩) (by assumption) ?_
            case yy12 => intro w hSw; (try dsimp only at hSw); go_simp; (try with_reducible rfl)
            simp only [List.setIfInBounds_toArray, List.set_cons_zero, List.set_cons_succ]
            have hsz4 : wr.heap.size + 1 ≤ w4.heap.size := by have := hb4.size; simp at this; omega
            refine wpAnyH_ready (rs := [10]) (by kernel_rfl) (by simp) ?_
            refine (AllReadyH.cons rfl (fun K hK => ?_) AllReadyH.nil)
            have hBB : Bx wr.heap.size #[.slice none 0 0, .slice none 0 0, .int .i64 0, .int .i64 0, .bool false] 47 w4 := (Bx.new wr _ _).drew.call hb4
            have r0 : w4.cell? ⟨wr.heap.size, 0, none⟩ = some (.slice none 0 0) := hBB.cell 0
            have r1 : w4.cell? ⟨wr.heap.size, 1, none⟩ = some (.slice none 0 0) := hBB.cell 1
            have r2 : w4.cell? ⟨wr.heap.size, 2, none⟩ = some (.int .i64 0) := hBB.cell 2
            have r3 : w4.cell? ⟨wr.heap.size, 3, none⟩ = some (.int .i64 0) := hBB.cell 3
            have r4 : w4.cell? ⟨wr.heap.size, 4, none⟩ = some (.bool false) := hBB.cell 4
            have g0 := hBB.free 0
            have g1 := hBB.free 1
            have g2 := hBB.free 2
            have g3 := hBB.free 3
            have g4 := hBB.free 4
            go_simp
            skip
            (try go_wp2_with fail)
            refine hK.out _ _ ?_ (fun hHeld => ?_)
            · exact cells7_sets (by assumption) wr.heap.size (by omega) (by omega) _ _ _ _ _
            clear hK K
            (try simp only [Act.put, List.setIfInBounds_toArray, List.set_cons_zero, List.set_cons_succ])
            refine takeH (i := 11) (v := ?vv13) 10 rfl rfl (by kernel_rfl) (by kernel_rfl) (by kernel_rfl) (fun _ _ _ h => h) (Or.inl ⟨by kernel_rfl, ?yy13⟩) (by assumption) ?_
            case yy13 => intro w hSw; (try dsimp only at hSw); go_simp; (try with_reducible rfl)
            simp only [List.setIfInBounds_toArray, List.set_cons_zero, List.set_cons_succ]
            refine wpAnyH_done (by kernel_rfl) ?_ _
            go_wp2_with fail
            go_meet
            refine ⟨_, a5, c5, a6, c6, rfl, rfl, hBB.sets _ _ _ _ _, OwnN.of_owned ((hO4.mono (B' := wr.heap.size + 1) (by first | omega | simp)).sets wr.heap.size (by omega) _ _ _ _ _) (by omega) (by omega), Nat.le_refl _, below_sets (((((Below.refl wr.heap.size wr).alloc (Nat.le_refl _) _).drew)).trans (hb4.mono (by simp))) wr.heap.size (Nat.le_refl _) _ _ _ _ _⟩
        case rest =>
          obtain ⟨b, a5, c5, a6, c6, rfl, rfl, hXN, hON, hbn, hbc⟩ := hcut
          clear hs0 x0 x1 x2 x3 x4 p1 p2
          have hbl := Lib.hid (btrans HBR.out HBR.out.size hbc); have hXDc := Lib.hid (HXD.out.below hbc (by omega)); have hLc := Lib.hid (HLW.out.below hbc); have hszc := hbc.size
          have HXN := Lib.hid hXN; have HON := Lib.hid hON; clear hXN hON hbc
          have hpl2 : d2.P.length ≤ 8999999999999 := by omega
          have hsl2 : d2.S.length ≤ 16 := by rw [HZ2.out.s]; exact Nat.le_refl _
          by_cases hz : n = 0
          · subst hz
            have hz0 : ¬ ((0 : Int) < ((0 : Nat) : Int)) := by omega
            have he : er = 0 := by rw [HER.out]; simp
            subst he
            have ho : d2.ops = ((done : Int) + 1) := by rw [HZ2.out.o]; simp
            have ha : d2.dead = false := by rw [HZ2.out.a]; simp
            have y0 : wc.cell? ⟨b, 0, none⟩ = some (.slice a5 d2.S.length c5) := HXN.out.cell 0
            have y1 : wc.cell? ⟨b, 1, none⟩ = some (.slice a6 d2.P.length c6) := HXN.out.cell 1
            have y2 : wc.cell? ⟨b, 2, none⟩ = some (.int .i64 d2.fuse) := HXN.out.cell 2
            have y3 : wc.cell? ⟨b, 3, none⟩ = some (.int .i64 ((done : Int) + 1)) := by rw [← ho]; exact HXN.out.cell 3
            have y4 : wc.cell? ⟨b, 4, none⟩ = some (.bool false) := by rw [← ha]; exact HXN.out.cell 4
            have r0 : wc.cell? ⟨w1.heap.size, 0, none⟩ = some (.slice a d.S.length c') := hXDc.out.cell 0
            have r1 : wc.cell? ⟨w1.heap.size, 1, none⟩ = some (.slice a' d.P.length c'') := hXDc.out.cell 1
            have r2 : wc.cell? ⟨w1.heap.size, 2, none⟩ = some (.int .i64 d.fuse) := hXDc.out.cell 2
            have r3 : wc.cell? ⟨w1.heap.size, 3, none⟩ = some (.int .i64 d.ops) := hXDc.out.cell 3
            have r4 : wc.cell? ⟨w1.heap.size, 4, none⟩ = some (.bool d.dead) := hXDc.out.cell 4
            have g0 := hXDc.out.free 0
            have g1 := hXDc.out.free 1
            have g2 := hXDc.out.free 2
            have g3 := hXDc.out.free 3
            have g4 := hXDc.out.free 4
            have HHO := Lib.hid ho; have HHA := Lib.hid ha; clear ho ha
            go_wp2
            go_roundw
            case rel => exact ⟨k + 1, done + 1, d2, a5, c5, a6, c6, by omega, by go_num, by omega, by go_num, HZ2.out, by omega, by rw [HHO.out, HHA.out]; exact hXDc.out.sets _ _ _ _ _, HON.out.sets w1.heap.size (.inl rfl) _ _ _ _ _, by simp; omega, below_sets hbl.out w1.heap.size (by omega) _ _ _ _ _⟩
            case measure => simp [intOf]; omega
          · have hz0 : (0 : Int) < (n : Int) := by omega
            by_cases hge : n ≤ done + 1
            · by_cases hgt : n < done + 1
              · skip
                have h1 : (n : Int) ≤ (done : Int) + 1 := by omega
                have h2 : (n : Int) < (done : Int) + 1 := by omega
                have hm : min ((done : Int) + 1) (n : Int) = (n : Int) := by omega
                have he : er = 18 := by rw [HER.out]; rw [if_pos ⟨by omega, hge⟩]
                subst he
                have ho : d2.ops = (n : Int) := by rw [HZ2.out.o]; rw [if_neg hz]; omega
                have ha : d2.dead = true := by rw [HZ2.out.a]; rw [decide_eq_true_iff]; omega
                have hdd : d2 = d := HSA.out (by omega) (by omega)
                subst hdd
                have y0 : wc.cell? ⟨b, 0, none⟩ = some (.slice a5 d2.S.length c5) := HXN.out.cell 0
                have y1 : wc.cell? ⟨b, 1, none⟩ = some (.slice a6 d2.P.length c6) := HXN.out.cell 1
                have y2 : wc.cell? ⟨b, 2, none⟩ = some (.int .i64 d2.fuse) := HXN.out.cell 2
                have y3 : wc.cell? ⟨b, 3, none⟩ = some (.int .i64 (n : Int)) := by rw [← ho]; exact HXN.out.cell 3
                have y4 : wc.cell? ⟨b, 4, none⟩ = some (.bool true) := by rw [← ha]; exact HXN.out.cell 4
                have r0 : wc.cell? ⟨w1.heap.size, 0, none⟩ = some (.slice a d2.S.length c') := hXDc.out.cell 0
                have r1 : wc.cell? ⟨w1.heap.size, 1, none⟩ = some (.slice a' d2.P.length c'') := hXDc.out.cell 1
                have r2 : wc.cell? ⟨w1.heap.size, 2, none⟩ = some (.int .i64 d2.fuse) := hXDc.out.cell 2
                have r3 : wc.cell? ⟨w1.heap.size, 3, none⟩ = some (.int .i64 (n : Int)) := by rw [← ho]; exact hXDc.out.cell 3
                have r4 : wc.cell? ⟨w1.heap.size, 4, none⟩ = some (.bool true) := by rw [← ha]; exact hXDc.out.cell 4
                have g0 := hXDc.out.free 0
                have g1 := hXDc.out.free 1
                have g2 := hXDc.out.free 2
                have g3 := hXDc.out.free 3
                have g4 := hXDc.out.free 4
                have HHO := Lib.hid ho; have HHA := Lib.hid ha; clear ho ha
                have hsm := Lib.hid (RSame_any _ _ _ _ _ _ _ _ d2 _ (HON.out.lists hpl2 hsl2) hLc.out)
                go_wp2_with fail
                have hsm2 := hsm.out
                rw [HHO.out, HHA.out] at hsm2
                refine hsm2.mono ?_
                rintro e w9 ⟨rfl, hb9⟩
                clear hsm2 r0 r1 r2 r3 r4 g0 g1 g2 g3 g4 y0 y1 y2 y3 y4
                have K9 := Lib.hid hb9; clear hb9
                have y0 : w9.cell? ⟨b, 0, none⟩ = some (.slice a5 d2.S.length c5) := (HXN.out.call K9.out).cell 0
                have y1 : w9.cell? ⟨b, 1, none⟩ = some (.slice a6 d2.P.length c6) := (HXN.out.call K9.out).cell 1
                have y2 : w9.cell? ⟨b, 2, none⟩ = some (.int .i64 d2.fuse) := (HXN.out.call K9.out).cell 2
                have y3 : w9.cell? ⟨b, 3, none⟩ = some (.int .i64 (n : Int)) := by rw [← HHO.out]; exact (HXN.out.call K9.out).cell 3
                have y4 : w9.cell? ⟨b, 4, none⟩ = some (.bool true) := by rw [← HHA.out]; exact (HXN.out.call K9.out).cell 4
                have r0 : w9.cell? ⟨w1.heap.size, 0, none⟩ = some (.slice a d2.S.length c') := (hXDc.out.call K9.out).cell 0
                have r1 : w9.cell? ⟨w1.heap.size, 1, none⟩ = some (.slice a' d2.P.length c'') := (hXDc.out.call K9.out).cell 1
                have r2 : w9.cell? ⟨w1.heap.size, 2, none⟩ = some (.int .i64 d2.fuse) := (hXDc.out.call K9.out).cell 2
                have r3 : w9.cell? ⟨w1.heap.size, 3, none⟩ = some (.int .i64 (n : Int)) := by rw [← HHO.out]; exact (hXDc.out.call K9.out).cell 3
                have r4 : w9.cell? ⟨w1.heap.size, 4, none⟩ = some (.bool true) := by rw [← HHA.out]; exact (hXDc.out.call K9.out).cell 4
                have g0 := (hXDc.out.call K9.out).free 0
                have g1 := (hXDc.out.call K9.out).free 1
                have g2 := (hXDc.out.call K9.out).free 2
                have g3 := (hXDc.out.call K9.out).free 3
                have g4 := (hXDc.out.call K9.out).free 4
                have z9 := K9.out.size
                go_wp2
                go_roundw
                case rel => exact ⟨k + 1, done + 1, d2, a5, c5, a6, c6, by omega, by go_num, by omega, by go_num, HZ2.out, by omega, by rw [HHO.out, HHA.out]; exact (hXDc.out.call K9.out).sets _ _ _ _ _, (HON.out.call K9.out).sets w1.heap.size (.inl rfl) _ _ _ _ _, by simp; omega, below_sets (btrans hbl.out hbl.out.size K9.out) w1.heap.size (by omega) _ _ _ _ _⟩
                case measure => simp [intOf]; omega
              · have hn : n = done + 1 := by omega
                have h1 : (n : Int) ≤ (done : Int) + 1 := by omega
                have h2 : ¬ (n : Int) < (done : Int) + 1 := by omega
                have hm : min ((done : Int) + 1) (n : Int) = (n : Int) := by omega
                clear hn
                have he : er = 18 := by rw [HER.out]; rw [if_pos ⟨by omega, hge⟩]
                subst he
                have ho : d2.ops = (n : Int) := by rw [HZ2.out.o]; rw [if_neg hz]; omega
                have ha : d2.dead = true := by rw [HZ2.out.a]; rw [decide_eq_true_iff]; omega
                have y0 : wc.cell? ⟨b, 0, none⟩ = some (.slice a5 d2.S.length c5) := HXN.out.cell 0
                have y1 : wc.cell? ⟨b, 1, none⟩ = some (.slice a6 d2.P.length c6) := HXN.out.cell 1
                have y2 : wc.cell? ⟨b, 2, none⟩ = some (.int .i64 d2.fuse) := HXN.out.cell 2
                have y3 : wc.cell? ⟨b, 3, none⟩ = some (.int .i64 (n : Int)) := by rw [← ho]; exact HXN.out.cell 3
                have y4 : wc.cell? ⟨b, 4, none⟩ = some (.bool true) := by rw [← ha]; exact HXN.out.cell 4
                have r0 : wc.cell? ⟨w1.heap.size, 0, none⟩ = some (.slice a d.S.length c') := hXDc.out.cell 0
                have r1 : wc.cell? ⟨w1.heap.size, 1, none⟩ = some (.slice a' d.P.length c'') := hXDc.out.cell 1
                have r2 : wc.cell? ⟨w1.heap.size, 2, none⟩ = some (.int .i64 d.fuse) := hXDc.out.cell 2
                have r3 : wc.cell? ⟨w1.heap.size, 3, none⟩ = some (.int .i64 d.ops) := hXDc.out.cell 3
                have r4 : wc.cell? ⟨w1.heap.size, 4, none⟩ = some (.bool d.dead) := hXDc.out.cell 4
                have g0 := hXDc.out.free 0
                have g1 := hXDc.out.free 1
                have g2 := hXDc.out.free 2
                have g3 := hXDc.out.free 3
                have g4 := hXDc.out.free 4
                have HHO := Lib.hid ho; have HHA := Lib.hid ha; clear ho ha
                go_wp2
                go_roundw
                case rel => exact ⟨k + 1, done + 1, d2, a5, c5, a6, c6, by omega, by go_num, by omega, by go_num, HZ2.out, by omega, by rw [HHO.out, HHA.out]; exact hXDc.out.sets _ _ _ _ _, HON.out.sets w1.heap.size (.inl rfl) _ _ _ _ _, by simp; omega, below_sets hbl.out w1.heap.size (by omega) _ _ _ _ _⟩
                case measure => simp [intOf]; omega
            · have h1 : ¬ (n : Int) ≤ (done : Int) + 1 := by omega
              have h2 : ¬ (n : Int) < (done : Int) + 1 := by omega
              have hm : min ((done : Int) + 1) (n : Int) = (done : Int) + 1 := by omega
              have he : er = 0 := by rw [HER.out]; rw [if_neg (by omega)]
              subst he
              have ho : d2.ops = ((done : Int) + 1) := by rw [HZ2.out.o]; rw [if_neg hz]; omega
              have ha : d2.dead = false := by rw [HZ2.out.a]; rw [decide_eq_false_iff_not]; omega
              have y0 : wc.cell? ⟨b, 0, none⟩ = some (.slice a5 d2.S.length c5) := HXN.out.cell 0
              have y1 : wc.cell? ⟨b, 1, none⟩ = some (.slice a6 d2.P.length c6) := HXN.out.cell 1
              have y2 : wc.cell? ⟨b, 2, none⟩ = some (.int .i64 d2.fuse) := HXN.out.cell 2
              have y3 : wc.cell? ⟨b, 3, none⟩ = some (.int .i64 ((done : Int) + 1)) := by rw [← ho]; exact HXN.out.cell 3
              have y4 : wc.cell? ⟨b, 4, none⟩ = some (.bool false) := by rw [← ha]; exact HXN.out.cell 4
              have r0 : wc.cell? ⟨w1.heap.size, 0, none⟩ = some (.slice a d.S.length c') := hXDc.out.cell 0
              have r1 : wc.cell? ⟨w1.heap.size, 1, none⟩ = some (.slice a' d.P.length c'') := hXDc.out.cell 1
              have r2 : wc.cell? ⟨w1.heap.size, 2, none⟩ = some (.int .i64 d.fuse) := hXDc.out.cell 2
              have r3 : wc.cell? ⟨w1.heap.size, 3, none⟩ = some (.int .i64 d.ops) := hXDc.out.cell 3
              have r4 : wc.cell? ⟨w1.heap.size, 4, none⟩ = some (.bool d.dead) := hXDc.out.cell 4
              have g0 := hXDc.out.free 0
              have g1 := hXDc.out.free 1
              have g2 := hXDc.out.free 2
              have g3 := hXDc.out.free 3
              have g4 := hXDc.out.free 4
              have HHO := Lib.hid ho; have HHA := Lib.hid ha; clear ho ha
              go_wp2
              go_roundw
              case rel => exact ⟨k + 1, done + 1, d2, a5, c5, a6, c6, by omega, by go_num, by omega, by go_num, HZ2.out, by omega, by rw [HHO.out, HHA.out]; exact hXDc.out.sets _ _ _ _ _, HON.out.sets w1.heap.size (.inl rfl) _ _ _ _ _, by simp; omega, below_sets hbl.out w1.heap.size (by omega) _ _ _ _ _⟩
              case measure => simp [intOf]; omega
      · have hat' : ¬ m < 16 := hat
        go_wp2
        go_roundw
        case rel => exact ⟨k + 1, done, d, a, c', a', c'', by omega, by go_num, by omega, rfl, HZD.out, hpk, HXD.out, HOR.out, hszr, HBR.out⟩
        case measure => simp [intOf]; omega
    · obtain rfl : k = M.length := by omega
      obtain ⟨cc, x, q1, q2, q3, q4, q5, q6, q7, q8⟩ := fz_end hZ
      have Q1 := Lib.hid q1; have Q2 := Lib.hid q2; have Q3 := Lib.hid q3; have Q4 := Lib.hid q4; clear q1 q2 q3 q4
      have hpl : d.P.length ≤ 8999999999999 := by omega
      have hsl : d.S.length ≤ 16 := by rw [hZ.s]; exact Nat.le_refl _
      have HLW := Lib.hid (hOr.lists hpl hsl)
      have HBR := Lib.hid hbr
      have q5b : cc.S.length ≤ 64 := by omega
      have q6b : cc.P.length ≤ 64 := by omega
      have Q5 := Lib.hid q5b; have Q6 := Lib.hid q6b; clear q5 q6 q7 q8 q5b q6b hZ hOr hbr
      have x0 : wr.cell? ⟨w1.heap.size, 0, none⟩ = some (.slice a d.S.length c') := hXDr.cell 0
      have x1 : wr.cell? ⟨w1.heap.size, 1, none⟩ = some (.slice a' d.P.length c'') := hXDr.cell 1
      have x2 : wr.cell? ⟨w1.heap.size, 2, none⟩ = some (.int .i64 d.fuse) := hXDr.cell 2
      have x3 : wr.cell? ⟨w1.heap.size, 3, none⟩ = some (.int .i64 d.ops) := hXDr.cell 3
      have x4 : wr.cell? ⟨w1.heap.size, 4, none⟩ = some (.bool d.dead) := hXDr.cell 4
      clear hXDr
      go_wp2_with fail
      refine (Crash_any _ _ none _ _ 0 d [] 0 _ HLW.out (bos_nil _ _)).mono ?_
      rw [Q1.out]
      rintro e w5 ⟨a5, c5, a6, c6, rfl, hO5, hb5⟩
      clear x0 x1 x2 x3 x4
      have hXC := Bx.new w5 #[.slice a5 cc.S.length c5, .slice a6 cc.P.length c6, .int .i64 cc.fuse, .int .i64 cc.ops, .bool cc.dead] 47
      have HLC := Lib.hid (small_lists (d := cc) (hO5.alloc (.cells #[.slice a5 cc.S.length c5, .slice a6 cc.P.length c6, .int .i64 cc.fuse, .int .i64 cc.ops, .bool cc.dead] 47)) Q6.out Q5.out)
      have HB5 := Lib.hid ((btrans HBR.out HBR.out.size hb5).alloc (btrans HBR.out HBR.out.size hb5).size (.cells #[.slice a5 cc.S.length c5, .slice a6 cc.P.length c6, .int .i64 cc.fuse, .int .i64 cc.ops, .bool cc.dead] 47))
      clear hO5 hb5
      have x0 : (w5.alloc (.cells #[.slice a5 cc.S.length c5, .slice a6 cc.P.length c6, .int .i64 cc.fuse, .int .i64 cc.ops, .bool cc.dead] 47)).cell? ⟨w5.heap.size, 0, none⟩ = some (.slice a5 cc.S.length c5) := hXC.cell 0
      have x1 : (w5.alloc (.cells #[.slice a5 cc.S.length c5, .slice a6 cc.P.length c6, .int .i64 cc.fuse, .int .i64 cc.ops, .bool cc.dead] 47)).cell? ⟨w5.heap.size, 1, none⟩ = some (.slice a6 cc.P.length c6) := hXC.cell 1
      have x2 : (w5.alloc (.cells #[.slice a5 cc.S.length c5, .slice a6 cc.P.length c6, .int .i64 cc.fuse, .int .i64 cc.ops, .bool cc.dead] 47)).cell? ⟨w5.heap.size, 2, none⟩ = some (.int .i64 cc.fuse) := hXC.cell 2
      have x3 : (w5.alloc (.cells #[.slice a5 cc.S.length c5, .slice a6 cc.P.length c6, .int .i64 cc.fuse, .int .i64 cc.ops, .bool cc.dead] 47)).cell? ⟨w5.heap.size, 3, none⟩ = some (.int .i64 cc.ops) := hXC.cell 3
      have x4 : (w5.alloc (.cells #[.slice a5 cc.S.length c5, .slice a6 cc.P.length c6, .int .i64 cc.fuse, .int .i64 cc.ops, .bool cc.dead] 47)).cell? ⟨w5.heap.size, 4, none⟩ = some (.bool cc.dead) := hXC.cell 4
      clear hXC
      go_wp2_with fail
      refine (Sync_any _ _ _ _ cc _ HLC.out).mono ?_
      rw [Q2.out]
      rintro e w6 ⟨a7, c7, a8, c8, rfl, hO6, hb6⟩
      clear x0 x1 x2 x3 x4 hO6
      have XF := Q4.out; have XD := Q3.out
      have HB6 := Lib.hid ((btrans HB5.out HB5.out.size hb6).alloc (btrans HB5.out HB5.out.size hb6).size (.cells #[.slice a7 x.S.length c7, .slice a8 x.P.length c8, .int .i64 0, .int .i64 x.ops, .bool false] 47)); clear hb6
      rw [XF, XD]
      have hXX := Bx.new w6 #[.slice a7 x.S.length c7, .slice a8 x.P.length c8, .int .i64 0, .int .i64 x.ops, .bool false] 47
      have x0 : (w6.alloc (.cells #[.slice a7 x.S.length c7, .slice a8 x.P.length c8, .int .i64 0, .int .i64 x.ops, .bool false] 47)).cell? ⟨w6.heap.size, 0, none⟩ = some (.slice a7 x.S.length c7) := hXX.cell 0
      have x1 : (w6.alloc (.cells #[.slice a7 x.S.length c7, .slice a8 x.P.length c8, .int .i64 0, .int .i64 x.ops, .bool false] 47)).cell? ⟨w6.heap.size, 1, none⟩ = some (.slice a8 x.P.length c8) := hXX.cell 1
      have x2 : (w6.alloc (.cells #[.slice a7 x.S.length c7, .slice a8 x.P.length c8, .int .i64 0, .int .i64 x.ops, .bool false] 47)).cell? ⟨w6.heap.size, 2, none⟩ = some (.int .i64 0) := hXX.cell 2
      have x3 : (w6.alloc (.cells #[.slice a7 x.S.length c7, .slice a8 x.P.length c8, .int .i64 0, .int .i64 x.ops, .bool false] 47)).cell? ⟨w6.heap.size, 3, none⟩ = some (.int .i64 x.ops) := hXX.cell 3
      have x4 : (w6.alloc (.cells #[.slice a7 x.S.length c7, .slice a8 x.P.length c8, .int .i64 0, .int .i64 x.ops, .bool false] 47)).cell? ⟨w6.heap.size, 4, none⟩ = some (.bool false) := hXX.cell 4
      clear hXX XF XD
      go_wp2_with fail
      refine (examples_any _).mono ?_
      rintro e w7 ⟨rfl, hb7⟩
      have H7 := Lib.hid hb7; clear hb7
      go_wp2_with fail
      go_ret
      exact ⟨rfl, btrans HB6.out HB6.out.size H7.out⟩
end Go.Proofs.Ytnghdolpmmdknaa
