/- The examples of layer 44 hold. No conditions. -/
import Derived.Test.YtnghdolpmmdknaaDiskEx
import Derived.Deep.Cut
import Derived.Deep.CutRange
import Derived.Deep.DeepCutAuto
namespace Go.Proofs.Ytnghdolpmmdknaa
open Go.RowKit

theorem cells5_sets {W : World} {x i0 i1 i2 i3 i4 : Nat} {u0 u1 u2 u3 u4 : Value} (h : W.cell? ⟨x, i0, none⟩ = some u0 ∧ W.cell? ⟨x, i1, none⟩ = some u1 ∧ W.cell? ⟨x, i2, none⟩ = some u2 ∧ W.cell? ⟨x, i3, none⟩ = some u3 ∧ W.cell? ⟨x, i4, none⟩ = some u4) (b : Nat) (h1 : b ≠ x) (v0 v1 v2 v3 v4 : Value) :
    let W' := (((((W.setCell ⟨b, 0, none⟩ v0).setCell ⟨b, 1, none⟩ v1).setCell ⟨b, 2, none⟩ v2).setCell ⟨b, 3, none⟩ v3).setCell ⟨b, 4, none⟩ v4)
    W'.cell? ⟨x, i0, none⟩ = some u0 ∧ W'.cell? ⟨x, i1, none⟩ = some u1 ∧ W'.cell? ⟨x, i2, none⟩ = some u2 ∧ W'.cell? ⟨x, i3, none⟩ = some u3 ∧ W'.cell? ⟨x, i4, none⟩ = some u4 := by
  have f1 : ∀ i u, W.cell? ⟨x, i, none⟩ = some u → (((((W.setCell ⟨b, 0, none⟩ v0).setCell ⟨b, 1, none⟩ v1).setCell ⟨b, 2, none⟩ v2).setCell ⟨b, 3, none⟩ v3).setCell ⟨b, 4, none⟩ v4).cell? ⟨x, i, none⟩ = some u :=
    fun i u h => cell1_set _ h1 (cell1_set _ h1 (cell1_set _ h1 (cell1_set _ h1 (cell1_set _ h1 h))))
  obtain ⟨h0, h3, h4, h5, h6⟩ := h
  exact ⟨f1 _ _ h0, f1 _ _ h3, f1 _ _ h4, f1 _ _ h5, f1 _ _ h6⟩
theorem small_lists {B : Nat} {d : Dk} {w : World} {sa pa : Option Addr} {sc pc : Nat} (h : Owned B d w (.slice sa d.S.length sc) (.slice pa d.P.length pc)) (hp : d.P.length ≤ 64) (hs : d.S.length ≤ 64) : Lists w sa sc pa pc d := h.lists (by omega) (by omega)
theorem bos_nil (n : Nat) (w : World) : BoS n w (.slice none ([] : List Bool).length 0) [] := ⟨none, 0, rfl, Nat.le_refl _, fun h => absurd rfl h⟩

set_option maxRecDepth 100000 in
set_option maxHeartbeats 4000000 in
theorem examples_any (w : World) : Calls Try.prog 32 #[] w fun e w' => e = .returned (.bool true) ∧ Below w.heap.size w w' := by
  obtain ⟨d, hd⟩ : ∃ d, d = d16 := ⟨_, rfl⟩
  obtain ⟨da, hda⟩ : ∃ d, d = dA := ⟨_, rfl⟩
  obtain ⟨dc, hdc⟩ : ∃ d, d = dC := ⟨_, rfl⟩
  obtain ⟨df, hdf⟩ : ∃ d, d = dF := ⟨_, rfl⟩
  obtain ⟨de, hde⟩ : ∃ d, d = dE := ⟨_, rfl⟩
  obtain ⟨A, hA⟩ : ∃ l, l = A64 := ⟨_, rfl⟩
  obtain ⟨Z, hZ⟩ : ∃ l, l = B64 := ⟨_, rfl⟩
  obtain ⟨dz, hdz⟩ : ∃ d : Dk, d = ⟨[], [], 0, 0, false⟩ := ⟨_, rfl⟩
  have E1 := Lib.hid (show newS 15 = (dz, 1) by rw [hdz]; exact ex1)
  have E2 := Lib.hid (show newS 16 = (d, 0) by rw [hd]; exact ex2)
  have E3 := Lib.hid (show writeS d 3 A = (da, 0) by rw [hd, hda, hA]; exact ex3)
  have E4 := Lib.hid (show readS da 3 = (A, 0) by rw [hda, hA]; exact ex4)
  have E5 := Lib.hid (show crashD da [] 0 = dc by rw [hda, hdc]; exact ex5)
  have E6 := Lib.hid (show readS dc 3 = (Z, 0) by rw [hdc, hZ]; exact ex6)
  have E7 := Lib.hid (show fuseS d 1 = df by rw [hd, hdf]; exact ex7)
  have E8 := Lib.hid (show writeS df 3 A = (de, 18) by rw [hdf, hde, hA]; exact ex8)
  have EA := Lib.hid (show List.replicate 64 (byt 97) = A by rw [hA]; exact ex_a)
  have EZ := Lib.hid (show List.replicate 64 (byt 0) = Z by rw [hZ]; exact ex_z)
  have ED := Lib.hid (show de.dead = true by rw [hde]; rfl)
  have sd : d.S.length ≤ 64 := by rw [hd]; decide +kernel
  have sda : da.S.length ≤ 64 := by rw [hda]; decide +kernel
  have sdc : dc.S.length ≤ 64 := by rw [hdc]; decide +kernel
  have sdf : df.S.length ≤ 64 := by rw [hdf]; decide +kernel
  have pd : d.P.length ≤ 64 := by rw [hd]; decide +kernel
  have pda : da.P.length ≤ 64 := by rw [hda]; decide +kernel
  have pdc : dc.P.length ≤ 64 := by rw [hdc]; decide +kernel
  have pdf : df.P.length ≤ 64 := by rw [hdf]; decide +kernel
  clear hd hda hdc hdf hde hA hZ hdz
  go_enter Try.func32, Try.ntmps32
  go_wp2_with fail
  refine (New_any 15 _).mono ?_
  rw [E1.out]
  rintro e w1 ⟨a1, c1, a2, c2, rfl, hO1, hb1⟩
  clear hO1
  go_wp2_with fail
  refine (New_any 16 _).mono ?_
  rw [E2.out]
  rintro e w2 ⟨a3, c3, a4, c4, rfl, hO2, hb2⟩
  have B1 := hb1.alloc hb1.size (.cells #[.slice a1 dz.S.length c1, .slice a2 dz.P.length c2, .int .i64 dz.fuse, .int .i64 dz.ops, .bool dz.dead] 47)
  have B2 := (btrans B1 B1.size hb2).alloc (btrans B1 B1.size hb2).size (.cells #[.slice a3 d.S.length c3, .slice a4 d.P.length c4, .int .i64 d.fuse, .int .i64 d.ops, .bool d.dead] 47)
  have LD := small_lists (hO2.alloc (.cells #[.slice a3 d.S.length c3, .slice a4 d.P.length c4, .int .i64 d.fuse, .int .i64 d.ops, .bool d.dead] 47)) pd sd
  have XD := Bx.new w2 #[.slice a3 d.S.length c3, .slice a4 d.P.length c4, .int .i64 d.fuse, .int .i64 d.ops, .bool d.dead] 47
  clear hO2 hb1 hb2 B1
  have x0 : (w2.alloc (.cells #[.slice a3 d.S.length c3, .slice a4 d.P.length c4, .int .i64 d.fuse, .int .i64 d.ops, .bool d.dead] 47)).cell? ⟨w2.heap.size, 0, none⟩ = some (.slice a3 d.S.length c3) := XD.cell 0
  have x1 : (w2.alloc (.cells #[.slice a3 d.S.length c3, .slice a4 d.P.length c4, .int .i64 d.fuse, .int .i64 d.ops, .bool d.dead] 47)).cell? ⟨w2.heap.size, 1, none⟩ = some (.slice a4 d.P.length c4) := XD.cell 1
  have x2 : (w2.alloc (.cells #[.slice a3 d.S.length c3, .slice a4 d.P.length c4, .int .i64 d.fuse, .int .i64 d.ops, .bool d.dead] 47)).cell? ⟨w2.heap.size, 2, none⟩ = some (.int .i64 d.fuse) := XD.cell 2
  have x3 : (w2.alloc (.cells #[.slice a3 d.S.length c3, .slice a4 d.P.length c4, .int .i64 d.fuse, .int .i64 d.ops, .bool d.dead] 47)).cell? ⟨w2.heap.size, 3, none⟩ = some (.int .i64 d.ops) := XD.cell 3
  have x4 : (w2.alloc (.cells #[.slice a3 d.S.length c3, .slice a4 d.P.length c4, .int .i64 d.fuse, .int .i64 d.ops, .bool d.dead] 47)).cell? ⟨w2.heap.size, 4, none⟩ = some (.bool d.dead) := XD.cell 4
  have HB2 := Lib.hid B2; have HLD := Lib.hid LD; have HXD := Lib.hid XD; clear B2 LD XD
  have hs0 : (w2.alloc (.cells #[.slice a3 d.S.length c3, .slice a4 d.P.length c4, .int .i64 d.fuse, .int .i64 d.ops, .bool d.dead] 47)).drew.cell? ⟨w2.heap.size, 0, none⟩ = some (.slice a3 d.S.length c3) ∧ (w2.alloc (.cells #[.slice a3 d.S.length c3, .slice a4 d.P.length c4, .int .i64 d.fuse, .int .i64 d.ops, .bool d.dead] 47)).drew.cell? ⟨w2.heap.size, 1, none⟩ = some (.slice a4 d.P.length c4) ∧ (w2.alloc (.cells #[.slice a3 d.S.length c3, .slice a4 d.P.length c4, .int .i64 d.fuse, .int .i64 d.ops, .bool d.dead] 47)).drew.cell? ⟨w2.heap.size, 2, none⟩ = some (.int .i64 d.fuse) ∧ (w2.alloc (.cells #[.slice a3 d.S.length c3, .slice a4 d.P.length c4, .int .i64 d.fuse, .int .i64 d.ops, .bool d.dead] 47)).drew.cell? ⟨w2.heap.size, 3, none⟩ = some (.int .i64 d.ops) ∧ (w2.alloc (.cells #[.slice a3 d.S.length c3, .slice a4 d.P.length c4, .int .i64 d.fuse, .int .i64 d.ops, .bool d.dead] 47)).drew.cell? ⟨w2.heap.size, 4, none⟩ = some (.bool d.dead) := ⟨x0, x1, x2, x3, x4⟩
  go_wp2_with fail
  go_cut [5, 6] (fun s5 s6 W => ∃ b a5 c5 a6 c6, s5 = .pointer (some ⟨b, 0, none⟩) ∧ s6 = .int .i64 0 ∧ Bx b #[.slice a5 da.S.length c5, .slice a6 da.P.length c6, .int .i64 da.fuse, .int .i64 da.ops, .bool da.dead] 47 W ∧ Lists W a5 c5 a6 c6 da ∧ Below w2.heap.size.succ (w2.alloc (.cells #[.slice a3 d.S.length c3, .slice a4 d.P.length c4, .int .i64 d.fuse, .int .i64 d.ops, .bool d.dead] 47)) W)
  case first =>
    refine wp_region_held_drew (S := (fun w' => w'.cell? ⟨w2.heap.size, 0, none⟩ = some (.slice a3 d.S.length c3) ∧ w'.cell? ⟨w2.heap.size, 1, none⟩ = some (.slice a4 d.P.length c4) ∧ w'.cell? ⟨w2.heap.size, 2, none⟩ = some (.int .i64 d.fuse) ∧ w'.cell? ⟨w2.heap.size, 3, none⟩ = some (.int .i64 d.ops) ∧ w'.cell? ⟨w2.heap.size, 4, none⟩ = some (.bool d.dead))) (by kernel_rfl) ?_ (fun hHeld => ?_)
    · exact hs0
    refine takeH (i := 0) (v := ?vv9) 22 rfl rfl (by kernel_rfl) (by kernel_rfl) (by kernel_rfl) (fun _ _ _ h => h) (Or.inl ⟨by kernel_rfl, ?yy9⟩) (by assumption) ?_
    case yy9 => intro w hSw; (try dsimp only at hSw); go_simp; (try with_reducible rfl)
    simp only [List.setIfInBounds_toArray, List.set_cons_zero, List.set_cons_succ]
    refine wpAnyH_ready (rs := [1, 6]) (by kernel_rfl) (by simp) ?_
    refine (AllReadyH.cons rfl (fun K hK => ?_) (AllReadyH.cons rfl (fun K hK => ?_) AllReadyH.nil))
    · skip
      go_simp
      (refine (sector_any 97 (by decide) (by decide) _).mono ?_; rw [EA.out]; rintro e w3 ⟨rfl, hb3⟩)
      (try go_wp2_with fail)
      refine hK.out _ _ ?_ (fun hHeld => ?_)
      · exact cells5_below hHeld hb3
      clear hK K
      (try simp only [Act.put, List.setIfInBounds_toArray, List.set_cons_zero, List.set_cons_succ])
      refine wpAnyH_ready (rs := [2, 6]) (by kernel_rfl) (by simp) ?_
      refine (AllReadyH.cons rfl (fun K hK => ?_) (AllReadyH.cons rfl (fun K hK => ?_) AllReadyH.nil))
      · skip
        go_simp
        (refine (Write_any _ _ _ _ d 3 A _ (HLD.out.below (btrans ((Below.refl _ _).drew) (Nat.le_refl _) hb3)) (by omega)).mono ?_; rw [E3.out]; rintro e w4 ⟨a5, c5, a6, c6, rfl, hO4, hb4⟩)
        (try go_wp2_with fail)
        refine hK.out _ _ ?_ (fun hHeld => ?_)
        · exact cells5_below hHeld hb4
        clear hK K
        (try simp only [Act.put, List.setIfInBounds_toArray, List.set_cons_zero, List.set_cons_succ])
        refine takeH (i := 3) (v := ?vv10) 21 rfl rfl (by kernel_rfl) (by kernel_rfl) (by kernel_rfl) (fun _ _ _ h => h) (Or.inl ⟨by kernel_rfl, ?yy10⟩) (by assumption) ?_
        case yy10 => intro w hSw; (try dsimp only at hSw); go_simp; (try with_reducible rfl)
        simp only [List.setIfInBounds_toArray, List.set_cons_zero, List.set_cons_succ]
        refine takeH (i := 4) (v := ?vv11) 25 rfl rfl (by kernel_rfl) (by kernel_rfl) (by kernel_rfl) (fun _ _ _ h => h) (Or.inl ⟨by kernel_rfl, ?yy11⟩) (by assumption) ?_
        case yy11 => intro w hSw; (try dsimp only at hSw); go_simp; (try with_reducible rfl)
        simp only [List.setIfInBounds_toArray, List.set_cons_zero, List.set_cons_succ]
        refine takeH (i := 5) (v := ?vv12) 26 rfl rfl (by kernel_rfl) (by kernel_rfl) (by kernel_rfl) (fun _ _ _ h => h) (Or.inl ⟨by kernel_rfl, ?yy12⟩) (by assumption) ?_
        case yy12 => intro w hSw; (try dsimp only at hSw); go_simp; (try with_reducible rfl)
        simp only [List.setIfInBounds_toArray, List.set_cons_zero, List.set_cons_succ]
        refine wpAnyH_ready (rs := [6]) (by kernel_rfl) (by simp) ?_
        refine (AllReadyH.cons rfl (fun K hK => ?_) AllReadyH.nil)
        go_simp
        skip
        (try go_wp2_with fail)
        refine hK.out _ _ ?_ (fun hHeld => ?_)
        · exact cells5_below hHeld ((Below.refl _ _).alloc (Nat.le_refl _) _)
        clear hK K
        (try simp only [Act.put, List.setIfInBounds_toArray, List.set_cons_zero, List.set_cons_succ])
        refine wpAnyH_ready (rs := [7]) (by kernel_rfl) (by simp) ?_
        refine (AllReadyH.cons rfl (fun K hK => ?_) AllReadyH.nil)
        go_simp
        skip
        (try go_wp2_with fail)
        refine hK.out _ _ ?_ (fun hHeld => ?_)
        · exact cells5_below (by assumption) (hb4.alloc hb4.size _)
        clear hK K
        (try simp only [Act.put, List.setIfInBounds_toArray, List.set_cons_zero, List.set_cons_succ])
        refine takeH (i := 8) (v := ?vv13) 6 rfl rfl (by kernel_rfl) (by kernel_rfl) (by kernel_rfl) (fun _ _ _ h => h) (Or.inl ⟨by kernel_rfl, ?yy13⟩) (by assumption) ?_
        case yy13 => intro w hSw; (try dsimp only at hSw); go_simp; (try with_reducible rfl)
        simp only [List.setIfInBounds_toArray, List.set_cons_zero, List.set_cons_succ]
        refine wpAnyH_done (by kernel_rfl) ?_ _
        go_wp2_with fail
        go_meet
        refine ⟨_, a5, c5, a6, c6, rfl, rfl, Bx.new w4 _ _, small_lists (hO4.alloc _) pda sda, ?_⟩
        exact ((btrans (btrans ((Below.refl _ _).drew) (Nat.le_refl _) hb3) (Nat.le_trans (Nat.le_refl _) (btrans ((Below.refl _ _).drew) (Nat.le_refl _) hb3).size) hb4).alloc (Nat.le_trans (btrans ((Below.refl _ _).drew) (Nat.le_refl _) hb3).size hb4.size) _).mono (by simp)
      · skip
        go_simp
        skip
        (try go_wp2_with fail)
        refine hK.out _ _ ?_ (fun hHeld => ?_)
        · exact cells5_below hHeld ((Below.refl _ _).alloc (Nat.le_refl _) _)
        clear hK K
        (try simp only [Act.put, List.setIfInBounds_toArray, List.set_cons_zero, List.set_cons_succ])
        refine wpAnyH_ready (rs := [2]) (by kernel_rfl) (by simp) ?_
        refine (AllReadyH.cons rfl (fun K hK => ?_) AllReadyH.nil)
        go_simp
        (refine (Write_any _ _ _ _ d 3 A _ (HLD.out.below (btrans ((Below.refl _ _).drew) (Nat.le_refl _) (btrans hb3 hb3.size ((Below.refl _ _).alloc (Nat.le_refl _) _)))) (by omega)).mono ?_; rw [E3.out]; rintro e w4 ⟨a5, c5, a6, c6, rfl, hO4, hb4⟩; have hb5 := hb4)
        (try go_wp2_with fail)
        refine hK.out _ _ ?_ (fun hHeld => ?_)
        · exact cells5_below hHeld hb4
        clear hK K
        (try simp only [Act.put, List.setIfInBounds_toArray, List.set_cons_zero, List.set_cons_succ])
        refine takeH (i := 3) (v := ?vv14) 21 rfl rfl (by kernel_rfl) (by kernel_rfl) (by kernel_rfl) (fun _ _ _ h => h) (Or.inl ⟨by kernel_rfl, ?yy14⟩) (by assumption) ?_
        case yy14 => intro w hSw; (try dsimp only at hSw); go_simp; (try with_reducible rfl)
        simp only [List.setIfInBounds_toArray, List.set_cons_zero, List.set_cons_succ]
        refine takeH (i := 4) (v := ?vv15) 25 rfl rfl (by kernel_rfl) (by kernel_rfl) (by kernel_rfl) (fun _ _ _ h => h) (Or.inl ⟨by kernel_rfl, ?yy15⟩) (by assumption) ?_
        case yy15 => intro w hSw; (try dsimp only at hSw); go_simp; (try with_reducible rfl)
        simp only [List.setIfInBounds_toArray, List.set_cons_zero, List.set_cons_succ]
        refine takeH (i := 5) (v := ?vv16) 26 rfl rfl (by kernel_rfl) (by kernel_rfl) (by kernel_rfl) (fun _ _ _ h => h) (Or.inl ⟨by kernel_rfl, ?yy16⟩) (by assumption) ?_
        case yy16 => intro w hSw; (try dsimp only at hSw); go_simp; (try with_reducible rfl)
        simp only [List.setIfInBounds_toArray, List.set_cons_zero, List.set_cons_succ]
        have hsz3 : w2.heap.size + 1 ≤ w3.heap.size := by have := hb3.size; simp at this; omega
        refine wpAnyH_ready (rs := [7]) (by kernel_rfl) (by simp) ?_
        refine (AllReadyH.cons rfl (fun K hK => ?_) AllReadyH.nil)
        have hBB : Bx w3.heap.size #[.slice none 0 0, .slice none 0 0, .int .i64 0, .int .i64 0, .bool false] 47 w4 := by have h := (Bx.new w3 _ _).call hb4; (try rw [World.size_alloc] at h); exact h
        have r0 : w4.cell? ⟨w3.heap.size, 0, none⟩ = some (.slice none 0 0) := hBB.cell 0
        have r1 : w4.cell? ⟨w3.heap.size, 1, none⟩ = some (.slice none 0 0) := hBB.cell 1
        have r2 : w4.cell? ⟨w3.heap.size, 2, none⟩ = some (.int .i64 0) := hBB.cell 2
        have r3 : w4.cell? ⟨w3.heap.size, 3, none⟩ = some (.int .i64 0) := hBB.cell 3
        have r4 : w4.cell? ⟨w3.heap.size, 4, none⟩ = some (.bool false) := hBB.cell 4
        have g0 := hBB.free 0
        have g1 := hBB.free 1
        have g2 := hBB.free 2
        have g3 := hBB.free 3
        have g4 := hBB.free 4
        go_simp
        skip
        (try go_wp2_with fail)
        refine hK.out _ _ ?_ (fun hHeld => ?_)
        · exact cells5_sets (by assumption) w3.heap.size (by omega) _ _ _ _ _
        clear hK K
        (try simp only [Act.put, List.setIfInBounds_toArray, List.set_cons_zero, List.set_cons_succ])
        refine takeH (i := 8) (v := ?vv17) 6 rfl rfl (by kernel_rfl) (by kernel_rfl) (by kernel_rfl) (fun _ _ _ h => h) (Or.inl ⟨by kernel_rfl, ?yy17⟩) (by assumption) ?_
        case yy17 => intro w hSw; (try dsimp only at hSw); go_simp; (try with_reducible rfl)
        simp only [List.setIfInBounds_toArray, List.set_cons_zero, List.set_cons_succ]
        refine wpAnyH_done (by kernel_rfl) ?_ _
        go_wp2_with fail
        go_meet
        refine ⟨_, a5, c5, a6, c6, rfl, rfl, hBB.sets _ _ _ _ _, small_lists ((hO4.mono (B' := w3.heap.size + 1) (by first | omega | simp)).sets (w3.heap.size) (by omega) _ _ _ _ _) pda sda, ?_⟩
        exact below_sets (((btrans ((Below.refl _ _).drew) (Nat.le_refl _) (btrans hb3 hb3.size ((Below.refl _ _).alloc (Nat.le_refl _) _))).trans (hb4.mono (by simp; omega))).mono (by simp)) (w3.heap.size) (by first | omega | (simp; omega) | simp) _ _ _ _ _
    · skip
      go_simp
      skip
      (try go_wp2_with fail)
      refine hK.out _ _ ?_ (fun hHeld => ?_)
      · exact cells5_below hHeld ((Below.refl _ _).alloc (Nat.le_refl _) _)
      clear hK K
      (try simp only [Act.put, List.setIfInBounds_toArray, List.set_cons_zero, List.set_cons_succ])
      refine wpAnyH_ready (rs := [1]) (by kernel_rfl) (by simp) ?_
      refine (AllReadyH.cons rfl (fun K hK => ?_) AllReadyH.nil)
      go_simp
      (refine (sector_any 97 (by decide) (by decide) _).mono ?_; rw [EA.out]; rintro e w3 ⟨rfl, hb3⟩)
      (try go_wp2_with fail)
      refine hK.out _ _ ?_ (fun hHeld => ?_)
      · exact cells5_below hHeld hb3
      clear hK K
      (try simp only [Act.put, List.setIfInBounds_toArray, List.set_cons_zero, List.set_cons_succ])
      refine wpAnyH_ready (rs := [2]) (by kernel_rfl) (by simp) ?_
      refine (AllReadyH.cons rfl (fun K hK => ?_) AllReadyH.nil)
      go_simp
      (refine (Write_any _ _ _ _ d 3 A _ (HLD.out.below (btrans ((Below.refl _ _).drew) (Nat.le_refl _) (btrans (((Below.refl _ _).alloc (Nat.le_refl _) _)) (by simp) hb3))) (by omega)).mono ?_; rw [E3.out]; rintro e w4 ⟨a5, c5, a6, c6, rfl, hO4, hb4⟩)
      (try go_wp2_with fail)
      refine hK.out _ _ ?_ (fun hHeld => ?_)
      · exact cells5_below hHeld hb4
      clear hK K
      (try simp only [Act.put, List.setIfInBounds_toArray, List.set_cons_zero, List.set_cons_succ])
      refine takeH (i := 3) (v := ?vv18) 21 rfl rfl (by kernel_rfl) (by kernel_rfl) (by kernel_rfl) (fun _ _ _ h => h) (Or.inl ⟨by kernel_rfl, ?yy18⟩) (by assumption) ?_
      case yy18 => intro w hSw; (try dsimp only at hSw); go_simp; (try with_reducible rfl)
      simp only [List.setIfInBounds_toArray, List.set_cons_zero, List.set_cons_succ]
      refine takeH (i := 4) (v := ?vv19) 25 rfl rfl (by kernel_rfl) (by kernel_rfl) (by kernel_rfl) (fun _ _ _ h => h) (Or.inl ⟨by kernel_rfl, ?yy19⟩) (by assumption) ?_
      case yy19 => intro w hSw; (try dsimp only at hSw); go_simp; (try with_reducible rfl)
      simp only [List.setIfInBounds_toArray, List.set_cons_zero, List.set_cons_succ]
      refine takeH (i := 5) (v := ?vv20) 26 rfl rfl (by kernel_rfl) (by kernel_rfl) (by kernel_rfl) (fun _ _ _ h => h) (Or.inl ⟨by kernel_rfl, ?yy20⟩) (by assumption) ?_
      case yy20 => intro w hSw; (try dsimp only at hSw); go_simp; (try with_reducible rfl)
      simp only [List.setIfInBounds_toArray, List.set_cons_zero, List.set_cons_succ]
      have hsz3 : w2.heap.size + 2 ≤ w3.heap.size := by have := hb3.size; simp at this; omega
      have hsz4 := hb4.size
      refine wpAnyH_ready (rs := [7]) (by kernel_rfl) (by simp) ?_
      refine (AllReadyH.cons rfl (fun K hK => ?_) AllReadyH.nil)
      have hBB : Bx (w2.heap.size + 1) #[.slice none 0 0, .slice none 0 0, .int .i64 0, .int .i64 0, .bool false] 47 w4 := by have h := ((Bx.new (w2.alloc (.cells #[.slice a3 d.S.length c3, .slice a4 d.P.length c4, .int .i64 d.fuse, .int .i64 d.ops, .bool d.dead] 47)) #[.slice none 0 0, .slice none 0 0, .int .i64 0, .int .i64 0, .bool false] 47).drew.call hb3).call hb4; (try rw [World.size_alloc] at h); exact h
      have r0 : w4.cell? ⟨(w2.heap.size + 1), 0, none⟩ = some (.slice none 0 0) := hBB.cell 0
      have r1 : w4.cell? ⟨(w2.heap.size + 1), 1, none⟩ = some (.slice none 0 0) := hBB.cell 1
      have r2 : w4.cell? ⟨(w2.heap.size + 1), 2, none⟩ = some (.int .i64 0) := hBB.cell 2
      have r3 : w4.cell? ⟨(w2.heap.size + 1), 3, none⟩ = some (.int .i64 0) := hBB.cell 3
      have r4 : w4.cell? ⟨(w2.heap.size + 1), 4, none⟩ = some (.bool false) := hBB.cell 4
      have g0 := hBB.free 0
      have g1 := hBB.free 1
      have g2 := hBB.free 2
      have g3 := hBB.free 3
      have g4 := hBB.free 4
      go_simp
      skip
      (try go_wp2_with fail)
      refine hK.out _ _ ?_ (fun hHeld => ?_)
      · exact cells5_sets (by assumption) (w2.heap.size + 1) (by omega) _ _ _ _ _
      clear hK K
      (try simp only [Act.put, List.setIfInBounds_toArray, List.set_cons_zero, List.set_cons_succ])
      refine takeH (i := 8) (v := ?vv21) 6 rfl rfl (by kernel_rfl) (by kernel_rfl) (by kernel_rfl) (fun _ _ _ h => h) (Or.inl ⟨by kernel_rfl, ?yy21⟩) (by assumption) ?_
      case yy21 => intro w hSw; (try dsimp only at hSw); go_simp; (try with_reducible rfl)
      simp only [List.setIfInBounds_toArray, List.set_cons_zero, List.set_cons_succ]
      refine wpAnyH_done (by kernel_rfl) ?_ _
      go_wp2_with fail
      go_meet
      refine ⟨_, a5, c5, a6, c6, rfl, rfl, hBB.sets _ _ _ _ _, small_lists ((hO4.mono (B' := (w2.heap.size + 1) + 1) (by first | omega | simp)).sets ((w2.heap.size + 1)) (by omega) _ _ _ _ _) pda sda, ?_⟩
      exact below_sets ((btrans (btrans (((Below.refl _ (w2.alloc (.cells #[.slice a3 d.S.length c3, .slice a4 d.P.length c4, .int .i64 d.fuse, .int .i64 d.ops, .bool d.dead] 47))).alloc (Nat.le_refl _) _).drew) (by simp) hb3) (by simp; omega) hb4).mono (by simp)) ((w2.heap.size + 1)) (by first | omega | (simp; omega) | simp) _ _ _ _ _
  case rest =>
    obtain ⟨b, a5, c5, a6, c6, rfl, rfl, XA, LA, hbA⟩ := hcut
    clear x0 x1 x2 x3 x4 hs0
    have x0 : wc.cell? ⟨b, 0, none⟩ = some (.slice a5 da.S.length c5) := XA.cell 0
    have x1 : wc.cell? ⟨b, 1, none⟩ = some (.slice a6 da.P.length c6) := XA.cell 1
    have x2 : wc.cell? ⟨b, 2, none⟩ = some (.int .i64 da.fuse) := XA.cell 2
    have x3 : wc.cell? ⟨b, 3, none⟩ = some (.int .i64 da.ops) := XA.cell 3
    have x4 : wc.cell? ⟨b, 4, none⟩ = some (.bool da.dead) := XA.cell 4
    have hbl := HB2.out.trans (hbA.mono (by have := HB2.out.size; simp at this ⊢; omega))
    have XD := HXD.out.below hbA (by simp)
    have LD := HLD.out.below (hbA.mono (by simp))
    have HXA := Lib.hid XA; have HLA := Lib.hid LA; have HXD := Lib.hid XD; have HLD := Lib.hid LD; have HB := Lib.hid hbl; clear XA LA XD LD hbl hbA
    go_wp2_with fail
    refine (Read_any _ _ _ _ _ _ _ HLA.out).mono ?_
    rw [E4.out]
    rintro e w5 ⟨rfl, hb5⟩
    clear x0 x1 x2 x3 x4
    have HXA5 := Lib.hid (HXA.out.call hb5); have HLA5 := Lib.hid (HLA.out.below hb5); have HXD5 := Lib.hid (HXD.out.call hb5); have HLD5 := Lib.hid (HLD.out.below hb5); have HB5 := Lib.hid (btrans HB.out HB.out.size hb5); clear hb5 HXA HLA HXD HLD HB
    have x0 : w5.cell? ⟨b, 0, none⟩ = some (.slice a5 da.S.length c5) := HXA5.out.cell 0
    have x1 : w5.cell? ⟨b, 1, none⟩ = some (.slice a6 da.P.length c6) := HXA5.out.cell 1
    have x2 : w5.cell? ⟨b, 2, none⟩ = some (.int .i64 da.fuse) := HXA5.out.cell 2
    have x3 : w5.cell? ⟨b, 3, none⟩ = some (.int .i64 da.ops) := HXA5.out.cell 3
    have x4 : w5.cell? ⟨b, 4, none⟩ = some (.bool da.dead) := HXA5.out.cell 4
    go_wp2_with fail
    refine (Crash_any _ _ none _ _ 0 da [] 0 _ HLA5.out (bos_nil _ _)).mono ?_
    rw [E5.out]
    rintro e w6 ⟨a7, c7, a8, c8, rfl, hO6, hb6⟩
    clear x0 x1 x2 x3 x4
    have LC := small_lists hO6 pdc sdc
    have HXD6 := Lib.hid (HXD5.out.call hb6); have HLD6 := Lib.hid (HLD5.out.below hb6); have HB6 := Lib.hid (btrans HB5.out HB5.out.size hb6); clear hb6 hO6 HXA5 HLA5 HXD5 HLD5 HB5
    go_wp2_with fail
    refine (Read_any _ _ _ _ _ _ _ LC).mono ?_
    rw [E6.out]
    rintro e w7 ⟨rfl, hb7⟩
    clear LC
    have HXD7 := Lib.hid (HXD6.out.call hb7); have HLD7 := Lib.hid (HLD6.out.below hb7); have HB7 := Lib.hid (btrans HB6.out HB6.out.size hb7); clear hb7 HXD6 HLD6 HB6
    have x0 : w7.cell? ⟨w2.heap.size, 0, none⟩ = some (.slice a3 d.S.length c3) := HXD7.out.cell 0
    have x1 : w7.cell? ⟨w2.heap.size, 1, none⟩ = some (.slice a4 d.P.length c4) := HXD7.out.cell 1
    have x2 : w7.cell? ⟨w2.heap.size, 2, none⟩ = some (.int .i64 d.fuse) := HXD7.out.cell 2
    have x3 : w7.cell? ⟨w2.heap.size, 3, none⟩ = some (.int .i64 d.ops) := HXD7.out.cell 3
    have x4 : w7.cell? ⟨w2.heap.size, 4, none⟩ = some (.bool d.dead) := HXD7.out.cell 4
    go_wp2_with fail
    refine (Fuse_any _ _ _ _ d 1 _ HLD7.out).mono ?_
    rw [E7.out]
    rintro e w8 ⟨b1, e1, b2, e2, rfl, hO8, hb8⟩
    clear x0 x1 x2 x3 x4
    have LF := small_lists hO8 pdf sdf
    have HB8 := Lib.hid (btrans HB7.out HB7.out.size hb8); clear hb8 hO8 HXD7 HLD7 HB7
    go_wp2_with fail
    refine (sector_any 97 (by decide) (by decide) _).mono ?_
    rw [EA.out]
    rintro e w9 ⟨rfl, hb9⟩
    have LF := LF.below hb9
    have HB9 := Lib.hid (btrans HB8.out HB8.out.size hb9); clear hb9 HB8
    go_wp2_with fail
    refine (Write_any _ _ _ _ df 3 A _ LF (by omega)).mono ?_
    rw [E8.out]
    rintro e w10 ⟨b3, e3, b4, e4, rfl, hO10, hb10⟩
    clear hO10 LF
    have XE := Bx.new w10 #[.slice b3 de.S.length e3, .slice b4 de.P.length e4, .int .i64 de.fuse, .int .i64 de.ops, .bool de.dead] 47
    have HB10 := Lib.hid ((btrans HB9.out HB9.out.size hb10).alloc (btrans HB9.out HB9.out.size hb10).size (.cells #[.slice b3 de.S.length e3, .slice b4 de.P.length e4, .int .i64 de.fuse, .int .i64 de.ops, .bool de.dead] 47)); clear hb10 HB9
    have HXE := Lib.hid XE; clear XE
    go_wp2_with fail
    refine (sector_any 97 (by decide) (by decide) _).mono ?_
    rw [EA.out]
    rintro e w11 ⟨rfl, hb11⟩
    have HXE1 := Lib.hid (HXE.out.call hb11); have HB11 := Lib.hid (btrans HB10.out HB10.out.size hb11); clear hb11 HXE HB10
    go_wp2_with fail
    refine (sector_any 0 (by decide) (by decide) _).mono ?_
    rw [EZ.out]
    rintro e w12 ⟨rfl, hb12⟩
    have XE := HXE1.out.call hb12
    have z4 : w12.cell? ⟨w10.heap.size, 4, none⟩ = some (.bool true) := by rw [← ED.out]; exact XE.cell 4
    have HB12 := Lib.hid (btrans HB11.out HB11.out.size hb12); clear hb12 HXE1 HB11 XE
    go_wp2_with fail
    go_ret
    exact ⟨rfl, HB12.out⟩
end Go.Proofs.Ytnghdolpmmdknaa
