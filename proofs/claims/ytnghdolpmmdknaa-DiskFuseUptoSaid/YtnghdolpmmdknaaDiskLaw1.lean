/- The walk of DiskCrashed. No conditions. -/
import Derived.Test.YtnghdolpmmdknaaDiskEx2
import Derived.Test.YtnghdolpmmdknaaDiskArgs
namespace Go.Proofs.Ytnghdolpmmdknaa
open Go.RowKit

theorem crash_len (d : Dk) (kb : List Bool) (tear : Int) : (crashD d kb tear).S.length = d.S.length ∧ (crashD d kb tear).P.length ≤ d.P.length := by
  cases hv : validB d with
  | false => rw [crash_off kb tear hv]; exact ⟨rfl, Nat.le_refl _⟩
  | true =>
    rw [crash_on kb tear hv]
    obtain ⟨_, hs, hp⟩ := (validB_iff d).1 hv
    exact ⟨(foldC_inv _ tear (fun x hx => (hp x hx).2.2) hs _).1, Nat.zero_le _⟩

set_option maxRecDepth 100000 in
set_option maxHeartbeats 4000000 in
theorem crashedWalk (sa pa ka : Option Addr) (sc pc kc : Nat) (d : Dk) (kb : List Bool) (tear : Int) (w : World) (hD : Lists w sa sc pa pc d) (hS : BoS w.heap.size w (.slice ka kb.length kc) kb) (hkl : kb.length ≤ 140737488355328) :
    Calls Try.prog 11 #[.agg #[.slice sa d.S.length sc, .slice pa d.P.length pc, .int .i64 d.fuse, .int .i64 d.ops, .bool d.dead], .slice ka kb.length kc, .int .i64 tear] w fun e w' => e = .returned (.bool true) ∧ Below w.heap.size w w' := by
  obtain ⟨c, hc⟩ : ∃ c, crashD d kb tear = c := ⟨_, rfl⟩
  obtain ⟨l1, l2⟩ := crash_len d kb tear
  have l3 := hD.2.2.1
  have l4 := hD.2.2.2
  rw [hc] at l1 l2
  have HC := Lib.hid hc; clear hc
  have LS := Lib.hid (show c.S.length ≤ 9000000000000 by omega); have LP := Lib.hid (show c.P.length ≤ 9000000000000 by omega); clear l1 l2 l3 l4
  have hb0 := (Below.refl w.heap.size w).alloc (Nat.le_refl _) (.cells #[.slice sa d.S.length sc, .slice pa d.P.length pc, .int .i64 d.fuse, .int .i64 d.ops, .bool d.dead] 47)
  have hX := Bx.new w #[.slice sa d.S.length sc, .slice pa d.P.length pc, .int .i64 d.fuse, .int .i64 d.ops, .bool d.dead] 47
  have hD0 := Lib.hid (hD.below (hb0.drew)); have hS0 := Lib.hid (hS.below (hb0.drew))
  have x0 : (w.alloc (.cells #[.slice sa d.S.length sc, .slice pa d.P.length pc, .int .i64 d.fuse, .int .i64 d.ops, .bool d.dead] 47)).cell? ⟨w.heap.size, 0, none⟩ = some (.slice sa d.S.length sc) := hX.cell 0
  have x1 : (w.alloc (.cells #[.slice sa d.S.length sc, .slice pa d.P.length pc, .int .i64 d.fuse, .int .i64 d.ops, .bool d.dead] 47)).cell? ⟨w.heap.size, 1, none⟩ = some (.slice pa d.P.length pc) := hX.cell 1
  have x2 : (w.alloc (.cells #[.slice sa d.S.length sc, .slice pa d.P.length pc, .int .i64 d.fuse, .int .i64 d.ops, .bool d.dead] 47)).cell? ⟨w.heap.size, 2, none⟩ = some (.int .i64 d.fuse) := hX.cell 2
  have x3 : (w.alloc (.cells #[.slice sa d.S.length sc, .slice pa d.P.length pc, .int .i64 d.fuse, .int .i64 d.ops, .bool d.dead] 47)).cell? ⟨w.heap.size, 3, none⟩ = some (.int .i64 d.ops) := hX.cell 3
  have x4 : (w.alloc (.cells #[.slice sa d.S.length sc, .slice pa d.P.length pc, .int .i64 d.fuse, .int .i64 d.ops, .bool d.dead] 47)).cell? ⟨w.heap.size, 4, none⟩ = some (.bool d.dead) := hX.cell 4
  clear hX
  have hs0 : (w.alloc (.cells #[.slice sa d.S.length sc, .slice pa d.P.length pc, .int .i64 d.fuse, .int .i64 d.ops, .bool d.dead] 47)).drew.cell? ⟨w.heap.size, 0, none⟩ = some (.slice sa d.S.length sc) ∧ (w.alloc (.cells #[.slice sa d.S.length sc, .slice pa d.P.length pc, .int .i64 d.fuse, .int .i64 d.ops, .bool d.dead] 47)).drew.cell? ⟨w.heap.size, 1, none⟩ = some (.slice pa d.P.length pc) ∧ (w.alloc (.cells #[.slice sa d.S.length sc, .slice pa d.P.length pc, .int .i64 d.fuse, .int .i64 d.ops, .bool d.dead] 47)).drew.cell? ⟨w.heap.size, 2, none⟩ = some (.int .i64 d.fuse) ∧ (w.alloc (.cells #[.slice sa d.S.length sc, .slice pa d.P.length pc, .int .i64 d.fuse, .int .i64 d.ops, .bool d.dead] 47)).drew.cell? ⟨w.heap.size, 3, none⟩ = some (.int .i64 d.ops) ∧ (w.alloc (.cells #[.slice sa d.S.length sc, .slice pa d.P.length pc, .int .i64 d.fuse, .int .i64 d.ops, .bool d.dead] 47)).drew.cell? ⟨w.heap.size, 4, none⟩ = some (.bool d.dead) := ⟨x0, x1, x2, x3, x4⟩
  go_enter Try.func11, Try.ntmps11
  go_wp2_with fail
  refine wp_region_held_drew (S := (fun w' => w'.cell? ⟨w.heap.size, 0, none⟩ = some (.slice sa d.S.length sc) ∧ w'.cell? ⟨w.heap.size, 1, none⟩ = some (.slice pa d.P.length pc) ∧ w'.cell? ⟨w.heap.size, 2, none⟩ = some (.int .i64 d.fuse) ∧ w'.cell? ⟨w.heap.size, 3, none⟩ = some (.int .i64 d.ops) ∧ w'.cell? ⟨w.heap.size, 4, none⟩ = some (.bool d.dead))) (by kernel_rfl) ?_ (fun hHeld => ?_)
  · exact hs0
  refine takeH (i := 0) (v := ?vv1) 7 rfl rfl (by kernel_rfl) (by kernel_rfl) (by kernel_rfl) (fun _ _ _ h => h) (Or.inl ⟨by kernel_rfl, ?yy1⟩) (by assumption) ?_
  case yy1 => intro w hSw; (try dsimp only at hSw); go_simp; (try with_reducible rfl)
  simp only [List.setIfInBounds_toArray, List.set_cons_zero, List.set_cons_succ]
  refine takeH (i := 1) (v := ?vv2) 8 rfl rfl (by kernel_rfl) (by kernel_rfl) (by kernel_rfl) (fun _ _ _ h => h) (Or.inl ⟨by kernel_rfl, ?yy2⟩) (by assumption) ?_
  case yy2 => intro w hSw; (try dsimp only at hSw); go_simp; (try with_reducible rfl)
  simp only [List.setIfInBounds_toArray, List.set_cons_zero, List.set_cons_succ]
  refine takeH (i := 2) (v := ?vv3) 9 rfl rfl (by kernel_rfl) (by kernel_rfl) (by kernel_rfl) (fun _ _ _ h => h) (Or.inl ⟨by kernel_rfl, ?yy3⟩) (by assumption) ?_
  case yy3 => intro w hSw; (try dsimp only at hSw); go_simp; (try with_reducible rfl)
  simp only [List.setIfInBounds_toArray, List.set_cons_zero, List.set_cons_succ]
  refine takeH (i := 4) (v := ?vv4) 11 rfl rfl (by kernel_rfl) (by kernel_rfl) (by kernel_rfl) (fun _ _ _ h => h) (Or.inl ⟨by kernel_rfl, ?yy4⟩) (by assumption) ?_
  case yy4 => intro w hSw; (try dsimp only at hSw); go_simp; (try with_reducible rfl)
  simp only [List.setIfInBounds_toArray, List.set_cons_zero, List.set_cons_succ]
  refine takeH (i := 5) (v := ?vv5) 12 rfl rfl (by kernel_rfl) (by kernel_rfl) (by kernel_rfl) (fun _ _ _ h => h) (Or.inl ⟨by kernel_rfl, ?yy5⟩) (by assumption) ?_
  case yy5 => intro w hSw; (try dsimp only at hSw); go_simp; (try with_reducible rfl)
  simp only [List.setIfInBounds_toArray, List.set_cons_zero, List.set_cons_succ]
  refine takeH (i := 6) (v := ?vv6) 13 rfl rfl (by kernel_rfl) (by kernel_rfl) (by kernel_rfl) (fun _ _ _ h => h) (Or.inl ⟨by kernel_rfl, ?yy6⟩) (by assumption) ?_
  case yy6 => intro w hSw; (try dsimp only at hSw); go_simp; (try with_reducible rfl)
  simp only [List.setIfInBounds_toArray, List.set_cons_zero, List.set_cons_succ]
  refine wpAnyH_ready (rs := [3]) (by kernel_rfl) (by simp) ?_
  refine (AllReadyH.cons rfl (fun K hK => ?_) AllReadyH.nil)
  go_simp
  (refine (Crash_any _ _ _ _ _ _ d kb tear _ (hD0.out.below (Below.refl _ _)) (hS0.out.mono (by simp))).mono ?_; rw [HC.out]; rintro e wA ⟨a1, c1, a2, c2, rfl, hOA, hbA⟩; have hLA := hOA.lists LP.out LS.out)
  (try go_wp2_with fail)
  refine hK.out _ _ ?_ (fun hHeld => ?_)
  · exact cells5_below hHeld hbA
  clear hK K
  (try simp only [Act.put, List.setIfInBounds_toArray, List.set_cons_zero, List.set_cons_succ])
  refine wpAnyH_ready (rs := [7]) (by kernel_rfl) (by simp) ?_
  refine (AllReadyH.cons rfl (fun K hK => ?_) AllReadyH.nil)
  go_simp
  (refine (RCrash_any _ _ _ _ _ _ d kb tear _ (hD0.out.below hbA) ((hS0.out.below (hbA.mono (by simp))).mono (by have := hbA.size; simp at this; omega)) (by omega)).mono ?_; rw [HC.out]; rintro e wB ⟨a3, c3, a4, c4, rfl, hLB, hbB⟩)
  (try go_wp2_with fail)
  refine hK.out _ _ ?_ (fun hHeld => ?_)
  · exact cells5_below hHeld hbB
  clear hK K
  (try simp only [Act.put, List.setIfInBounds_toArray, List.set_cons_zero, List.set_cons_succ])
  refine wpAnyH_ready (rs := [8]) (by kernel_rfl) (by simp) ?_
  refine (AllReadyH.cons rfl (fun K hK => ?_) AllReadyH.nil)
  go_simp
  (refine (RSame_any _ _ _ _ _ _ _ _ c _ (hLA.below hbB) hLB).mono ?_; rintro e wC ⟨rfl, hbC⟩)
  (try go_wp2_with fail)
  refine hK.out _ _ ?_ (fun hHeld => ?_)
  · exact cells5_below hHeld hbC
  clear hK K
  (try simp only [Act.put, List.setIfInBounds_toArray, List.set_cons_zero, List.set_cons_succ])
  refine takeH (i := 9) (v := ?vv7) 16 rfl rfl (by kernel_rfl) (by kernel_rfl) (by kernel_rfl) (fun _ _ _ h => h) (Or.inl ⟨by kernel_rfl, ?yy7⟩) (by assumption) ?_
  case yy7 => intro w hSw; (try dsimp only at hSw); go_simp; (try with_reducible rfl)
  simp only [List.setIfInBounds_toArray, List.set_cons_zero, List.set_cons_succ]
  refine wpAnyH_ready (rs := [10]) (by kernel_rfl) (by simp) ?_
  refine (AllReadyH.cons rfl (fun K hK => ?_) AllReadyH.nil)
  go_simp
  (refine (examples_any _).mono ?_; rintro e wD ⟨rfl, hbD⟩)
  (try go_wp2_with fail)
  refine hK.out _ _ ?_ (fun hHeld => ?_)
  · exact cells5_below hHeld hbD
  clear hK K
  (try simp only [Act.put, List.setIfInBounds_toArray, List.set_cons_zero, List.set_cons_succ])
  refine takeH (i := 11) (v := ?vv8) 18 rfl rfl (by kernel_rfl) (by kernel_rfl) (by kernel_rfl) (fun _ _ _ h => h) (Or.inl ⟨by kernel_rfl, ?yy8⟩) (by assumption) ?_
  case yy8 => intro w hSw; (try dsimp only at hSw); go_simp; (try with_reducible rfl)
  simp only [List.setIfInBounds_toArray, List.set_cons_zero, List.set_cons_succ]
  refine takeH (i := 12) (v := ?vv9) 6 rfl rfl (by kernel_rfl) (by kernel_rfl) (by kernel_rfl) (fun _ _ _ h => h) (Or.inl ⟨by kernel_rfl, ?yy9⟩) (by assumption) ?_
  case yy9 => intro w hSw; (try dsimp only at hSw); go_simp; (try with_reducible rfl)
  simp only [List.setIfInBounds_toArray, List.set_cons_zero, List.set_cons_succ]
  refine wpAnyH_done (by kernel_rfl) ?_ _
  go_wp2_with fail
  go_ret
  exact ⟨rfl, btrans (btrans (btrans (btrans hb0.drew (Below.size hb0.drew) hbA) (btrans hb0.drew (Below.size hb0.drew) hbA).size hbB) (Below.size (btrans (btrans hb0.drew (Below.size hb0.drew) hbA) (btrans hb0.drew (Below.size hb0.drew) hbA).size hbB)) hbC) (btrans (btrans (btrans hb0.drew (Below.size hb0.drew) hbA) (btrans hb0.drew (Below.size hb0.drew) hbA).size hbB) (Below.size (btrans (btrans hb0.drew (Below.size hb0.drew) hbA) (btrans hb0.drew (Below.size hb0.drew) hbA).size hbB)) hbC).size hbD⟩

theorem disk_bounds {W : World} {sa pa : Option Addr} {sc pc : Nat} {k : Dk} (h1 : StrS W (.slice sa k.S.length sc) k.S) (h2 : WrS W (.slice pa k.P.length pc) k.P) (h3 : k.P.length ≤ 5864062014805) (h4 : k.S.length ≤ 9000000000000) : Lists W sa sc pa pc k := ⟨h1, h2, by omega, h4⟩
theorem crashedLaw (sa : Option Addr) (sc : Nat) (pa : Option Addr) (pc : Nat) (d : Dk) {w0 : World} (h1 : StrS w0 (.slice sa d.S.length sc) d.S) (h2 : WrS w0 (.slice pa d.P.length pc) d.P) (h3 : d.P.length ≤ 5864062014805) (h4 : d.S.length ≤ 9000000000000)
    (ka : Option Addr) (kc : Nat) (kb : List Bool) (hS : BoS w0.heap.size w0 (.slice ka kb.length kc) kb) (hkl : kb.length ≤ 140737488355328) (tear : Int) (_wl : (Lit.int .i64 tear).wf = true) (w : World) (hw : w0 = w := by rfl) :
    Calls Try.prog 11 #[.agg #[.slice sa d.S.length sc, .slice pa d.P.length pc, .int .i64 d.fuse, .int .i64 d.ops, .bool d.dead], .slice ka kb.length kc, .int .i64 tear] w fun e w' => e = .returned (.bool true) ∧ Below w.heap.size w w' := by
  subst hw; exact crashedWalk sa pa ka sc pc kc d kb tear w0 (disk_bounds h1 h2 h3 h4) hS hkl
end Go.Proofs.Ytnghdolpmmdknaa
