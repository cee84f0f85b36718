/- The walk of the journal's Reset: its closure. No conditions. -/
import Derived.Test.YtkpfkknldeafkaaWalTwo
import Derived.Test.YtkpfkknldeafkaaSupOne
namespace Go.Proofs.Ytkpfkknldeafkaa
open Go.RowKit

/-- the image's sectors are written, then the superblock -/
def resQ (SL : List (List UInt8)) (d : Dk) (st : Int) (x : Sp) : Dk × Int := if (wrF SL d st).2 = 0 then storeS (wrF SL d st).1 x else wrF SL d st
theorem store_len3 (d : Dk) (x : Sp) : (storeS d x).1.S.length = d.S.length ∧ (storeS d x).1.P.length ≤ d.P.length + 1 := by
  have h1 := write_len d (x.g % 2) (encS x).1
  have h2 := sync_len (writeS d (x.g % 2) (encS x).1).1
  unfold storeS
  split
  · exact ⟨rfl, Nat.le_succ _⟩
  · split
    · exact h1
    · omega

set_option maxRecDepth 100000 in
set_option maxHeartbeats 16000000 in
theorem res1_any (vb gb ab nb lb xb wb : Nat) (sa pa : Option Addr) (sc pc : Nat) (d : Dk) (x : Sp) (g ar a : Int) (l : List UInt8) (SL : List (List UInt8)) (w : World) (hV : Bx vb #[.pointer (some ⟨wb, 0, none⟩)] 114 w) (hG : Bx gb #[.int .i64 g] 2 w) (hA : Bx ab #[.int .i64 ar] 3 w) (hN : Bx nb #[.int .i64 a] 3 w) (hL : Bx lb #[.string (bs l)] 9 w) (hX : Bx xb #[.int .i64 x.g, .int .i64 x.e, .int .i64 x.a, .int .i64 x.z, .int .i64 x.p] 23 w) (hW : Bx wb #[.slice sa d.S.length sc, .slice pa d.P.length pc, .int .i64 d.fuse, .int .i64 d.ops, .bool d.dead] 116 w) (hD : Lists w sa sc pa pc d) (hl : l.length ≤ 1000000000000000) (hsp : splitS g l = (SL, 0)) (a0 : 1 ≤ ar) (a1 : ar ≤ 2) (n0 : 0 ≤ a) (n1 : a ≤ 10000) (hp : d.P.length ≤ 8000000000000) (hvw : vb ≠ wb) (hxw : xb ≠ wb) :
    Calls Try.prog 86 #[.pointer (some ⟨vb, 0, none⟩), .pointer (some ⟨gb, 0, none⟩), .pointer (some ⟨ab, 0, none⟩), .pointer (some ⟨nb, 0, none⟩), .pointer (some ⟨lb, 0, none⟩), .pointer (some ⟨xb, 0, none⟩)] w (RecPost wb (resQ SL d (2 + (ar - 1) * a) x) w) := by
  have v0 : w.cell? ⟨vb, 0, none⟩ = some (.pointer (some ⟨wb, 0, none⟩)) := hV.cell 0
  have g0 : w.cell? ⟨gb, 0, none⟩ = some (.int .i64 g) := hG.cell 0
  have r0 : w.cell? ⟨ab, 0, none⟩ = some (.int .i64 ar) := hA.cell 0
  have n00 : w.cell? ⟨nb, 0, none⟩ = some (.int .i64 a) := hN.cell 0
  have l0 : w.cell? ⟨lb, 0, none⟩ = some (.string (bs l)) := hL.cell 0
  have hmul : (ar - 1) * a = 0 ∨ (ar - 1) * a = a := by
    rcases (show ar = 1 ∨ ar = 2 by omega) with h | h <;> rw [h]
    · left; omega
    · right; omega
  have hw1 : IntKind.i64.wrap (ar - 1) = ar - 1 := by rw [IntKind.wrap_i64]; omega
  have hw2 : IntKind.i64.wrap ((ar - 1) * a) = (ar - 1) * a := by rw [IntKind.wrap_i64]; omega
  have hw3 : IntKind.i64.wrap (2 + (ar - 1) * a) = 2 + (ar - 1) * a := by rw [IntKind.wrap_i64]; omega
  have hst : 0 ≤ 2 + (ar - 1) * a ∧ 2 + (ar - 1) * a ≤ 1000000 := by omega
  have HST := Lib.hid hst; clear hst hmul
  obtain ⟨⟨d1, e1⟩, hr⟩ : ∃ r, wrF SL d (2 + (ar - 1) * a) = r := ⟨_, rfl⟩
  have hlen := wrF_len SL d (2 + (ar - 1) * a)
  have hsl := split_len g l
  rw [hsp] at hsl
  rw [hr] at hlen
  simp only at hsl hlen
  have hp1 : d1.P.length ≤ 8999999999999 := by omega
  obtain ⟨_, _, _, hszS⟩ := id hD
  have HRR := Lib.hid hr; have HW := Lib.hid hW; have HD := Lib.hid hD; have HSP := Lib.hid hsp; have HX := Lib.hid hX; have HV := Lib.hid hV; clear hr hW hD hsp hX hV hG hA hN hL hlen hsl
  go_enter Try.func86, Try.ntmps86
  go_wp2_with fail
  refine (record_any wb sa pa sc pc d g (2 + (ar - 1) * a) l SL (d1, e1) w HW.out HD.out hl HSP.out HRR.out HST.out.1 HST.out.2 hp).mono ?_
  rintro E w1 ⟨b1, c1, b2, c2, hE, h1, h2, h3⟩
  by_cases he : e1 = 0
  rotate_left
  · have hE2 : E = .panicked [failE e1] := by rw [hE]; exact recE_no he
    subst hE2
    have hq : resQ SL d (2 + (ar - 1) * a) x = (d1, e1) := by unfold resQ; rw [HRR.out]; simp only; rw [if_neg he]
    rw [hq]
    exact ⟨rfl, b1, c1, b2, c2, (recE_no he).symm, h1, h2, h3⟩
  subst he
  have hE2 : E = .returned (.tuple #[]) := by rw [hE]; exact recE_ok
  subst hE2
  clear hE
  obtain ⟨⟨d2, e2⟩, hs2⟩ : ∃ r, storeS d1 x = r := ⟨_, rfl⟩
  have hq : resQ SL d (2 + (ar - 1) * a) x = (d2, e2) := by unfold resQ; rw [HRR.out]; simp only; rw [if_pos trivial]; exact hs2
  have HQ := Lib.hid hq; have hsl2 := store_len3 d1 x
  rw [hs2] at hsl2
  simp only at hsl2
  have HS2 := Lib.hid hs2; have HLN := Lib.hid hsl2; clear hs2 hsl2 hq
  have HV1 := Lib.hid (h3.bx HV.out hvw); have HX1 := Lib.hid (h3.bx HX.out hxw); have HW1 := Lib.hid h1; have HD1 := Lib.hid h2; have HK1 := Lib.hid h3; clear h1 h2 h3 HV HX HW HD v0 g0 r0 n00 l0
  have hs0 : Bx vb #[.pointer (some ⟨wb, 0, none⟩)] 114 w1.drew ∧ Bx xb #[.int .i64 x.g, .int .i64 x.e, .int .i64 x.a, .int .i64 x.z, .int .i64 x.p] 23 w1.drew := ⟨HV1.out, HX1.out⟩
  have HS0 := Lib.hid hs0; clear hs0
  go_wp2_with fail
  refine wp_region_held_drew (S := (fun w' => Bx vb #[.pointer (some ⟨wb, 0, none⟩)] 114 w' ∧ Bx xb #[.int .i64 x.g, .int .i64 x.e, .int .i64 x.a, .int .i64 x.z, .int .i64 x.p] 23 w')) (by kernel_rfl) ?_ (fun hHeld => ?_)
  · exact HS0.out
  refine takeH (i := 0) (v := ?vv25) 15 rfl rfl (by kernel_rfl) (by kernel_rfl) (by kernel_rfl) (fun _ _ _ h => h) (Or.inl ⟨by kernel_rfl, ?yy25⟩) (by assumption) ?_
  case yy25 =>
    intro wq hSw
    have c0_0 : wq.cell? ⟨vb, 0, none⟩ = some (.pointer (some ⟨wb, 0, none⟩)) := (hSw.1).cell 0
    clear hSw
    go_simp
    (try with_reducible rfl)
  simp only [List.setIfInBounds_toArray, List.set_cons_zero, List.set_cons_succ]
  refine takeH (i := 1) (v := ?vv26) 16 rfl rfl (by kernel_rfl) (by kernel_rfl) (by kernel_rfl) (fun _ _ _ h => h) (Or.inl ⟨by kernel_rfl, ?yy26⟩) (by assumption) ?_
  case yy26 =>
    intro wq hSw
    have c0_0 : wq.cell? ⟨vb, 0, none⟩ = some (.pointer (some ⟨wb, 0, none⟩)) := (hSw.1).cell 0
    clear hSw
    go_simp
    (try with_reducible rfl)
  simp only [List.setIfInBounds_toArray, List.set_cons_zero, List.set_cons_succ]
  refine takeH (i := 2) (v := ?vv27) 17 rfl rfl (by kernel_rfl) (by kernel_rfl) (by kernel_rfl) (fun _ _ _ h => h) (Or.inl ⟨by kernel_rfl, ?yy27⟩) (by assumption) ?_
  case yy27 => intro w hSw; (try dsimp only at hSw); go_simp; (try with_reducible rfl)
  simp only [List.setIfInBounds_toArray, List.set_cons_zero, List.set_cons_succ]
  refine takeH (i := 3) (v := ?vv28) 18 rfl rfl (by kernel_rfl) (by kernel_rfl) (by kernel_rfl) (fun _ _ _ h => h) (Or.inl ⟨by kernel_rfl, ?yy28⟩) (by assumption) ?_
  case yy28 => intro w hSw; (try dsimp only at hSw); go_simp; (try with_reducible rfl)
  simp only [List.setIfInBounds_toArray, List.set_cons_zero, List.set_cons_succ]
  refine takeH (i := 5) (v := ?vv29) 20 rfl rfl (by kernel_rfl) (by kernel_rfl) (by kernel_rfl) (fun _ _ _ h => h) (Or.inl ⟨by kernel_rfl, ?yy29⟩) (by assumption) ?_
  case yy29 =>
    intro wq hSw
    have c1_0 : wq.cell? ⟨xb, 0, none⟩ = some (.int .i64 x.g) := (hSw.2).cell 0
    have c1_1 : wq.cell? ⟨xb, 1, none⟩ = some (.int .i64 x.e) := (hSw.2).cell 1
    have c1_2 : wq.cell? ⟨xb, 2, none⟩ = some (.int .i64 x.a) := (hSw.2).cell 2
    have c1_3 : wq.cell? ⟨xb, 3, none⟩ = some (.int .i64 x.z) := (hSw.2).cell 3
    have c1_4 : wq.cell? ⟨xb, 4, none⟩ = some (.int .i64 x.p) := (hSw.2).cell 4
    clear hSw
    go_simp
    (try with_reducible rfl)
  simp only [List.setIfInBounds_toArray, List.set_cons_zero, List.set_cons_succ]
  refine wpAnyH_ready (rs := [4]) (by kernel_rfl) (by simp) ?_
  refine (AllReadyH.cons rfl (fun K hK => ?_) AllReadyH.nil)
  have x0 : w1.cell? ⟨wb, 0, none⟩ = some (.slice b1 d1.S.length c1) := HW1.out.cell 0
  have x1 : w1.cell? ⟨wb, 1, none⟩ = some (.slice b2 d1.P.length c2) := HW1.out.cell 1
  have x2 : w1.cell? ⟨wb, 2, none⟩ = some (.int .i64 d1.fuse) := HW1.out.cell 2
  have x3 : w1.cell? ⟨wb, 3, none⟩ = some (.int .i64 d1.ops) := HW1.out.cell 3
  have x4 : w1.cell? ⟨wb, 4, none⟩ = some (.bool d1.dead) := HW1.out.cell 4
  go_simp
  refine hK.out _ _ ?_ (fun hHeld => ?_)
  · exact (by assumption)
  clear hK K
  (try simp only [Act.put, List.setIfInBounds_toArray, List.set_cons_zero, List.set_cons_succ])
  clear x0 x1 x2 x3 x4
  refine wpAnyH_ready (rs := [6]) (by kernel_rfl) (by simp) ?_
  refine (AllReadyH.cons rfl (fun K hK => ?_) AllReadyH.nil)
  go_simp
  (refine (SStore_any _ _ _ _ d1 x _ (HD1.out.below (Below.refl w1.heap.size w1).drew) hp1).mono ?_; rw [HS2.out]; rintro er w2 ⟨a3, c3, a4, c4, rfl, hO2, hb2⟩)
  (try go_wp2_with fail)
  refine hK.out _ _ ?_ (fun hHeld => ?_)
  · exact ⟨hHeld.1.call hb2, hHeld.2.call hb2⟩
  clear hK K
  (try simp only [Act.put, List.setIfInBounds_toArray, List.set_cons_zero, List.set_cons_succ])
  have zb1 := HW1.out.lt
  have hW2 : Bx wb #[.slice b1 d1.S.length c1, .slice b2 d1.P.length c2, .int .i64 d1.fuse, .int .i64 d1.ops, .bool d1.dead] 116 w2 := (show Bx wb #[.slice b1 d1.S.length c1, .slice b2 d1.P.length c2, .int .i64 d1.fuse, .int .i64 d1.ops, .bool d1.dead] 116 w1.drew from HW1.out).call hb2
  have hK2 : KpB wb w1 w2 := KpB.of_call (b := wb) (btrans (Below.refl w1.heap.size w1).drew (Nat.le_refl _) hb2) (Nat.le_of_lt zb1)
  have hL2 : Lists w2 a3 c3 a4 c4 d2 := hO2.lists (d := d2) (by have := HLN.out; omega) (by have := HLN.out; have := wrF_len SL d (2 + (ar - 1) * a); rw [HRR.out] at this; simp only at this; omega)
  have HW2 := Lib.hid hW2; have HK2 := Lib.hid hK2; have HL2 := Lib.hid hL2; clear hW2 hK2 hL2 hO2
  refine takeH (i := 7) (v := ?vv30) 22 rfl rfl (by kernel_rfl) (by kernel_rfl) (by kernel_rfl) (fun _ _ _ h => h) (Or.inl ⟨by kernel_rfl, ?yy30⟩) (by assumption) ?_
  case yy30 => intro w hSw; (try dsimp only at hSw); go_simp; (try with_reducible rfl)
  simp only [List.setIfInBounds_toArray, List.set_cons_zero, List.set_cons_succ]
  refine takeH (i := 8) (v := ?vv31) 23 rfl rfl (by kernel_rfl) (by kernel_rfl) (by kernel_rfl) (fun _ _ _ h => h) (Or.inl ⟨by kernel_rfl, ?yy31⟩) (by assumption) ?_
  case yy31 => intro w hSw; (try dsimp only at hSw); go_simp; (try with_reducible rfl)
  simp only [List.setIfInBounds_toArray, List.set_cons_zero, List.set_cons_succ]
  refine wpAnyH_ready (rs := [9]) (by kernel_rfl) (by simp) ?_
  refine (AllReadyH.cons rfl (fun K hK => ?_) AllReadyH.nil)
  by_cases he2 : e2 = 0
  rotate_left
  · go_simp
    refine (done_no wb _ _ _ _ _ a3 a4 c3 c4 d2 e2 he2 _ HW2.out).mono ?_
    rintro er w3 ⟨rfl, hW3, hK3⟩
    rw [HQ.out]
    exact ⟨rfl, a3, c3, a4, c4, (recE_no he2).symm, hW3, hK3.lists HL2.out HW2.out, (HK1.out.trans HK2.out).trans hK3⟩
  subst he2
  go_simp
  refine (done_ok wb _ _ _ _ _ a3 a4 c3 c4 d2 _ HW2.out).mono ?_
  rintro er w3 ⟨rfl, hW3, hK3⟩
  have HW3 := Lib.hid hW3; have HK3 := Lib.hid hK3; have HL3 := Lib.hid (hK3.lists HL2.out HW2.out)
  (try go_wp2_with fail)
  refine hK.out _ _ ?_ (fun hHeld2 => ?_)
  · exact ⟨hK3.bx hHeld.1 hvw, hK3.bx hHeld.2 hxw⟩
  clear hK K hW3 hK3
  (try simp only [Act.put, List.setIfInBounds_toArray, List.set_cons_zero, List.set_cons_succ])
  refine wpAnyH_done (by kernel_rfl) ?_ _
  go_wp2
  rw [HQ.out]
  go_end0
  exact ⟨a3, c3, a4, c4, recE_ok.symm, HW3.out, HL3.out, (HK1.out.trans HK2.out).trans HK3.out⟩
end Go.Proofs.Ytkpfkknldeafkaa
