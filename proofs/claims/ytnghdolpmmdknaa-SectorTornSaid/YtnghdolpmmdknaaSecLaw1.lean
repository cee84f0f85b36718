/- The walks of three laws of layer 45 that do not use the reference: round trips, torn sectors, records. No conditions. -/
import Derived.Test.YtnghdolpmmdknaaSecLives
namespace Go.Proofs.Ytnghdolpmmdknaa
open Go.RowKit

theorem sealS_ok {g p q : Int} {l : List UInt8} (hs : stampB g p q = true) (hl : l.length ≤ 40) : sealS g p q l = (sealedL g.toNat p.toNat q.toNat l, 0) := by unfold sealS; rw [hs, if_pos hl]; rfl
theorem sealS_bad {g p q : Int} {l : List UInt8} (hs : stampB g p q = false) : sealS g p q l = ([], 1) := by unfold sealS; rw [hs]; rfl
theorem openS_seal {g p q : Int} {l : List UInt8} (hs : stampB g p q = true) (hl : l.length ≤ 40) : openS (sealedL g.toNat p.toNat q.toNat l) = ((g, p, q), l, 0) := by
  obtain ⟨g0, _, p0, _, q0, _⟩ := stamp_bounds hs
  have := openS_sealed g.toNat p.toNat q.toNat l (by rw [Int.toNat_of_nonneg g0, Int.toNat_of_nonneg p0, Int.toNat_of_nonneg q0]; exact hs) hl
  rwa [Int.toNat_of_nonneg g0, Int.toNat_of_nonneg p0, Int.toNat_of_nonneg q0] at this
theorem openS_back {s : List UInt8} {g p q : Int} {d : List UInt8} (h : openS s = ((g, p, q), d, 0)) : sealS g p q d = (s, 0) := by
  obtain ⟨g', p', q', d', e, hs, hd, hl⟩ := openS_ok (s := s) (by rw [h])
  rw [h] at e
  simp only [Prod.mk.injEq] at e
  obtain ⟨⟨rfl, rfl, rfl⟩, rfl, _⟩ := e
  rw [sealS_ok hs hd, Int.toNat_natCast, Int.toNat_natCast, Int.toNat_natCast, hl]

set_option maxRecDepth 100000 in
set_option maxHeartbeats 4000000 in
theorem roundTripsWalk (g p q : Int) (d : List UInt8) (s : List UInt8) (w : World) (hd : d.length ≤ 1000000000000000) (hs : s.length ≤ 1000000000000000) :
    Calls Try.prog 9 #[.agg #[.int .i64 g, .int .i64 p, .int .i64 q], .string (bs d), .string (bs s)] w fun e w' => e = .returned (.bool true) ∧ Below w.heap.size w w' := by
  have hB0 : Below w.heap.size w (w.alloc (.cells #[.int .i64 g, .int .i64 p, .int .i64 q] 24)) := (Below.refl _ _).alloc (Nat.le_refl _) _
  have hdm : d.length ≤ 9223372036854775807 := by omega
  have hsm : s.length ≤ 9223372036854775807 := by omega
  by_cases h40 : 40 < d.length
  · go_enter Try.func9, Try.ntmps9
    go_wp2_with (go_at_call 15; refine (lives_any _).mono ?_; rintro e w1 ⟨rfl, hb⟩)
    go_ret
    exact ⟨rfl, btrans hB0 hB0.size hb⟩
  · by_cases h100 : 100 < s.length
    · go_enter Try.func9, Try.ntmps9
      go_wp2_with (go_at_call 15; refine (lives_any _).mono ?_; rintro e w1 ⟨rfl, hb⟩)
      go_ret
      exact ⟨rfl, btrans hB0 hB0.size hb⟩
    · cases hst : stampB g p q with
      | false =>
        have HSE := Lib.hid (sealS_bad (l := d) hst)
        clear hst
        go_enter Try.func9, Try.ntmps9
        go_wp2_with fail
        refine (Seal_any _ _ _ _ _ hdm).mono ?_
        rw [HSE.out]
        rintro e w1 ⟨rfl, hb1⟩
        have hb2 := btrans hB0 hB0.size hb1
        go_wp2_with (go_at_call 15; refine (lives_any _).mono ?_; rintro e w2 ⟨rfl, hb⟩)
        go_ret
        exact ⟨rfl, btrans hb2 hb2.size hb⟩
      | true =>
        have hd40 : d.length ≤ 40 := by omega
        have HSE := Lib.hid (sealS_ok (l := d) hst hd40)
        have HOP := Lib.hid (openS_seal hst hd40)
        obtain ⟨t, ht⟩ : ∃ t, t = sealedL g.toNat p.toNat q.toNat d := ⟨_, rfl⟩
        have htl : t.length = 64 := by rw [ht]; exact sealedL_length _ _ _ _ hd40
        rw [← ht] at HSE HOP
        have htm : t.length ≤ 9223372036854775807 := by omega
        have q1 : (d == d) = true := by simp
        obtain ⟨g', p', q', d', er, ho⟩ : ∃ g' p' q' d' er, openS s = ((g', p', q'), d', er) := ⟨_, _, _, _, _, rfl⟩
        have hd' : d'.length ≤ 9223372036854775807 := by have h := openS_len s; rw [ho] at h; exact Nat.le_trans h (by decide)
        have HO := Lib.hid ho
        have hbx0 : (w.alloc (.cells #[.int .i64 g, .int .i64 p, .int .i64 q] 24)).heap[w.heap.size]? = some (.cells #[.int .i64 g, .int .i64 p, .int .i64 q] 24 (0, 0)) := heap_alloc_new w _
        have HBX := Lib.hid hbx0; clear hbx0
        clear hst ht
        by_cases her : er = 0
        · subst her
          have HBK := Lib.hid (openS_back ho)
          have q2 : (s == s) = true := by simp
          clear ho
          go_enter Try.func9, Try.ntmps9
          go_wp2_with fail
          refine (Seal_any _ _ _ _ _ hdm).mono ?_
          rw [HSE.out]
          rintro e w1 ⟨rfl, hb1⟩
          have hb2 := btrans hB0 hB0.size hb1
          have hbx := (hb1.block _ (lt_of_heap HBX.out)).trans HBX.out
          clear hb1 HBX
          have HBX := Lib.hid hbx; clear hbx
          go_wp2_with fail
          refine (Open_any _ _ htm).mono ?_
          rw [HOP.out]
          rintro e w2 ⟨rfl, hb3⟩
          have hb4 := btrans hb2 hb2.size hb3
          have hbx := (hb3.block _ (lt_of_heap HBX.out)).trans HBX.out
          clear hb3 hb2 HBX
          have hz2 := lt_of_heap hbx
          have c0 : w2.cell? ⟨w.heap.size, 0, none⟩ = some (.int .i64 g) := by simp [World.cell?, hbx]
          have c1 : w2.cell? ⟨w.heap.size, 1, none⟩ = some (.int .i64 p) := by simp [World.cell?, hbx]
          have c2 : w2.cell? ⟨w.heap.size, 2, none⟩ = some (.int .i64 q) := by simp [World.cell?, hbx]
          clear hbx
          have hb5 := hb4.alloc hb4.size (.cells #[.int .i64 g, .int .i64 p, .int .i64 q] 24)
          clear hb4
          go_wp2_with fail
          refine (Open_any _ _ hsm).mono ?_
          rw [HO.out]
          rintro e w3 ⟨rfl, hb6⟩
          have hb7 := btrans hb5 hb5.size hb6
          clear hb5 hb6 c0 c1 c2
          have hb8 := hb7.alloc hb7.size (.cells #[.int .i64 g', .int .i64 p', .int .i64 q'] 24)
          clear hb7
          go_wp2_with fail
          refine (Seal_any _ _ _ _ _ hd').mono ?_
          rw [HBK.out]
          rintro e w4 ⟨rfl, hb9⟩
          have hb10 := btrans hb8 hb8.size hb9
          clear hb8 hb9
          go_wp2_with (go_at_call 15; refine (lives_any _).mono ?_; rintro e w5 ⟨rfl, hb⟩)
          go_ret
          exact ⟨rfl, btrans hb10 hb10.size hb⟩
        · skip
          have hern : (er != 0) = true := by rw [bne_iff_ne]; exact her
          clear ho her
          go_enter Try.func9, Try.ntmps9
          go_wp2_with fail
          refine (Seal_any _ _ _ _ _ hdm).mono ?_
          rw [HSE.out]
          rintro e w1 ⟨rfl, hb1⟩
          have hb2 := btrans hB0 hB0.size hb1
          have hbx := (hb1.block _ (lt_of_heap HBX.out)).trans HBX.out
          clear hb1 HBX
          have HBX := Lib.hid hbx; clear hbx
          go_wp2_with fail
          refine (Open_any _ _ htm).mono ?_
          rw [HOP.out]
          rintro e w2 ⟨rfl, hb3⟩
          have hb4 := btrans hb2 hb2.size hb3
          have hbx := (hb3.block _ (lt_of_heap HBX.out)).trans HBX.out
          clear hb3 hb2 HBX
          have hz2 := lt_of_heap hbx
          have c0 : w2.cell? ⟨w.heap.size, 0, none⟩ = some (.int .i64 g) := by simp [World.cell?, hbx]
          have c1 : w2.cell? ⟨w.heap.size, 1, none⟩ = some (.int .i64 p) := by simp [World.cell?, hbx]
          have c2 : w2.cell? ⟨w.heap.size, 2, none⟩ = some (.int .i64 q) := by simp [World.cell?, hbx]
          clear hbx
          have hb5 := hb4.alloc hb4.size (.cells #[.int .i64 g, .int .i64 p, .int .i64 q] 24)
          clear hb4
          go_wp2_with fail
          refine (Open_any _ _ hsm).mono ?_
          rw [HO.out]
          rintro e w3 ⟨rfl, hb6⟩
          have hb7 := btrans hb5 hb5.size hb6
          clear hb5 hb6 c0 c1 c2
          have hb8 := hb7.alloc hb7.size (.cells #[.int .i64 g', .int .i64 p', .int .i64 q'] 24)
          clear hb7
          go_wp2_with (go_at_call 15; refine (lives_any _).mono ?_; rintro e w5 ⟨rfl, hb⟩)
          go_ret
          exact ⟨rfl, btrans hb8 hb8.size hb⟩

theorem roundTripsLaw (g p q : Int) (_wg : (Lit.int .i64 g).wf = true) (_wp : (Lit.int .i64 p).wf = true) (_wq : (Lit.int .i64 q).wf = true) (d : List UInt8) (hd : d.length ≤ 140737488351232) (s : List UInt8) (hs : s.length ≤ 140737488351232) (w : World) :
    Calls Try.prog 9 #[.agg #[.int .i64 g, .int .i64 p, .int .i64 q], .string (bs d), .string (bs s)] w fun e w' => e = .returned (.bool true) ∧ Below w.heap.size w w' :=
  roundTripsWalk g p q d s w (by omega) (by omega)
end Go.Proofs.Ytnghdolpmmdknaa
