/- A superblock is restored from its sector, and what Decode accepts is the sector of its result (plain facts of layer 46). No conditions. The walk of SuperRoundTrips. No conditions. -/
import Derived.Test.YtkpfkknldeafkaaSupP
import Derived.Test.YtkpfkknldeafkaaSecJoinP
import Derived.Test.YtkpfkknldeafkaaSupFin
namespace Go.Proofs.Ytkpfkknldeafkaa
open Go.RowKit

theorem trip_enc {x : Sp} (hv : spB x = true) : (encS x).2 = 0 ∧ decS (encS x).1 = (x, 0) ∧ (encS x).1.length = 64 := by
  have he : encS x = (sealedL x.g.toNat 0 1 (encD x), 0) := by unfold encS; rw [if_pos hv]
  rw [he]
  refine ⟨rfl, ?_, enc_len hv⟩
  have h40 := encD_len hv
  obtain ⟨h1, h2, h3, h4, h5, h6, h7, h8, h9, h10⟩ := spB_bounds hv
  have hst : stampB (x.g.toNat : Int) ((0 : Nat) : Int) ((1 : Nat) : Int) = true := by rw [stampB_iff]; omega
  have ho := openS_sealed x.g.toNat 0 1 (encD x) hst h40
  have hg : ((x.g.toNat : Nat) : Int) = x.g := by omega
  unfold decS
  rw [ho]
  simp only
  rw [if_neg (by simp), if_pos ⟨rfl, rfl⟩, hg]
  obtain ⟨e, qe⟩ : ∃ n : Nat, x.e = n := ⟨x.e.toNat, by omega⟩
  obtain ⟨a, qa⟩ : ∃ n : Nat, x.a = n := ⟨x.a.toNat, by omega⟩
  obtain ⟨z, qz⟩ : ∃ n : Nat, x.z = n := ⟨x.z.toNat, by omega⟩
  obtain ⟨p, qp⟩ : ∃ n : Nat, x.p = n := ⟨x.p.toNat, by omega⟩
  have hd : encD x = uintS e ++ uintS a ++ uintS z ++ uintS p := by unfold encD; rw [qe, qa, qz, qp]; simp only [Int.toNat_natCast]
  rw [qe] at h3 h4; rw [qa] at h5 h6; rw [qz] at h7 h8; rw [qp] at h9 h10
  have t1 : takeS (encD x) 0 = (e, ((uintS e).length : Int), 0) := by
    have h := take_uint e (by omega) [] (uintS a ++ (uintS z ++ uintS p))
    rw [hd]; simpa [List.append_assoc] using h
  have t2 : takeS (encD x) ((uintS e).length : Int) = (a, (((uintS e).length + (uintS a).length : Nat) : Int), 0) := by
    have h := take_uint a (by omega) (uintS e) (uintS z ++ uintS p)
    rw [hd]; simpa [List.append_assoc] using h
  have t3 : takeS (encD x) (((uintS e).length + (uintS a).length : Nat) : Int) = (z, (((uintS e).length + (uintS a).length + (uintS z).length : Nat) : Int), 0) := by
    have h := take_uint z (by omega) (uintS e ++ uintS a) (uintS p)
    rw [hd]; simpa [List.append_assoc] using h
  have t4 : takeS (encD x) (((uintS e).length + (uintS a).length + (uintS z).length : Nat) : Int) = (p, (((uintS e).length + (uintS a).length + (uintS z).length + (uintS p).length : Nat) : Int), 0) := by
    have h := take_uint p (by omega) (uintS e ++ uintS a ++ uintS z) []
    rw [hd]; simpa [List.append_assoc, Int.add_assoc] using h
  have k0 : tkN (encD x) 0 = ([], 0, 0) := rfl
  have k4 := tkN_ok (tkN_ok (tkN_ok (tkN_ok k0 t1) t2) t3) t4
  have hmk : mkSp x.g ([] ++ [e] ++ [a] ++ [z] ++ [p]) = x := by
    show (⟨x.g, (e : Int), (a : Int), (z : Int), (p : Int)⟩ : Sp) = x
    rw [← qe, ← qa, ← qz, ← qp]
  have hr := decD_ok (g := x.g) k4 (by rw [hd]; simp only [List.length_append]) (by simp only [bigB, List.nil_append, List.cons_append, List.any_cons, List.any_nil, Bool.or_false, Bool.or_eq_false_iff, decide_eq_false_iff_not]; omega) (by rw [hmk]; exact hv)
  rw [hr, hmk]

theorem tkN_inv (d : List UInt8) : ∀ k, (tkN d k).2.2 = 0 → ∃ (ns : List Nat) (a : Nat), tkN d k = (ns, (a : Int), 0) ∧ ns.length = k ∧ a ≤ d.length ∧ d.take a = ns.flatMap uintS
  | 0, _ => ⟨[], 0, rfl, rfl, Nat.zero_le _, by simp⟩
  | k + 1, h => by
    have h0 : (tkN d k).2.2 = 0 := by
      rcases Decidable.em ((tkN d k).2.2 = 0) with h1 | h1
      · exact h1
      · unfold tkN at h; rw [if_pos h1] at h; exact h
    obtain ⟨ns, a, e1, e2, e3, e4⟩ := tkN_inv d k h0
    by_cases ht : (takeS d a).2.2 = 0
    · obtain ⟨u, rest, q1, q2, q3, q4⟩ := take_inv ht
      refine ⟨ns ++ [u], a + (uintS u).length, tkN_ok e1 q3, by simp [e2], ?_, ?_⟩
      · have : (uintS u).length + rest.length = d.length - a := by rw [← List.length_append, ← q4, List.length_drop]
        omega
      · rw [List.take_add, e4, q4, List.take_left', List.flatMap_append]
        · simp
        · rfl
    · rw [tkN_bad e1 rfl ht] at h; exact absurd h ht
theorem trip_dec {s : List UInt8} {y : Sp} (h : decS s = (y, 0)) : spB y = true ∧ encS y = (s, 0) := by
  unfold decS at h
  by_cases h0 : (openS s).2.2 = 0
  · obtain ⟨g, p, q, d, ho, hst, hdl, hs⟩ := openS_ok h0
    rw [ho] at h
    simp only at h
    rw [if_neg (by simp)] at h
    by_cases hpq : (p : Int) = 0 ∧ (q : Int) = 1
    · rw [if_pos hpq] at h
      obtain ⟨hp, hq⟩ := hpq
      obtain rfl : p = 0 := by omega
      obtain rfl : q = 1 := by omega
      unfold decD at h
      by_cases hk : (tkN d 4).2.2 = 0
      · rw [if_neg (by rw [hk]; simp)] at h
        obtain ⟨ns, a, e1, e2, e3, e4⟩ := tkN_inv d 4 hk
        rw [e1] at h
        simp only at h
        by_cases hc : (a : Int) = (d.length : Int) ∧ bigB ns = false ∧ spB (mkSp (g : Int) ns) = true
        · rw [if_pos hc] at h
          obtain ⟨c1, c2, c3⟩ := hc
          have hy : mkSp (g : Int) ns = y := (Prod.mk.inj h).1
          obtain ⟨n0, n1, n2, n3, rfl⟩ : ∃ n0 n1 n2 n3, ns = [n0, n1, n2, n3] := by
            match ns, e2 with
            | [n0, n1, n2, n3], _ => exact ⟨n0, n1, n2, n3, rfl⟩
          have hd : d = uintS n0 ++ uintS n1 ++ uintS n2 ++ uintS n3 := by
            rw [List.take_of_length_le (by omega)] at e4
            rw [e4]; simp [List.append_assoc]
          have he : encD y = d := by
            rw [← hy, hd]
            show uintS (n0 : Int).toNat ++ uintS (n1 : Int).toNat ++ uintS (n2 : Int).toNat ++ uintS (n3 : Int).toNat = _
            simp only [Int.toNat_natCast]
          have hgy : y.g.toNat = g := by rw [← hy]; exact Int.toNat_natCast g
          have hv : spB y = true := by rw [← hy]; exact c3
          refine ⟨hv, ?_⟩
          unfold encS
          rw [if_pos hv, he, hgy, hs]
        · rw [if_neg hc] at h
          exact absurd (Prod.mk.inj h).2 (by decide)
      · rw [if_pos hk] at h
        exact absurd (Prod.mk.inj h).2 hk
    · rw [if_neg hpq] at h
      exact absurd (Prod.mk.inj h).2 (by decide)
  · rw [if_pos h0] at h
    exact absurd (Prod.mk.inj h).2 h0
end Go.Proofs.Ytkpfkknldeafkaa

namespace Go.Proofs.Ytkpfkknldeafkaa
open Go.RowKit

set_option maxRecDepth 100000 in
set_option maxHeartbeats 8000000 in
theorem tripsWalk (x : Sp) (s : List UInt8) (_ls : s.length ≤ 140737488351232) (w : World) :
    Calls Try.prog 7 #[.agg (spV x), .string (bs s)] w fun e w' => e = .returned (.bool true) ∧ Below w.heap.size w w' := by
  have HX := Lib.hid (Bx.new w (spV x) 23); have HB := Lib.hid ((Below.refl w.heap.size w).alloc (Nat.le_refl _) (.cells (spV x) 23))
  by_cases h3 : (300 : Int) < (s.length : Int)
  · go_enter Try.func7, Try.ntmps7
    go_wp2_with fail
    refine (works_any _).mono ?_
    rintro e wz ⟨rfl, hbz⟩
    have HZ := Lib.hid hbz; clear hbz
    go_wp2_with fail
    go_ret
    exact ⟨rfl, btrans HB.out HB.out.size HZ.out⟩
  · obtain ⟨⟨t, e1⟩, ht⟩ : ∃ r, encS x = r := ⟨_, rfl⟩
    obtain ⟨⟨y, f1⟩, hy⟩ : ∃ r, decS s = r := ⟨_, rfl⟩
    have HT := Lib.hid ht; have HY := Lib.hid hy; clear ht hy
    go_enter Try.func7, Try.ntmps7
    go_upto_region 1 with (fail)
    generalize hW : w.alloc (.cells (spV x) 23) = v0 at HX HB ⊢
    clear hW
    have x0 : v0.cell? ⟨w.heap.size, 0, none⟩ = some (.int .i64 x.g) := HX.out.cell 0
    have x1 : v0.cell? ⟨w.heap.size, 1, none⟩ = some (.int .i64 x.e) := HX.out.cell 1
    have x2 : v0.cell? ⟨w.heap.size, 2, none⟩ = some (.int .i64 x.a) := HX.out.cell 2
    have x3 : v0.cell? ⟨w.heap.size, 3, none⟩ = some (.int .i64 x.z) := HX.out.cell 3
    have x4 : v0.cell? ⟨w.heap.size, 4, none⟩ = some (.int .i64 x.p) := HX.out.cell 4
    go_wp2_with fail
    refine (SEncode_any x _).mono ?_
    rw [HT.out]
    rintro e w1 ⟨rfl, hb1⟩
    clear x0 x1 x2 x3 x4
    have HX := Lib.hid (HX.out.call hb1); have HB := Lib.hid (btrans HB.out HB.out.size hb1); clear hb1
    have x0 : w1.cell? ⟨w.heap.size, 0, none⟩ = some (.int .i64 x.g) := HX.out.cell 0
    have x1 : w1.cell? ⟨w.heap.size, 1, none⟩ = some (.int .i64 x.e) := HX.out.cell 1
    have x2 : w1.cell? ⟨w.heap.size, 2, none⟩ = some (.int .i64 x.a) := HX.out.cell 2
    have x3 : w1.cell? ⟨w.heap.size, 3, none⟩ = some (.int .i64 x.z) := HX.out.cell 3
    have x4 : w1.cell? ⟨w.heap.size, 4, none⟩ = some (.int .i64 x.p) := HX.out.cell 4
    go_wp2_with fail
    refine (RSValid_any x _).mono ?_
    rintro e w2 ⟨rfl, hb2⟩
    clear x0 x1 x2 x3 x4
    have HX := Lib.hid (HX.out.call hb2); have HB := Lib.hid (btrans HB.out HB.out.size hb2); clear hb2
    cases hv : spB x with
    | false =>
      have HV := Lib.hid hv; clear hv
      go_wp2_with fail
      refine (SDecode_any s _ (by omega)).mono ?_
      rw [HY.out]
      simp only [spV]
      rintro e w5 ⟨rfl, hb5⟩
      have HYX := Lib.hid (Bx.new w5 #[.int .i64 y.g, .int .i64 y.e, .int .i64 y.a, .int .i64 y.z, .int .i64 y.p] 23); have HB5 := Lib.hid ((btrans HB.out HB.out.size hb5).alloc (btrans HB.out HB.out.size hb5).size (.cells #[.int .i64 y.g, .int .i64 y.e, .int .i64 y.a, .int .i64 y.z, .int .i64 y.p] 23)); clear hb5
      go_upto_region 9 with (fail)
      generalize hW : w5.alloc (.cells #[.int .i64 y.g, .int .i64 y.e, .int .i64 y.a, .int .i64 y.z, .int .i64 y.p] 23) = v5 at HYX HB5 ⊢
      clear hW
      by_cases hf : f1 = 0
      · have tf : (f1 != 0) = false := by rw [hf]; rfl
        obtain ⟨r1, r2⟩ := trip_dec (s := s) (y := y) (by rw [HY.out, hf])
        have R1 := Lib.hid r1; have R2 := Lib.hid r2; clear r1 r2 hf
        have y0 : v5.cell? ⟨w5.heap.size, 0, none⟩ = some (.int .i64 y.g) := HYX.out.cell 0
        have y1 : v5.cell? ⟨w5.heap.size, 1, none⟩ = some (.int .i64 y.e) := HYX.out.cell 1
        have y2 : v5.cell? ⟨w5.heap.size, 2, none⟩ = some (.int .i64 y.a) := HYX.out.cell 2
        have y3 : v5.cell? ⟨w5.heap.size, 3, none⟩ = some (.int .i64 y.z) := HYX.out.cell 3
        have y4 : v5.cell? ⟨w5.heap.size, 4, none⟩ = some (.int .i64 y.p) := HYX.out.cell 4
        go_wp2_with fail
        refine (SEncode_any y _).mono ?_
        rw [R2.out]
        rintro e w6 ⟨rfl, hb6⟩
        clear y0 y1 y2 y3 y4
        have HYX := Lib.hid (HYX.out.call hb6); have HB6 := Lib.hid (btrans HB5.out HB5.out.size hb6); clear hb6
        have y0 : w6.cell? ⟨w5.heap.size, 0, none⟩ = some (.int .i64 y.g) := HYX.out.cell 0
        have y1 : w6.cell? ⟨w5.heap.size, 1, none⟩ = some (.int .i64 y.e) := HYX.out.cell 1
        have y2 : w6.cell? ⟨w5.heap.size, 2, none⟩ = some (.int .i64 y.a) := HYX.out.cell 2
        have y3 : w6.cell? ⟨w5.heap.size, 3, none⟩ = some (.int .i64 y.z) := HYX.out.cell 3
        have y4 : w6.cell? ⟨w5.heap.size, 4, none⟩ = some (.int .i64 y.p) := HYX.out.cell 4
        go_wp2_with fail
        refine (RSValid_any y _).mono ?_
        rw [R1.out]
        rintro e w7 ⟨rfl, hb7⟩
        clear y0 y1 y2 y3 y4
        have HB7 := Lib.hid (btrans HB6.out HB6.out.size hb7); clear hb7
        have tss : (s == s) = true := by simp
        go_wp2_with fail
        refine (works_any _).mono ?_
        rintro e wz ⟨rfl, hbz⟩
        have HZ := Lib.hid hbz; clear hbz
        go_wp2_with fail
        go_ret
        exact ⟨rfl, btrans HB7.out HB7.out.size HZ.out⟩
      · have tf : (f1 != 0) = true := by rw [bne_iff_ne]; exact hf
        have HZ0 := Lib.hid (show y = sp0 by have h := dec_err s; rw [HY.out] at h; exact h hf)
        clear hf
        have y0 : v5.cell? ⟨w5.heap.size, 0, none⟩ = some (.int .i64 0) := by have h := HYX.out.cell 0; rw [HZ0.out] at h; exact h
        have y1 : v5.cell? ⟨w5.heap.size, 1, none⟩ = some (.int .i64 0) := by have h := HYX.out.cell 1; rw [HZ0.out] at h; exact h
        have y2 : v5.cell? ⟨w5.heap.size, 2, none⟩ = some (.int .i64 0) := by have h := HYX.out.cell 2; rw [HZ0.out] at h; exact h
        have y3 : v5.cell? ⟨w5.heap.size, 3, none⟩ = some (.int .i64 0) := by have h := HYX.out.cell 3; rw [HZ0.out] at h; exact h
        have y4 : v5.cell? ⟨w5.heap.size, 4, none⟩ = some (.int .i64 0) := by have h := HYX.out.cell 4; rw [HZ0.out] at h; exact h
        go_wp2_with fail
        refine (works_any _).mono ?_
        rintro e wz ⟨rfl, hbz⟩
        have HZ := Lib.hid hbz; clear hbz
        go_wp2_with fail
        go_ret
        exact ⟨rfl, btrans HB5.out HB5.out.size HZ.out⟩
    | true =>
      obtain ⟨q1, q2, q3⟩ := trip_enc hv
      rw [HT.out] at q1 q2 q3
      simp only at q1 q2 q3
      have HQ2 := Lib.hid q2; clear q2 hv
      have te1 : (e1 != 0) = false := by rw [q1]; rfl
      have tl : ((t.length : Int) != 64) = false := by rw [q3]; rfl
      have HQ1 := Lib.hid q1; have HQ3 := Lib.hid q3; clear q1 q3
      go_wp2_with fail
      refine (SDecode_any t _ (by have := HQ3.out; omega)).mono ?_
      rw [HQ2.out]
      simp only [spV]
      rintro e w3 ⟨rfl, hb3⟩
      have HX := Lib.hid ((HX.out.call hb3).alloc (.cells #[.int .i64 x.g, .int .i64 x.e, .int .i64 x.a, .int .i64 x.z, .int .i64 x.p] 23)); have HY2 := Lib.hid (Bx.new w3 #[.int .i64 x.g, .int .i64 x.e, .int .i64 x.a, .int .i64 x.z, .int .i64 x.p] 23); have HB := Lib.hid ((btrans HB.out HB.out.size hb3).alloc (btrans HB.out HB.out.size hb3).size (.cells #[.int .i64 x.g, .int .i64 x.e, .int .i64 x.a, .int .i64 x.z, .int .i64 x.p] 23)); clear hb3
      go_upto_region 6 with (fail)
      generalize hW : w3.alloc (.cells #[.int .i64 x.g, .int .i64 x.e, .int .i64 x.a, .int .i64 x.z, .int .i64 x.p] 23) = v3 at HX HY2 HB ⊢
      clear hW
      have x0 : v3.cell? ⟨w.heap.size, 0, none⟩ = some (.int .i64 x.g) := HX.out.cell 0
      have x1 : v3.cell? ⟨w.heap.size, 1, none⟩ = some (.int .i64 x.e) := HX.out.cell 1
      have x2 : v3.cell? ⟨w.heap.size, 2, none⟩ = some (.int .i64 x.a) := HX.out.cell 2
      have x3 : v3.cell? ⟨w.heap.size, 3, none⟩ = some (.int .i64 x.z) := HX.out.cell 3
      have x4 : v3.cell? ⟨w.heap.size, 4, none⟩ = some (.int .i64 x.p) := HX.out.cell 4
      have z0 : v3.cell? ⟨w3.heap.size, 0, none⟩ = some (.int .i64 x.g) := HY2.out.cell 0
      have z1 : v3.cell? ⟨w3.heap.size, 1, none⟩ = some (.int .i64 x.e) := HY2.out.cell 1
      have z2 : v3.cell? ⟨w3.heap.size, 2, none⟩ = some (.int .i64 x.a) := HY2.out.cell 2
      have z3 : v3.cell? ⟨w3.heap.size, 3, none⟩ = some (.int .i64 x.z) := HY2.out.cell 3
      have z4 : v3.cell? ⟨w3.heap.size, 4, none⟩ = some (.int .i64 x.p) := HY2.out.cell 4
      go_wp2_with fail
      refine (SDecode_any s _ (by omega)).mono ?_
      rw [HY.out]
      simp only [spV]
      rintro e w5 ⟨rfl, hb5⟩
      have HYX := Lib.hid (Bx.new w5 #[.int .i64 y.g, .int .i64 y.e, .int .i64 y.a, .int .i64 y.z, .int .i64 y.p] 23); have HB5 := Lib.hid ((btrans HB.out HB.out.size hb5).alloc (btrans HB.out HB.out.size hb5).size (.cells #[.int .i64 y.g, .int .i64 y.e, .int .i64 y.a, .int .i64 y.z, .int .i64 y.p] 23)); clear hb5
      go_upto_region 9 with (fail)
      generalize hW : w5.alloc (.cells #[.int .i64 y.g, .int .i64 y.e, .int .i64 y.a, .int .i64 y.z, .int .i64 y.p] 23) = v5 at HYX HB5 ⊢
      clear hW
      by_cases hf : f1 = 0
      · have tf : (f1 != 0) = false := by rw [hf]; rfl
        obtain ⟨r1, r2⟩ := trip_dec (s := s) (y := y) (by rw [HY.out, hf])
        have R1 := Lib.hid r1; have R2 := Lib.hid r2; clear r1 r2 hf
        have y0 : v5.cell? ⟨w5.heap.size, 0, none⟩ = some (.int .i64 y.g) := HYX.out.cell 0
        have y1 : v5.cell? ⟨w5.heap.size, 1, none⟩ = some (.int .i64 y.e) := HYX.out.cell 1
        have y2 : v5.cell? ⟨w5.heap.size, 2, none⟩ = some (.int .i64 y.a) := HYX.out.cell 2
        have y3 : v5.cell? ⟨w5.heap.size, 3, none⟩ = some (.int .i64 y.z) := HYX.out.cell 3
        have y4 : v5.cell? ⟨w5.heap.size, 4, none⟩ = some (.int .i64 y.p) := HYX.out.cell 4
        go_wp2_with fail
        refine (SEncode_any y _).mono ?_
        rw [R2.out]
        rintro e w6 ⟨rfl, hb6⟩
        clear y0 y1 y2 y3 y4
        have HYX := Lib.hid (HYX.out.call hb6); have HB6 := Lib.hid (btrans HB5.out HB5.out.size hb6); clear hb6
        have y0 : w6.cell? ⟨w5.heap.size, 0, none⟩ = some (.int .i64 y.g) := HYX.out.cell 0
        have y1 : w6.cell? ⟨w5.heap.size, 1, none⟩ = some (.int .i64 y.e) := HYX.out.cell 1
        have y2 : w6.cell? ⟨w5.heap.size, 2, none⟩ = some (.int .i64 y.a) := HYX.out.cell 2
        have y3 : w6.cell? ⟨w5.heap.size, 3, none⟩ = some (.int .i64 y.z) := HYX.out.cell 3
        have y4 : w6.cell? ⟨w5.heap.size, 4, none⟩ = some (.int .i64 y.p) := HYX.out.cell 4
        go_wp2_with fail
        refine (RSValid_any y _).mono ?_
        rw [R1.out]
        rintro e w7 ⟨rfl, hb7⟩
        clear y0 y1 y2 y3 y4
        have HB7 := Lib.hid (btrans HB6.out HB6.out.size hb7); clear hb7
        have tss : (s == s) = true := by simp
        go_wp2_with fail
        refine (works_any _).mono ?_
        rintro e wz ⟨rfl, hbz⟩
        have HZ := Lib.hid hbz; clear hbz
        go_wp2_with fail
        go_ret
        exact ⟨rfl, btrans HB7.out HB7.out.size HZ.out⟩
      · have tf : (f1 != 0) = true := by rw [bne_iff_ne]; exact hf
        have HZ0 := Lib.hid (show y = sp0 by have h := dec_err s; rw [HY.out] at h; exact h hf)
        clear hf
        have y0 : v5.cell? ⟨w5.heap.size, 0, none⟩ = some (.int .i64 0) := by have h := HYX.out.cell 0; rw [HZ0.out] at h; exact h
        have y1 : v5.cell? ⟨w5.heap.size, 1, none⟩ = some (.int .i64 0) := by have h := HYX.out.cell 1; rw [HZ0.out] at h; exact h
        have y2 : v5.cell? ⟨w5.heap.size, 2, none⟩ = some (.int .i64 0) := by have h := HYX.out.cell 2; rw [HZ0.out] at h; exact h
        have y3 : v5.cell? ⟨w5.heap.size, 3, none⟩ = some (.int .i64 0) := by have h := HYX.out.cell 3; rw [HZ0.out] at h; exact h
        have y4 : v5.cell? ⟨w5.heap.size, 4, none⟩ = some (.int .i64 0) := by have h := HYX.out.cell 4; rw [HZ0.out] at h; exact h
        go_wp2_with fail
        refine (works_any _).mono ?_
        rintro e wz ⟨rfl, hbz⟩
        have HZ := Lib.hid hbz; clear hbz
        go_wp2_with fail
        go_ret
        exact ⟨rfl, btrans HB5.out HB5.out.size HZ.out⟩
end Go.Proofs.Ytkpfkknldeafkaa

