/- The walk of ValueDistinct. No conditions. -/
import Derived.Test.YtmffdoblpkjmjaaDoorValRl
namespace Go.Proofs.YtmffdoblpkjmjaaDoor
open Go.RowKit

theorem vl_ext (a b : Vl) : a = b ↔ a.k = b.k ∧ a.n = b.n ∧ a.s = b.s := by cases a; cases b; simp

set_option maxRecDepth 100000 in
set_option maxHeartbeats 64000000 in
theorem distinctWalk5 (a : Vl) (hn0a : -9223372036854775808 ≤ a.n) (hn1a : a.n ≤ 9223372036854775807) (hla : a.s.length ≤ 140737488351232) (b : Vl) (hn0b : -9223372036854775808 ≤ b.n) (hn1b : b.n ≤ 9223372036854775807) (hlb : b.s.length ≤ 140737488351232) (w : World) (hL : Laid w) :
    Calls Tryd.prog 8 #[.agg (vV a), .agg (vV b)] w fun e w' => e = .returned (.bool true) ∧ Below w.heap.size w w' := by
  simp only [vV]
  have hl7a : a.s.length ≤ 9223372036854775807 := by omega
  have hl7b : b.s.length ≤ 9223372036854775807 := by omega
  by_cases hab : a = b
  · have e1 : a.k = b.k := by rw [hab]
    have e2 : a.n = b.n := by rw [hab]
    have e3 : a.s = b.s := by rw [hab]
    have t1 : (a.k == b.k) = true := by rw [beq_iff_eq]; exact e1
    have t2 : (a.n == b.n) = true := by rw [beq_iff_eq]; exact e2
    have t3 : (a.s == b.s) = true := by rw [beq_iff_eq]; exact e3
    have HE := Lib.hid hab; clear hab e1 e2 e3
    have hb0 := (((Below.refl w.heap.size w).alloc (Nat.le_refl _) (.cells #[.int .i64 a.k, .int .i64 a.n, .string (bs a.s)] 23)).alloc (by simp) (.cells #[.int .i64 b.k, .int .i64 b.n, .string (bs b.s)] 23))
    have h_HX := ((Bx.new w #[.int .i64 a.k, .int .i64 a.n, .string (bs a.s)] 23).alloc (.cells #[.int .i64 b.k, .int .i64 b.n, .string (bs b.s)] 23))
    have h_HY := (Bx.new (w.alloc (.cells #[.int .i64 a.k, .int .i64 a.n, .string (bs a.s)] 23)) #[.int .i64 b.k, .int .i64 b.n, .string (bs b.s)] 23)
    rw [show (w.alloc (.cells #[.int .i64 a.k, .int .i64 a.n, .string (bs a.s)] 23)).heap.size = w.heap.size + 1 by simp] at h_HY
    have HB := Lib.hid hb0; have HX := Lib.hid h_HX; have HY := Lib.hid h_HY
    clear hb0 h_HX h_HY
    go_enter Tryd.func8, Tryd.ntmps8
    go_upto_region 1 with (fail)
    generalize hW0 : (w.alloc (.cells #[.int .i64 a.k, .int .i64 a.n, .string (bs a.s)] 23)).alloc (.cells #[.int .i64 b.k, .int .i64 b.n, .string (bs b.s)] 23) = v0 at HB HX HY ⊢
    clear hW0
    have x0 : v0.cell? ⟨w.heap.size, 0, none⟩ = some (.int .i64 a.k) := HX.out.cell 0
    have x1 : v0.cell? ⟨w.heap.size, 1, none⟩ = some (.int .i64 a.n) := HX.out.cell 1
    have x2 : v0.cell? ⟨w.heap.size, 2, none⟩ = some (.string (bs a.s)) := HX.out.cell 2
    have y0 : v0.cell? ⟨(w.heap.size + 1), 0, none⟩ = some (.int .i64 b.k) := HY.out.cell 0
    have y1 : v0.cell? ⟨(w.heap.size + 1), 1, none⟩ = some (.int .i64 b.n) := HY.out.cell 1
    have y2 : v0.cell? ⟨(w.heap.size + 1), 2, none⟩ = some (.string (bs b.s)) := HY.out.cell 2
    go_wp2_with fail
    refine (works_any _ (hL.below HB.out)).mono ?_
    rintro er wz ⟨rfl, hbz⟩
    go_wp2
    go_ret
    exact ⟨rfl, btrans HB.out HB.out.size hbz⟩
  by_cases e1 : a.k = b.k
  rotate_left
  · have t1 : (a.k == b.k) = false := by rw [beq_eq_false_iff_ne]; exact e1
    clear e1
    have HE := Lib.hid hab; clear hab
    cases hva : vaB a with
    | false =>
      have HVA := Lib.hid hva; clear hva
      have hb0 := (((Below.refl w.heap.size w).alloc (Nat.le_refl _) (.cells #[.int .i64 a.k, .int .i64 a.n, .string (bs a.s)] 23)).alloc (by simp) (.cells #[.int .i64 b.k, .int .i64 b.n, .string (bs b.s)] 23))
      have h_HX := ((Bx.new w #[.int .i64 a.k, .int .i64 a.n, .string (bs a.s)] 23).alloc (.cells #[.int .i64 b.k, .int .i64 b.n, .string (bs b.s)] 23))
      have h_HY := (Bx.new (w.alloc (.cells #[.int .i64 a.k, .int .i64 a.n, .string (bs a.s)] 23)) #[.int .i64 b.k, .int .i64 b.n, .string (bs b.s)] 23)
      rw [show (w.alloc (.cells #[.int .i64 a.k, .int .i64 a.n, .string (bs a.s)] 23)).heap.size = w.heap.size + 1 by simp] at h_HY
      have HB := Lib.hid hb0; have HX := Lib.hid h_HX; have HY := Lib.hid h_HY
      clear hb0 h_HX h_HY
      go_enter Tryd.func8, Tryd.ntmps8
      go_upto_region 1 with (fail)
      generalize hW0 : (w.alloc (.cells #[.int .i64 a.k, .int .i64 a.n, .string (bs a.s)] 23)).alloc (.cells #[.int .i64 b.k, .int .i64 b.n, .string (bs b.s)] 23) = v0 at HB HX HY ⊢
      clear hW0
      have x0 : v0.cell? ⟨w.heap.size, 0, none⟩ = some (.int .i64 a.k) := HX.out.cell 0
      have x1 : v0.cell? ⟨w.heap.size, 1, none⟩ = some (.int .i64 a.n) := HX.out.cell 1
      have x2 : v0.cell? ⟨w.heap.size, 2, none⟩ = some (.string (bs a.s)) := HX.out.cell 2
      have y0 : v0.cell? ⟨(w.heap.size + 1), 0, none⟩ = some (.int .i64 b.k) := HY.out.cell 0
      have y1 : v0.cell? ⟨(w.heap.size + 1), 1, none⟩ = some (.int .i64 b.n) := HY.out.cell 1
      have y2 : v0.cell? ⟨(w.heap.size + 1), 2, none⟩ = some (.string (bs b.s)) := HY.out.cell 2
      go_wp2_with fail
      refine (RVValid_any a hl7a _).mono ?_
      rw [HVA.out]
      rintro er w1 ⟨rfl, hb1⟩
      clear x0 x1 x2
      clear y0 y1 y2
      have HX := Lib.hid (HX.out.call hb1); have HY := Lib.hid (HY.out.call hb1); have HB := Lib.hid (btrans HB.out HB.out.size hb1); clear hb1
      go_wp2_with fail
      refine (works_any _ (hL.below HB.out)).mono ?_
      rintro er wz ⟨rfl, hbz⟩
      go_wp2
      go_ret
      exact ⟨rfl, btrans HB.out HB.out.size hbz⟩
    | true =>
      cases hvb : vaB b with
      | false =>
        have HVA := Lib.hid hva; have HVB := Lib.hid hvb; clear hva hvb
        have hb0 := (((Below.refl w.heap.size w).alloc (Nat.le_refl _) (.cells #[.int .i64 a.k, .int .i64 a.n, .string (bs a.s)] 23)).alloc (by simp) (.cells #[.int .i64 b.k, .int .i64 b.n, .string (bs b.s)] 23))
        have h_HX := ((Bx.new w #[.int .i64 a.k, .int .i64 a.n, .string (bs a.s)] 23).alloc (.cells #[.int .i64 b.k, .int .i64 b.n, .string (bs b.s)] 23))
        have h_HY := (Bx.new (w.alloc (.cells #[.int .i64 a.k, .int .i64 a.n, .string (bs a.s)] 23)) #[.int .i64 b.k, .int .i64 b.n, .string (bs b.s)] 23)
        rw [show (w.alloc (.cells #[.int .i64 a.k, .int .i64 a.n, .string (bs a.s)] 23)).heap.size = w.heap.size + 1 by simp] at h_HY
        have HB := Lib.hid hb0; have HX := Lib.hid h_HX; have HY := Lib.hid h_HY
        clear hb0 h_HX h_HY
        go_enter Tryd.func8, Tryd.ntmps8
        go_upto_region 1 with (fail)
        generalize hW0 : (w.alloc (.cells #[.int .i64 a.k, .int .i64 a.n, .string (bs a.s)] 23)).alloc (.cells #[.int .i64 b.k, .int .i64 b.n, .string (bs b.s)] 23) = v0 at HB HX HY ⊢
        clear hW0
        have x0 : v0.cell? ⟨w.heap.size, 0, none⟩ = some (.int .i64 a.k) := HX.out.cell 0
        have x1 : v0.cell? ⟨w.heap.size, 1, none⟩ = some (.int .i64 a.n) := HX.out.cell 1
        have x2 : v0.cell? ⟨w.heap.size, 2, none⟩ = some (.string (bs a.s)) := HX.out.cell 2
        have y0 : v0.cell? ⟨(w.heap.size + 1), 0, none⟩ = some (.int .i64 b.k) := HY.out.cell 0
        have y1 : v0.cell? ⟨(w.heap.size + 1), 1, none⟩ = some (.int .i64 b.n) := HY.out.cell 1
        have y2 : v0.cell? ⟨(w.heap.size + 1), 2, none⟩ = some (.string (bs b.s)) := HY.out.cell 2
        go_wp2_with fail
        refine (RVValid_any a hl7a _).mono ?_
        rw [HVA.out]
        rintro er w1 ⟨rfl, hb1⟩
        clear x0 x1 x2
        clear y0 y1 y2
        have HX := Lib.hid (HX.out.call hb1); have HY := Lib.hid (HY.out.call hb1); have HB := Lib.hid (btrans HB.out HB.out.size hb1); clear hb1
        have x0 : w1.cell? ⟨w.heap.size, 0, none⟩ = some (.int .i64 a.k) := HX.out.cell 0
        have x1 : w1.cell? ⟨w.heap.size, 1, none⟩ = some (.int .i64 a.n) := HX.out.cell 1
        have x2 : w1.cell? ⟨w.heap.size, 2, none⟩ = some (.string (bs a.s)) := HX.out.cell 2
        have y0 : w1.cell? ⟨(w.heap.size + 1), 0, none⟩ = some (.int .i64 b.k) := HY.out.cell 0
        have y1 : w1.cell? ⟨(w.heap.size + 1), 1, none⟩ = some (.int .i64 b.n) := HY.out.cell 1
        have y2 : w1.cell? ⟨(w.heap.size + 1), 2, none⟩ = some (.string (bs b.s)) := HY.out.cell 2
        go_wp2_with fail
        refine (RVValid_any b hl7b _).mono ?_
        rw [HVB.out]
        rintro er w2 ⟨rfl, hb1⟩
        clear x0 x1 x2
        clear y0 y1 y2
        have HX := Lib.hid (HX.out.call hb1); have HY := Lib.hid (HY.out.call hb1); have HB := Lib.hid (btrans HB.out HB.out.size hb1); clear hb1
        go_wp2_with fail
        refine (works_any _ (hL.below HB.out)).mono ?_
        rintro er wz ⟨rfl, hbz⟩
        go_wp2
        go_ret
        exact ⟨rfl, btrans HB.out HB.out.size hbz⟩
      | true =>
        have hl6a : a.s.length ≤ 1000000 := by have := vaB_len hva; omega
        have hl6b : b.s.length ≤ 1000000 := by have := vaB_len hvb; omega
        have hf : fmtV a ≠ fmtV b := fun h => HE.out (fmt_inj a b hn0a hn1a hn0b hn1b hva hvb h)
        have he1 : (encV b).take (encV a).length ≠ encV a := fun h => HE.out (enc_free a b hn0a hn1a hn0b hn1b hva hvb h)
        have he2 : (encV a).take (encV b).length ≠ encV b := fun h => HE.out (enc_free b a hn0b hn1b hn0a hn1a hvb hva h).symm
        have hpa := encV_pos a; have hpb := encV_pos b
        obtain ⟨S, hS⟩ : ∃ S, encV a = S := ⟨_, rfl⟩
        obtain ⟨T, hT⟩ : ∃ T, encV b = T := ⟨_, rfl⟩
        obtain ⟨F, hF⟩ : ∃ F, fmtV a = F := ⟨_, rfl⟩
        obtain ⟨G, hG⟩ : ∃ G, fmtV b = G := ⟨_, rfl⟩
        rw [hS, hT] at he1 he2
        rw [hS] at hpa
        rw [hT] at hpb
        rw [hF, hG] at hf
        have q1 : (F != G) = true := by rw [bne_iff_ne]; exact hf
        have q2 : S.isEmpty = false := by cases S with | nil => simp at hpa | cons c r => rfl
        have q3 : T.isEmpty = false := by cases T with | nil => simp at hpb | cons c r => rfl
        have HQ1 := Lib.hid (show ¬ T.take S.length = S from he1)
        have HQ2 := Lib.hid (show ¬ S.take T.length = T from he2)
        have q4 : (F == G) = false := by rw [beq_eq_false_iff_ne]; exact hf
        have HVA := Lib.hid hva; have HVB := Lib.hid hvb; have HSA := Lib.hid hS; have HTB := Lib.hid hT; have HFA := Lib.hid hF; have HFB := Lib.hid hG; clear hva hvb hS hT hF hG hf he1 he2 hpa hpb
        have hb0 := (((Below.refl w.heap.size w).alloc (Nat.le_refl _) (.cells #[.int .i64 a.k, .int .i64 a.n, .string (bs a.s)] 23)).alloc (by simp) (.cells #[.int .i64 b.k, .int .i64 b.n, .string (bs b.s)] 23))
        have h_HX := ((Bx.new w #[.int .i64 a.k, .int .i64 a.n, .string (bs a.s)] 23).alloc (.cells #[.int .i64 b.k, .int .i64 b.n, .string (bs b.s)] 23))
        have h_HY := (Bx.new (w.alloc (.cells #[.int .i64 a.k, .int .i64 a.n, .string (bs a.s)] 23)) #[.int .i64 b.k, .int .i64 b.n, .string (bs b.s)] 23)
        rw [show (w.alloc (.cells #[.int .i64 a.k, .int .i64 a.n, .string (bs a.s)] 23)).heap.size = w.heap.size + 1 by simp] at h_HY
        have HB := Lib.hid hb0; have HX := Lib.hid h_HX; have HY := Lib.hid h_HY
        clear hb0 h_HX h_HY
        go_enter Tryd.func8, Tryd.ntmps8
        go_upto_region 1 with (fail)
        generalize hW0 : (w.alloc (.cells #[.int .i64 a.k, .int .i64 a.n, .string (bs a.s)] 23)).alloc (.cells #[.int .i64 b.k, .int .i64 b.n, .string (bs b.s)] 23) = v0 at HB HX HY ⊢
        clear hW0
        have x0 : v0.cell? ⟨w.heap.size, 0, none⟩ = some (.int .i64 a.k) := HX.out.cell 0
        have x1 : v0.cell? ⟨w.heap.size, 1, none⟩ = some (.int .i64 a.n) := HX.out.cell 1
        have x2 : v0.cell? ⟨w.heap.size, 2, none⟩ = some (.string (bs a.s)) := HX.out.cell 2
        have y0 : v0.cell? ⟨(w.heap.size + 1), 0, none⟩ = some (.int .i64 b.k) := HY.out.cell 0
        have y1 : v0.cell? ⟨(w.heap.size + 1), 1, none⟩ = some (.int .i64 b.n) := HY.out.cell 1
        have y2 : v0.cell? ⟨(w.heap.size + 1), 2, none⟩ = some (.string (bs b.s)) := HY.out.cell 2
        go_wp2_with fail
        refine (RVValid_any a hl7a _).mono ?_
        rw [HVA.out]
        rintro er w1 ⟨rfl, hb1⟩
        clear x0 x1 x2
        clear y0 y1 y2
        have HX := Lib.hid (HX.out.call hb1); have HY := Lib.hid (HY.out.call hb1); have HB := Lib.hid (btrans HB.out HB.out.size hb1); clear hb1
        have x0 : w1.cell? ⟨w.heap.size, 0, none⟩ = some (.int .i64 a.k) := HX.out.cell 0
        have x1 : w1.cell? ⟨w.heap.size, 1, none⟩ = some (.int .i64 a.n) := HX.out.cell 1
        have x2 : w1.cell? ⟨w.heap.size, 2, none⟩ = some (.string (bs a.s)) := HX.out.cell 2
        have y0 : w1.cell? ⟨(w.heap.size + 1), 0, none⟩ = some (.int .i64 b.k) := HY.out.cell 0
        have y1 : w1.cell? ⟨(w.heap.size + 1), 1, none⟩ = some (.int .i64 b.n) := HY.out.cell 1
        have y2 : w1.cell? ⟨(w.heap.size + 1), 2, none⟩ = some (.string (bs b.s)) := HY.out.cell 2
        go_wp2_with fail
        refine (RVValid_any b hl7b _).mono ?_
        rw [HVB.out]
        rintro er w2 ⟨rfl, hb1⟩
        clear x0 x1 x2
        clear y0 y1 y2
        have HX := Lib.hid (HX.out.call hb1); have HY := Lib.hid (HY.out.call hb1); have HB := Lib.hid (btrans HB.out HB.out.size hb1); clear hb1
        go_upto_region 3 with (fail)
        have hs0 : Bx w.heap.size #[.int .i64 a.k, .int .i64 a.n, .string (bs a.s)] 23 w2.drew ∧ Bx (w.heap.size + 1) #[.int .i64 b.k, .int .i64 b.n, .string (bs b.s)] 23 w2.drew := ⟨HX.out, HY.out⟩
        have HS0 := Lib.hid hs0; clear hs0
        go_wp2_with fail
        refine wp_region_held_drew (S := (fun w' => Bx w.heap.size #[.int .i64 a.k, .int .i64 a.n, .string (bs a.s)] 23 w' ∧ Bx (w.heap.size + 1) #[.int .i64 b.k, .int .i64 b.n, .string (bs b.s)] 23 w')) (by kernel_rfl) ?_ (fun hHeld => ?_)
        · exact HS0.out
        have phc0 : Below w2.heap.size w2 w2.drew := (Below.refl w2.heap.size w2).drew
        refine takeH (i := 0) (v := ?vv1) 21 rfl rfl (by kernel_rfl) (by kernel_rfl) (by kernel_rfl) (fun _ _ _ h => h) (Or.inl ⟨by kernel_rfl, ?yy1⟩) (by assumption) ?_
        case yy1 =>
          intro wq hSw
          have c0_0 : wq.cell? ⟨w.heap.size, 0, none⟩ = some (.int .i64 a.k) := (hSw.1).cell 0
          have c0_1 : wq.cell? ⟨w.heap.size, 1, none⟩ = some (.int .i64 a.n) := (hSw.1).cell 1
          have c0_2 : wq.cell? ⟨w.heap.size, 2, none⟩ = some (.string (bs a.s)) := (hSw.1).cell 2
          clear hSw
          go_simp
          (try with_reducible rfl)
        simp only [List.setIfInBounds_toArray, List.set_cons_zero, List.set_cons_succ]
        refine takeH (i := 2) (v := ?vv2) 23 rfl rfl (by kernel_rfl) (by kernel_rfl) (by kernel_rfl) (fun _ _ _ h => h) (Or.inl ⟨by kernel_rfl, ?yy2⟩) (by assumption) ?_
        case yy2 =>
          intro wq hSw
          have c1_0 : wq.cell? ⟨(w.heap.size + 1), 0, none⟩ = some (.int .i64 b.k) := (hSw.2).cell 0
          have c1_1 : wq.cell? ⟨(w.heap.size + 1), 1, none⟩ = some (.int .i64 b.n) := (hSw.2).cell 1
          have c1_2 : wq.cell? ⟨(w.heap.size + 1), 2, none⟩ = some (.string (bs b.s)) := (hSw.2).cell 2
          clear hSw
          go_simp
          (try with_reducible rfl)
        simp only [List.setIfInBounds_toArray, List.set_cons_zero, List.set_cons_succ]
        refine wpAnyH_ready (rs := [1]) (by kernel_rfl) (by simp) ?_
        refine (AllReadyH.cons rfl (fun K hK => ?_) AllReadyH.nil)
        go_simp
        (refine (VEncode_any a hn0a hn1a hl6a _).mono ?_; rw [HSA.out]; rintro er pu1 ⟨rfl, hd1⟩)
        (try go_wp2_with fail)
        refine hK.out _ _ ?_ (fun hHeld => ?_)
        · exact ⟨hHeld.1.call hd1, hHeld.2.call hd1⟩
        clear hK K
        (try simp only [Act.put, List.setIfInBounds_toArray, List.set_cons_zero, List.set_cons_succ])
        have phc1 := btrans phc0 phc0.size hd1
        refine wpAnyH_ready (rs := [3]) (by kernel_rfl) (by simp) ?_
        refine (AllReadyH.cons rfl (fun K hK => ?_) AllReadyH.nil)
        go_simp
        (refine (VEncode_any b hn0b hn1b hl6b _).mono ?_; rw [HTB.out]; rintro er pu2 ⟨rfl, hd2⟩)
        (try go_wp2_with fail)
        refine hK.out _ _ ?_ (fun hHeld => ?_)
        · exact ⟨hHeld.1.call hd2, hHeld.2.call hd2⟩
        clear hK K
        (try simp only [Act.put, List.setIfInBounds_toArray, List.set_cons_zero, List.set_cons_succ])
        have phc2 := btrans phc1 phc1.size hd2
        refine takeH (i := 4) (v := ?vv3) 5 rfl rfl (by kernel_rfl) (by kernel_rfl) (by kernel_rfl) (fun _ _ _ h => h) (Or.inl ⟨by kernel_rfl, ?yy3⟩) (by assumption) ?_
        case yy3 => intro w hSw; (try dsimp only at hSw); go_simp; (try with_reducible rfl)
        simp only [List.setIfInBounds_toArray, List.set_cons_zero, List.set_cons_succ]
        refine takeH (i := 5) (v := ?vv4) 6 rfl rfl (by kernel_rfl) (by kernel_rfl) (by kernel_rfl) (fun _ _ _ h => h) (Or.inl ⟨by kernel_rfl, ?yy4⟩) (by assumption) ?_
        case yy4 => intro w hSw; (try dsimp only at hSw); go_simp; (try with_reducible rfl)
        simp only [List.setIfInBounds_toArray, List.set_cons_zero, List.set_cons_succ]
        refine wpAnyH_done (by kernel_rfl) ?_ _
        have HX := Lib.hid hHeld.1; have HY := Lib.hid hHeld.2; have HB := Lib.hid (btrans HB.out HB.out.size phc2); clear hHeld phc0 phc1 phc2 hd1 hd2 HS0
        by_cases hlt : T.length < S.length
        · have hlt' : (T.length : Int) < (S.length : Int) := by omega
          have g1 : T.length ≤ S.length := by omega
          have g2 : (T.length : Int) ≤ (S.length : Int) := by omega
          have g3 := HQ2.out
          have g4 : (S.take T.length == T) = false := by rw [beq_eq_false_iff_ne]; exact g3
          go_upto_region 6 with (fail)
          have hs0 : Bx w.heap.size #[.int .i64 a.k, .int .i64 a.n, .string (bs a.s)] 23 pu2.drew ∧ Bx (w.heap.size + 1) #[.int .i64 b.k, .int .i64 b.n, .string (bs b.s)] 23 pu2.drew := ⟨HX.out, HY.out⟩
          have HS0 := Lib.hid hs0; clear hs0
          have hL4 := hL.below HB.out
          have HL4 := Lib.hid hL4; clear hL4
          go_wp2_with fail
          refine wp_region_held_drew (S := (fun w' => Bx w.heap.size #[.int .i64 a.k, .int .i64 a.n, .string (bs a.s)] 23 w' ∧ Bx (w.heap.size + 1) #[.int .i64 b.k, .int .i64 b.n, .string (bs b.s)] 23 w')) (by kernel_rfl) ?_ (fun hHeld => ?_)
          · exact HS0.out
          have qhc0 : Below pu2.heap.size pu2 pu2.drew := (Below.refl pu2.heap.size pu2).drew
          refine takeH (i := 0) (v := ?vv5) 32 rfl rfl (by kernel_rfl) (by kernel_rfl) (by kernel_rfl) (fun _ _ _ h => h) (Or.inl ⟨by kernel_rfl, ?yy5⟩) (by assumption) ?_
          case yy5 =>
            intro wq hSw
            have c0_0 : wq.cell? ⟨w.heap.size, 0, none⟩ = some (.int .i64 a.k) := (hSw.1).cell 0
            have c0_1 : wq.cell? ⟨w.heap.size, 1, none⟩ = some (.int .i64 a.n) := (hSw.1).cell 1
            have c0_2 : wq.cell? ⟨w.heap.size, 2, none⟩ = some (.string (bs a.s)) := (hSw.1).cell 2
            clear hSw
            go_simp
            (try with_reducible rfl)
          simp only [List.setIfInBounds_toArray, List.set_cons_zero, List.set_cons_succ]
          refine takeH (i := 2) (v := ?vv6) 34 rfl rfl (by kernel_rfl) (by kernel_rfl) (by kernel_rfl) (fun _ _ _ h => h) (Or.inl ⟨by kernel_rfl, ?yy6⟩) (by assumption) ?_
          case yy6 =>
            intro wq hSw
            have c1_0 : wq.cell? ⟨(w.heap.size + 1), 0, none⟩ = some (.int .i64 b.k) := (hSw.2).cell 0
            have c1_1 : wq.cell? ⟨(w.heap.size + 1), 1, none⟩ = some (.int .i64 b.n) := (hSw.2).cell 1
            have c1_2 : wq.cell? ⟨(w.heap.size + 1), 2, none⟩ = some (.string (bs b.s)) := (hSw.2).cell 2
            clear hSw
            go_simp
            (try with_reducible rfl)
          simp only [List.setIfInBounds_toArray, List.set_cons_zero, List.set_cons_succ]
          refine wpAnyH_ready (rs := [1]) (by kernel_rfl) (by simp) ?_
          refine (AllReadyH.cons rfl (fun K hK => ?_) AllReadyH.nil)
          go_simp
          (refine (VFormat_any a hn0a hn1a hl6a _ (HL4.out.below qhc0)).mono ?_; rw [HFA.out]; rintro er qu1 ⟨rfl, hd1⟩)
          (try go_wp2_with fail)
          refine hK.out _ _ ?_ (fun hHeld => ?_)
          · exact ⟨hHeld.1.call hd1, hHeld.2.call hd1⟩
          clear hK K
          (try simp only [Act.put, List.setIfInBounds_toArray, List.set_cons_zero, List.set_cons_succ])
          have qhc1 := btrans qhc0 qhc0.size hd1
          refine wpAnyH_ready (rs := [3]) (by kernel_rfl) (by simp) ?_
          refine (AllReadyH.cons rfl (fun K hK => ?_) AllReadyH.nil)
          go_simp
          (refine (VFormat_any b hn0b hn1b hl6b _ (HL4.out.below qhc1)).mono ?_; rw [HFB.out]; rintro er qu2 ⟨rfl, hd2⟩)
          (try go_wp2_with fail)
          refine hK.out _ _ ?_ (fun hHeld => ?_)
          · exact ⟨hHeld.1.call hd2, hHeld.2.call hd2⟩
          clear hK K
          (try simp only [Act.put, List.setIfInBounds_toArray, List.set_cons_zero, List.set_cons_succ])
          have qhc2 := btrans qhc1 qhc1.size hd2
          refine takeH (i := 4) (v := ?vv7) 36 rfl rfl (by kernel_rfl) (by kernel_rfl) (by kernel_rfl) (fun _ _ _ h => h) (Or.inl ⟨by kernel_rfl, ?yy7⟩) (by assumption) ?_
          case yy7 => intro w hSw; (try dsimp only at hSw); go_simp; (try with_reducible rfl)
          simp only [List.setIfInBounds_toArray, List.set_cons_zero, List.set_cons_succ]
          refine takeH (i := 5) (v := ?vv8) 37 rfl rfl (by kernel_rfl) (by kernel_rfl) (by kernel_rfl) (fun _ _ _ h => h) (Or.inl ⟨by kernel_rfl, ?yy8⟩) (by assumption) ?_
          case yy8 => intro w hSw; (try dsimp only at hSw); go_simp; (try with_reducible rfl)
          simp only [List.setIfInBounds_toArray, List.set_cons_zero, List.set_cons_succ]
          refine takeH (i := 6) (v := ?vv9) 38 rfl rfl (by kernel_rfl) (by kernel_rfl) (by kernel_rfl) (fun _ _ _ h => h) (Or.inl ⟨by kernel_rfl, ?yy9⟩) (by assumption) ?_
          case yy9 => intro w hSw; (try dsimp only at hSw); go_simp; (try with_reducible rfl)
          simp only [List.setIfInBounds_toArray, List.set_cons_zero, List.set_cons_succ]
          refine takeH (i := 7) (v := ?vv10) 39 rfl rfl (by kernel_rfl) (by kernel_rfl) (by kernel_rfl) (fun _ _ _ h => h) (Or.inl ⟨by kernel_rfl, ?yy10⟩) (by assumption) ?_
          case yy10 => intro w hSw; (try dsimp only at hSw); go_simp; (try with_reducible rfl)
          simp only [List.setIfInBounds_toArray, List.set_cons_zero, List.set_cons_succ]
          refine takeH (i := 8) (v := ?vv11) 40 rfl rfl (by kernel_rfl) (by kernel_rfl) (by kernel_rfl) (fun _ _ _ h => h) (Or.inl ⟨by kernel_rfl, ?yy11⟩) (by assumption) ?_
          case yy11 => intro w hSw; (try dsimp only at hSw); go_simp; (try with_reducible rfl)
          simp only [List.setIfInBounds_toArray, List.set_cons_zero, List.set_cons_succ]
          refine takeH (i := 9) (v := ?vv12) 41 rfl rfl (by kernel_rfl) (by kernel_rfl) (by kernel_rfl) (fun _ _ _ h => h) (Or.inl ⟨by kernel_rfl, ?yy12⟩) (by assumption) ?_
          case yy12 => intro w hSw; (try dsimp only at hSw); go_simp; (try with_reducible rfl)
          simp only [List.setIfInBounds_toArray, List.set_cons_zero, List.set_cons_succ]
          refine takeH (i := 10) (v := ?vv13) 42 rfl rfl (by kernel_rfl) (by kernel_rfl) (by kernel_rfl) (fun _ _ _ h => h) (Or.inl ⟨by kernel_rfl, ?yy13⟩) (by assumption) ?_
          case yy13 => intro w hSw; (try dsimp only at hSw); go_simp; (try with_reducible rfl)
          simp only [List.setIfInBounds_toArray, List.set_cons_zero, List.set_cons_succ]
          refine takeH (i := 11) (v := ?vv14) 43 rfl rfl (by kernel_rfl) (by kernel_rfl) (by kernel_rfl) (fun _ _ _ h => h) (Or.inl ⟨by kernel_rfl, ?yy14⟩) (by assumption) ?_
          case yy14 => intro w hSw; (try dsimp only at hSw); go_simp; (try with_reducible rfl)
          simp only [List.setIfInBounds_toArray, List.set_cons_zero, List.set_cons_succ]
          refine takeH (i := 12) (v := ?vv15) 44 rfl rfl (by kernel_rfl) (by kernel_rfl) (by kernel_rfl) (fun _ _ _ h => h) (Or.inl ⟨by kernel_rfl, ?yy15⟩) (by assumption) ?_
          case yy15 => intro w hSw; (try dsimp only at hSw); go_simp; (try with_reducible rfl)
          simp only [List.setIfInBounds_toArray, List.set_cons_zero, List.set_cons_succ]
          refine takeH (i := 13) (v := ?vv16) 45 rfl rfl (by kernel_rfl) (by kernel_rfl) (by kernel_rfl) (fun _ _ _ h => h) (Or.inl ⟨by kernel_rfl, ?yy16⟩) (by assumption) ?_
          case yy16 => intro w hSw; (try dsimp only at hSw); go_simp; (try with_reducible rfl)
          simp only [List.setIfInBounds_toArray, List.set_cons_zero, List.set_cons_succ]
          refine takeH (i := 14) (v := ?vv17) 46 rfl rfl (by kernel_rfl) (by kernel_rfl) (by kernel_rfl) (fun _ _ _ h => h) (Or.inl ⟨by kernel_rfl, ?yy17⟩) (by assumption) ?_
          case yy17 => intro w hSw; (try dsimp only at hSw); go_simp; (try with_reducible rfl)
          simp only [List.setIfInBounds_toArray, List.set_cons_zero, List.set_cons_succ]
          refine takeH (i := 15) (v := ?vv18) 47 rfl rfl (by kernel_rfl) (by kernel_rfl) (by kernel_rfl) (fun _ _ _ h => h) (Or.inl ⟨by kernel_rfl, ?yy18⟩) (by assumption) ?_
          case yy18 => intro w hSw; (try dsimp only at hSw); go_simp; (try with_reducible rfl)
          simp only [List.setIfInBounds_toArray, List.set_cons_zero, List.set_cons_succ]
          refine takeH (i := 16) (v := ?vv19) 48 rfl rfl (by kernel_rfl) (by kernel_rfl) (by kernel_rfl) (fun _ _ _ h => h) (Or.inl ⟨by kernel_rfl, ?yy19⟩) (by assumption) ?_
          case yy19 => intro w hSw; (try dsimp only at hSw); go_simp; (try with_reducible rfl)
          simp only [List.setIfInBounds_toArray, List.set_cons_zero, List.set_cons_succ]
          refine takeH (i := 17) (v := ?vv20) 49 rfl rfl (by kernel_rfl) (by kernel_rfl) (by kernel_rfl) (fun _ _ _ h => h) (Or.inl ⟨by kernel_rfl, ?yy20⟩) (by assumption) ?_
          case yy20 => intro w hSw; (try dsimp only at hSw); go_simp; (try with_reducible rfl)
          simp only [List.setIfInBounds_toArray, List.set_cons_zero, List.set_cons_succ]
          refine wpAnyH_ready (rs := [18]) (by kernel_rfl) (by simp) ?_
          refine (AllReadyH.cons rfl (fun K hK => ?_) AllReadyH.nil)
          go_simp
          (refine (works_any _ (HL4.out.below qhc2)).mono ?_; rintro er qu3 ⟨rfl, hd3⟩)
          (try go_wp2_with fail)
          refine hK.out _ _ ?_ (fun hHeld => ?_)
          · exact ⟨hHeld.1.call hd3, hHeld.2.call hd3⟩
          clear hK K
          (try simp only [Act.put, List.setIfInBounds_toArray, List.set_cons_zero, List.set_cons_succ])
          have qhc3 := btrans qhc2 qhc2.size hd3
          refine takeH (i := 19) (v := ?vv21) 51 rfl rfl (by kernel_rfl) (by kernel_rfl) (by kernel_rfl) (fun _ _ _ h => h) (Or.inl ⟨by kernel_rfl, ?yy21⟩) (by assumption) ?_
          case yy21 => intro w hSw; (try dsimp only at hSw); go_simp; (try with_reducible rfl)
          simp only [List.setIfInBounds_toArray, List.set_cons_zero, List.set_cons_succ]
          refine takeH (i := 20) (v := ?vv22) 4 rfl rfl (by kernel_rfl) (by kernel_rfl) (by kernel_rfl) (fun _ _ _ h => h) (Or.inl ⟨by kernel_rfl, ?yy22⟩) (by assumption) ?_
          case yy22 => intro w hSw; (try dsimp only at hSw); go_simp; (try with_reducible rfl)
          simp only [List.setIfInBounds_toArray, List.set_cons_zero, List.set_cons_succ]
          refine wpAnyH_done (by kernel_rfl) ?_ _
          go_wp2_with fail
          go_ret
          exact ⟨rfl, btrans HB.out HB.out.size qhc3⟩
        have hlt' : ¬ (T.length : Int) < (S.length : Int) := by omega
        have g1 : S.length ≤ T.length := by omega
        have g2 : (S.length : Int) ≤ (T.length : Int) := by omega
        have g3 := HQ1.out
        have g4 : (T.take S.length == S) = false := by rw [beq_eq_false_iff_ne]; exact g3
        go_upto_region 6 with (fail)
        have hs0 : Bx w.heap.size #[.int .i64 a.k, .int .i64 a.n, .string (bs a.s)] 23 pu2.drew ∧ Bx (w.heap.size + 1) #[.int .i64 b.k, .int .i64 b.n, .string (bs b.s)] 23 pu2.drew := ⟨HX.out, HY.out⟩
        have HS0 := Lib.hid hs0; clear hs0
        have hL4 := hL.below HB.out
        have HL4 := Lib.hid hL4; clear hL4
        go_wp2_with fail
        refine wp_region_held_drew (S := (fun w' => Bx w.heap.size #[.int .i64 a.k, .int .i64 a.n, .string (bs a.s)] 23 w' ∧ Bx (w.heap.size + 1) #[.int .i64 b.k, .int .i64 b.n, .string (bs b.s)] 23 w')) (by kernel_rfl) ?_ (fun hHeld => ?_)
        · exact HS0.out
        have qhc0 : Below pu2.heap.size pu2 pu2.drew := (Below.refl pu2.heap.size pu2).drew
        refine takeH (i := 0) (v := ?vv23) 32 rfl rfl (by kernel_rfl) (by kernel_rfl) (by kernel_rfl) (fun _ _ _ h => h) (Or.inl ⟨by kernel_rfl, ?yy23⟩) (by assumption) ?_
        case yy23 =>
          intro wq hSw
          have c0_0 : wq.cell? ⟨w.heap.size, 0, none⟩ = some (.int .i64 a.k) := (hSw.1).cell 0
          have c0_1 : wq.cell? ⟨w.heap.size, 1, none⟩ = some (.int .i64 a.n) := (hSw.1).cell 1
          have c0_2 : wq.cell? ⟨w.heap.size, 2, none⟩ = some (.string (bs a.s)) := (hSw.1).cell 2
          clear hSw
          go_simp
          (try with_reducible rfl)
        simp only [List.setIfInBounds_toArray, List.set_cons_zero, List.set_cons_succ]
        refine takeH (i := 2) (v := ?vv24) 34 rfl rfl (by kernel_rfl) (by kernel_rfl) (by kernel_rfl) (fun _ _ _ h => h) (Or.inl ⟨by kernel_rfl, ?yy24⟩) (by assumption) ?_
        case yy24 =>
          intro wq hSw
          have c1_0 : wq.cell? ⟨(w.heap.size + 1), 0, none⟩ = some (.int .i64 b.k) := (hSw.2).cell 0
          have c1_1 : wq.cell? ⟨(w.heap.size + 1), 1, none⟩ = some (.int .i64 b.n) := (hSw.2).cell 1
          have c1_2 : wq.cell? ⟨(w.heap.size + 1), 2, none⟩ = some (.string (bs b.s)) := (hSw.2).cell 2
          clear hSw
          go_simp
          (try with_reducible rfl)
        simp only [List.setIfInBounds_toArray, List.set_cons_zero, List.set_cons_succ]
        refine wpAnyH_ready (rs := [1]) (by kernel_rfl) (by simp) ?_
        refine (AllReadyH.cons rfl (fun K hK => ?_) AllReadyH.nil)
        go_simp
        (refine (VFormat_any a hn0a hn1a hl6a _ (HL4.out.below qhc0)).mono ?_; rw [HFA.out]; rintro er qu1 ⟨rfl, hd1⟩)
        (try go_wp2_with fail)
        refine hK.out _ _ ?_ (fun hHeld => ?_)
        · exact ⟨hHeld.1.call hd1, hHeld.2.call hd1⟩
        clear hK K
        (try simp only [Act.put, List.setIfInBounds_toArray, List.set_cons_zero, List.set_cons_succ])
        have qhc1 := btrans qhc0 qhc0.size hd1
        refine wpAnyH_ready (rs := [3]) (by kernel_rfl) (by simp) ?_
        refine (AllReadyH.cons rfl (fun K hK => ?_) AllReadyH.nil)
        go_simp
        (refine (VFormat_any b hn0b hn1b hl6b _ (HL4.out.below qhc1)).mono ?_; rw [HFB.out]; rintro er qu2 ⟨rfl, hd2⟩)
        (try go_wp2_with fail)
        refine hK.out _ _ ?_ (fun hHeld => ?_)
        · exact ⟨hHeld.1.call hd2, hHeld.2.call hd2⟩
        clear hK K
        (try simp only [Act.put, List.setIfInBounds_toArray, List.set_cons_zero, List.set_cons_succ])
        have qhc2 := btrans qhc1 qhc1.size hd2
        refine takeH (i := 4) (v := ?vv25) 36 rfl rfl (by kernel_rfl) (by kernel_rfl) (by kernel_rfl) (fun _ _ _ h => h) (Or.inl ⟨by kernel_rfl, ?yy25⟩) (by assumption) ?_
        case yy25 => intro w hSw; (try dsimp only at hSw); go_simp; (try with_reducible rfl)
        simp only [List.setIfInBounds_toArray, List.set_cons_zero, List.set_cons_succ]
        refine takeH (i := 5) (v := ?vv26) 37 rfl rfl (by kernel_rfl) (by kernel_rfl) (by kernel_rfl) (fun _ _ _ h => h) (Or.inl ⟨by kernel_rfl, ?yy26⟩) (by assumption) ?_
        case yy26 => intro w hSw; (try dsimp only at hSw); go_simp; (try with_reducible rfl)
        simp only [List.setIfInBounds_toArray, List.set_cons_zero, List.set_cons_succ]
        refine takeH (i := 6) (v := ?vv27) 38 rfl rfl (by kernel_rfl) (by kernel_rfl) (by kernel_rfl) (fun _ _ _ h => h) (Or.inl ⟨by kernel_rfl, ?yy27⟩) (by assumption) ?_
        case yy27 => intro w hSw; (try dsimp only at hSw); go_simp; (try with_reducible rfl)
        simp only [List.setIfInBounds_toArray, List.set_cons_zero, List.set_cons_succ]
        refine takeH (i := 7) (v := ?vv28) 39 rfl rfl (by kernel_rfl) (by kernel_rfl) (by kernel_rfl) (fun _ _ _ h => h) (Or.inl ⟨by kernel_rfl, ?yy28⟩) (by assumption) ?_
        case yy28 => intro w hSw; (try dsimp only at hSw); go_simp; (try with_reducible rfl)
        simp only [List.setIfInBounds_toArray, List.set_cons_zero, List.set_cons_succ]
        refine takeH (i := 8) (v := ?vv29) 40 rfl rfl (by kernel_rfl) (by kernel_rfl) (by kernel_rfl) (fun _ _ _ h => h) (Or.inl ⟨by kernel_rfl, ?yy29⟩) (by assumption) ?_
        case yy29 => intro w hSw; (try dsimp only at hSw); go_simp; (try with_reducible rfl)
        simp only [List.setIfInBounds_toArray, List.set_cons_zero, List.set_cons_succ]
        refine takeH (i := 9) (v := ?vv30) 41 rfl rfl (by kernel_rfl) (by kernel_rfl) (by kernel_rfl) (fun _ _ _ h => h) (Or.inl ⟨by kernel_rfl, ?yy30⟩) (by assumption) ?_
        case yy30 => intro w hSw; (try dsimp only at hSw); go_simp; (try with_reducible rfl)
        simp only [List.setIfInBounds_toArray, List.set_cons_zero, List.set_cons_succ]
        refine takeH (i := 10) (v := ?vv31) 42 rfl rfl (by kernel_rfl) (by kernel_rfl) (by kernel_rfl) (fun _ _ _ h => h) (Or.inl ⟨by kernel_rfl, ?yy31⟩) (by assumption) ?_
        case yy31 => intro w hSw; (try dsimp only at hSw); go_simp; (try with_reducible rfl)
        simp only [List.setIfInBounds_toArray, List.set_cons_zero, List.set_cons_succ]
        refine takeH (i := 11) (v := ?vv32) 43 rfl rfl (by kernel_rfl) (by kernel_rfl) (by kernel_rfl) (fun _ _ _ h => h) (Or.inl ⟨by kernel_rfl, ?yy32⟩) (by assumption) ?_
        case yy32 => intro w hSw; (try dsimp only at hSw); go_simp; (try with_reducible rfl)
        simp only [List.setIfInBounds_toArray, List.set_cons_zero, List.set_cons_succ]
        refine takeH (i := 12) (v := ?vv33) 44 rfl rfl (by kernel_rfl) (by kernel_rfl) (by kernel_rfl) (fun _ _ _ h => h) (Or.inl ⟨by kernel_rfl, ?yy33⟩) (by assumption) ?_
        case yy33 => intro w hSw; (try dsimp only at hSw); go_simp; (try with_reducible rfl)
        simp only [List.setIfInBounds_toArray, List.set_cons_zero, List.set_cons_succ]
        refine takeH (i := 13) (v := ?vv34) 45 rfl rfl (by kernel_rfl) (by kernel_rfl) (by kernel_rfl) (fun _ _ _ h => h) (Or.inl ⟨by kernel_rfl, ?yy34⟩) (by assumption) ?_
        case yy34 => intro w hSw; (try dsimp only at hSw); go_simp; (try with_reducible rfl)
        simp only [List.setIfInBounds_toArray, List.set_cons_zero, List.set_cons_succ]
        refine takeH (i := 14) (v := ?vv35) 46 rfl rfl (by kernel_rfl) (by kernel_rfl) (by kernel_rfl) (fun _ _ _ h => h) (Or.inl ⟨by kernel_rfl, ?yy35⟩) (by assumption) ?_
        case yy35 => intro w hSw; (try dsimp only at hSw); go_simp; (try with_reducible rfl)
        simp only [List.setIfInBounds_toArray, List.set_cons_zero, List.set_cons_succ]
        refine takeH (i := 15) (v := ?vv36) 47 rfl rfl (by kernel_rfl) (by kernel_rfl) (by kernel_rfl) (fun _ _ _ h => h) (Or.inl ⟨by kernel_rfl, ?yy36⟩) (by assumption) ?_
        case yy36 => intro w hSw; (try dsimp only at hSw); go_simp; (try with_reducible rfl)
        simp only [List.setIfInBounds_toArray, List.set_cons_zero, List.set_cons_succ]
        refine takeH (i := 16) (v := ?vv37) 48 rfl rfl (by kernel_rfl) (by kernel_rfl) (by kernel_rfl) (fun _ _ _ h => h) (Or.inl ⟨by kernel_rfl, ?yy37⟩) (by assumption) ?_
        case yy37 => intro w hSw; (try dsimp only at hSw); go_simp; (try with_reducible rfl)
        simp only [List.setIfInBounds_toArray, List.set_cons_zero, List.set_cons_succ]
        refine takeH (i := 17) (v := ?vv38) 49 rfl rfl (by kernel_rfl) (by kernel_rfl) (by kernel_rfl) (fun _ _ _ h => h) (Or.inl ⟨by kernel_rfl, ?yy38⟩) (by assumption) ?_
        case yy38 => intro w hSw; (try dsimp only at hSw); go_simp; (try with_reducible rfl)
        simp only [List.setIfInBounds_toArray, List.set_cons_zero, List.set_cons_succ]
        refine wpAnyH_ready (rs := [18]) (by kernel_rfl) (by simp) ?_
        refine (AllReadyH.cons rfl (fun K hK => ?_) AllReadyH.nil)
        go_simp
        (refine (works_any _ (HL4.out.below qhc2)).mono ?_; rintro er qu3 ⟨rfl, hd3⟩)
        (try go_wp2_with fail)
        refine hK.out _ _ ?_ (fun hHeld => ?_)
        · exact ⟨hHeld.1.call hd3, hHeld.2.call hd3⟩
        clear hK K
        (try simp only [Act.put, List.setIfInBounds_toArray, List.set_cons_zero, List.set_cons_succ])
        have qhc3 := btrans qhc2 qhc2.size hd3
        refine takeH (i := 19) (v := ?vv39) 51 rfl rfl (by kernel_rfl) (by kernel_rfl) (by kernel_rfl) (fun _ _ _ h => h) (Or.inl ⟨by kernel_rfl, ?yy39⟩) (by assumption) ?_
        case yy39 => intro w hSw; (try dsimp only at hSw); go_simp; (try with_reducible rfl)
        simp only [List.setIfInBounds_toArray, List.set_cons_zero, List.set_cons_succ]
        refine takeH (i := 20) (v := ?vv40) 4 rfl rfl (by kernel_rfl) (by kernel_rfl) (by kernel_rfl) (fun _ _ _ h => h) (Or.inl ⟨by kernel_rfl, ?yy40⟩) (by assumption) ?_
        case yy40 => intro w hSw; (try dsimp only at hSw); go_simp; (try with_reducible rfl)
        simp only [List.setIfInBounds_toArray, List.set_cons_zero, List.set_cons_succ]
        refine wpAnyH_done (by kernel_rfl) ?_ _
        go_wp2_with fail
        go_ret
        exact ⟨rfl, btrans HB.out HB.out.size qhc3⟩
  have t1 : (a.k == b.k) = true := by rw [beq_iff_eq]; exact e1
  by_cases e2 : a.n = b.n
  rotate_left
  · have t2 : (a.n == b.n) = false := by rw [beq_eq_false_iff_ne]; exact e2
    clear e1 e2
    have HE := Lib.hid hab; clear hab
    cases hva : vaB a with
    | false =>
      have HVA := Lib.hid hva; clear hva
      have hb0 := (((Below.refl w.heap.size w).alloc (Nat.le_refl _) (.cells #[.int .i64 a.k, .int .i64 a.n, .string (bs a.s)] 23)).alloc (by simp) (.cells #[.int .i64 b.k, .int .i64 b.n, .string (bs b.s)] 23))
      have h_HX := ((Bx.new w #[.int .i64 a.k, .int .i64 a.n, .string (bs a.s)] 23).alloc (.cells #[.int .i64 b.k, .int .i64 b.n, .string (bs b.s)] 23))
      have h_HY := (Bx.new (w.alloc (.cells #[.int .i64 a.k, .int .i64 a.n, .string (bs a.s)] 23)) #[.int .i64 b.k, .int .i64 b.n, .string (bs b.s)] 23)
      rw [show (w.alloc (.cells #[.int .i64 a.k, .int .i64 a.n, .string (bs a.s)] 23)).heap.size = w.heap.size + 1 by simp] at h_HY
      have HB := Lib.hid hb0; have HX := Lib.hid h_HX; have HY := Lib.hid h_HY
      clear hb0 h_HX h_HY
      go_enter Tryd.func8, Tryd.ntmps8
      go_upto_region 1 with (fail)
      generalize hW0 : (w.alloc (.cells #[.int .i64 a.k, .int .i64 a.n, .string (bs a.s)] 23)).alloc (.cells #[.int .i64 b.k, .int .i64 b.n, .string (bs b.s)] 23) = v0 at HB HX HY ⊢
      clear hW0
      have x0 : v0.cell? ⟨w.heap.size, 0, none⟩ = some (.int .i64 a.k) := HX.out.cell 0
      have x1 : v0.cell? ⟨w.heap.size, 1, none⟩ = some (.int .i64 a.n) := HX.out.cell 1
      have x2 : v0.cell? ⟨w.heap.size, 2, none⟩ = some (.string (bs a.s)) := HX.out.cell 2
      have y0 : v0.cell? ⟨(w.heap.size + 1), 0, none⟩ = some (.int .i64 b.k) := HY.out.cell 0
      have y1 : v0.cell? ⟨(w.heap.size + 1), 1, none⟩ = some (.int .i64 b.n) := HY.out.cell 1
      have y2 : v0.cell? ⟨(w.heap.size + 1), 2, none⟩ = some (.string (bs b.s)) := HY.out.cell 2
      go_wp2_with fail
      refine (RVValid_any a hl7a _).mono ?_
      rw [HVA.out]
      rintro er w1 ⟨rfl, hb1⟩
      clear x0 x1 x2
      clear y0 y1 y2
      have HX := Lib.hid (HX.out.call hb1); have HY := Lib.hid (HY.out.call hb1); have HB := Lib.hid (btrans HB.out HB.out.size hb1); clear hb1
      go_wp2_with fail
      refine (works_any _ (hL.below HB.out)).mono ?_
      rintro er wz ⟨rfl, hbz⟩
      go_wp2
      go_ret
      exact ⟨rfl, btrans HB.out HB.out.size hbz⟩
    | true =>
      cases hvb : vaB b with
      | false =>
        have HVA := Lib.hid hva; have HVB := Lib.hid hvb; clear hva hvb
        have hb0 := (((Below.refl w.heap.size w).alloc (Nat.le_refl _) (.cells #[.int .i64 a.k, .int .i64 a.n, .string (bs a.s)] 23)).alloc (by simp) (.cells #[.int .i64 b.k, .int .i64 b.n, .string (bs b.s)] 23))
        have h_HX := ((Bx.new w #[.int .i64 a.k, .int .i64 a.n, .string (bs a.s)] 23).alloc (.cells #[.int .i64 b.k, .int .i64 b.n, .string (bs b.s)] 23))
        have h_HY := (Bx.new (w.alloc (.cells #[.int .i64 a.k, .int .i64 a.n, .string (bs a.s)] 23)) #[.int .i64 b.k, .int .i64 b.n, .string (bs b.s)] 23)
        rw [show (w.alloc (.cells #[.int .i64 a.k, .int .i64 a.n, .string (bs a.s)] 23)).heap.size = w.heap.size + 1 by simp] at h_HY
        have HB := Lib.hid hb0; have HX := Lib.hid h_HX; have HY := Lib.hid h_HY
        clear hb0 h_HX h_HY
        go_enter Tryd.func8, Tryd.ntmps8
        go_upto_region 1 with (fail)
        generalize hW0 : (w.alloc (.cells #[.int .i64 a.k, .int .i64 a.n, .string (bs a.s)] 23)).alloc (.cells #[.int .i64 b.k, .int .i64 b.n, .string (bs b.s)] 23) = v0 at HB HX HY ⊢
        clear hW0
        have x0 : v0.cell? ⟨w.heap.size, 0, none⟩ = some (.int .i64 a.k) := HX.out.cell 0
        have x1 : v0.cell? ⟨w.heap.size, 1, none⟩ = some (.int .i64 a.n) := HX.out.cell 1
        have x2 : v0.cell? ⟨w.heap.size, 2, none⟩ = some (.string (bs a.s)) := HX.out.cell 2
        have y0 : v0.cell? ⟨(w.heap.size + 1), 0, none⟩ = some (.int .i64 b.k) := HY.out.cell 0
        have y1 : v0.cell? ⟨(w.heap.size + 1), 1, none⟩ = some (.int .i64 b.n) := HY.out.cell 1
        have y2 : v0.cell? ⟨(w.heap.size + 1), 2, none⟩ = some (.string (bs b.s)) := HY.out.cell 2
        go_wp2_with fail
        refine (RVValid_any a hl7a _).mono ?_
        rw [HVA.out]
        rintro er w1 ⟨rfl, hb1⟩
        clear x0 x1 x2
        clear y0 y1 y2
        have HX := Lib.hid (HX.out.call hb1); have HY := Lib.hid (HY.out.call hb1); have HB := Lib.hid (btrans HB.out HB.out.size hb1); clear hb1
        have x0 : w1.cell? ⟨w.heap.size, 0, none⟩ = some (.int .i64 a.k) := HX.out.cell 0
        have x1 : w1.cell? ⟨w.heap.size, 1, none⟩ = some (.int .i64 a.n) := HX.out.cell 1
        have x2 : w1.cell? ⟨w.heap.size, 2, none⟩ = some (.string (bs a.s)) := HX.out.cell 2
        have y0 : w1.cell? ⟨(w.heap.size + 1), 0, none⟩ = some (.int .i64 b.k) := HY.out.cell 0
        have y1 : w1.cell? ⟨(w.heap.size + 1), 1, none⟩ = some (.int .i64 b.n) := HY.out.cell 1
        have y2 : w1.cell? ⟨(w.heap.size + 1), 2, none⟩ = some (.string (bs b.s)) := HY.out.cell 2
        go_wp2_with fail
        refine (RVValid_any b hl7b _).mono ?_
        rw [HVB.out]
        rintro er w2 ⟨rfl, hb1⟩
        clear x0 x1 x2
        clear y0 y1 y2
        have HX := Lib.hid (HX.out.call hb1); have HY := Lib.hid (HY.out.call hb1); have HB := Lib.hid (btrans HB.out HB.out.size hb1); clear hb1
        go_wp2_with fail
        refine (works_any _ (hL.below HB.out)).mono ?_
        rintro er wz ⟨rfl, hbz⟩
        go_wp2
        go_ret
        exact ⟨rfl, btrans HB.out HB.out.size hbz⟩
      | true =>
        have hl6a : a.s.length ≤ 1000000 := by have := vaB_len hva; omega
        have hl6b : b.s.length ≤ 1000000 := by have := vaB_len hvb; omega
        have hf : fmtV a ≠ fmtV b := fun h => HE.out (fmt_inj a b hn0a hn1a hn0b hn1b hva hvb h)
        have he1 : (encV b).take (encV a).length ≠ encV a := fun h => HE.out (enc_free a b hn0a hn1a hn0b hn1b hva hvb h)
        have he2 : (encV a).take (encV b).length ≠ encV b := fun h => HE.out (enc_free b a hn0b hn1b hn0a hn1a hvb hva h).symm
        have hpa := encV_pos a; have hpb := encV_pos b
        obtain ⟨S, hS⟩ : ∃ S, encV a = S := ⟨_, rfl⟩
        obtain ⟨T, hT⟩ : ∃ T, encV b = T := ⟨_, rfl⟩
        obtain ⟨F, hF⟩ : ∃ F, fmtV a = F := ⟨_, rfl⟩
        obtain ⟨G, hG⟩ : ∃ G, fmtV b = G := ⟨_, rfl⟩
        rw [hS, hT] at he1 he2
        rw [hS] at hpa
        rw [hT] at hpb
        rw [hF, hG] at hf
        have q1 : (F != G) = true := by rw [bne_iff_ne]; exact hf
        have q2 : S.isEmpty = false := by cases S with | nil => simp at hpa | cons c r => rfl
        have q3 : T.isEmpty = false := by cases T with | nil => simp at hpb | cons c r => rfl
        have HQ1 := Lib.hid (show ¬ T.take S.length = S from he1)
        have HQ2 := Lib.hid (show ¬ S.take T.length = T from he2)
        have q4 : (F == G) = false := by rw [beq_eq_false_iff_ne]; exact hf
        have HVA := Lib.hid hva; have HVB := Lib.hid hvb; have HSA := Lib.hid hS; have HTB := Lib.hid hT; have HFA := Lib.hid hF; have HFB := Lib.hid hG; clear hva hvb hS hT hF hG hf he1 he2 hpa hpb
        have hb0 := (((Below.refl w.heap.size w).alloc (Nat.le_refl _) (.cells #[.int .i64 a.k, .int .i64 a.n, .string (bs a.s)] 23)).alloc (by simp) (.cells #[.int .i64 b.k, .int .i64 b.n, .string (bs b.s)] 23))
        have h_HX := ((Bx.new w #[.int .i64 a.k, .int .i64 a.n, .string (bs a.s)] 23).alloc (.cells #[.int .i64 b.k, .int .i64 b.n, .string (bs b.s)] 23))
        have h_HY := (Bx.new (w.alloc (.cells #[.int .i64 a.k, .int .i64 a.n, .string (bs a.s)] 23)) #[.int .i64 b.k, .int .i64 b.n, .string (bs b.s)] 23)
        rw [show (w.alloc (.cells #[.int .i64 a.k, .int .i64 a.n, .string (bs a.s)] 23)).heap.size = w.heap.size + 1 by simp] at h_HY
        have HB := Lib.hid hb0; have HX := Lib.hid h_HX; have HY := Lib.hid h_HY
        clear hb0 h_HX h_HY
        go_enter Tryd.func8, Tryd.ntmps8
        go_upto_region 1 with (fail)
        generalize hW0 : (w.alloc (.cells #[.int .i64 a.k, .int .i64 a.n, .string (bs a.s)] 23)).alloc (.cells #[.int .i64 b.k, .int .i64 b.n, .string (bs b.s)] 23) = v0 at HB HX HY ⊢
        clear hW0
        have x0 : v0.cell? ⟨w.heap.size, 0, none⟩ = some (.int .i64 a.k) := HX.out.cell 0
        have x1 : v0.cell? ⟨w.heap.size, 1, none⟩ = some (.int .i64 a.n) := HX.out.cell 1
        have x2 : v0.cell? ⟨w.heap.size, 2, none⟩ = some (.string (bs a.s)) := HX.out.cell 2
        have y0 : v0.cell? ⟨(w.heap.size + 1), 0, none⟩ = some (.int .i64 b.k) := HY.out.cell 0
        have y1 : v0.cell? ⟨(w.heap.size + 1), 1, none⟩ = some (.int .i64 b.n) := HY.out.cell 1
        have y2 : v0.cell? ⟨(w.heap.size + 1), 2, none⟩ = some (.string (bs b.s)) := HY.out.cell 2
        go_wp2_with fail
        refine (RVValid_any a hl7a _).mono ?_
        rw [HVA.out]
        rintro er w1 ⟨rfl, hb1⟩
        clear x0 x1 x2
        clear y0 y1 y2
        have HX := Lib.hid (HX.out.call hb1); have HY := Lib.hid (HY.out.call hb1); have HB := Lib.hid (btrans HB.out HB.out.size hb1); clear hb1
        have x0 : w1.cell? ⟨w.heap.size, 0, none⟩ = some (.int .i64 a.k) := HX.out.cell 0
        have x1 : w1.cell? ⟨w.heap.size, 1, none⟩ = some (.int .i64 a.n) := HX.out.cell 1
        have x2 : w1.cell? ⟨w.heap.size, 2, none⟩ = some (.string (bs a.s)) := HX.out.cell 2
        have y0 : w1.cell? ⟨(w.heap.size + 1), 0, none⟩ = some (.int .i64 b.k) := HY.out.cell 0
        have y1 : w1.cell? ⟨(w.heap.size + 1), 1, none⟩ = some (.int .i64 b.n) := HY.out.cell 1
        have y2 : w1.cell? ⟨(w.heap.size + 1), 2, none⟩ = some (.string (bs b.s)) := HY.out.cell 2
        go_wp2_with fail
        refine (RVValid_any b hl7b _).mono ?_
        rw [HVB.out]
        rintro er w2 ⟨rfl, hb1⟩
        clear x0 x1 x2
        clear y0 y1 y2
        have HX := Lib.hid (HX.out.call hb1); have HY := Lib.hid (HY.out.call hb1); have HB := Lib.hid (btrans HB.out HB.out.size hb1); clear hb1
        go_upto_region 3 with (fail)
        have hs0 : Bx w.heap.size #[.int .i64 a.k, .int .i64 a.n, .string (bs a.s)] 23 w2.drew ∧ Bx (w.heap.size + 1) #[.int .i64 b.k, .int .i64 b.n, .string (bs b.s)] 23 w2.drew := ⟨HX.out, HY.out⟩
        have HS0 := Lib.hid hs0; clear hs0
        go_wp2_with fail
        refine wp_region_held_drew (S := (fun w' => Bx w.heap.size #[.int .i64 a.k, .int .i64 a.n, .string (bs a.s)] 23 w' ∧ Bx (w.heap.size + 1) #[.int .i64 b.k, .int .i64 b.n, .string (bs b.s)] 23 w')) (by kernel_rfl) ?_ (fun hHeld => ?_)
        · exact HS0.out
        have phc0 : Below w2.heap.size w2 w2.drew := (Below.refl w2.heap.size w2).drew
        refine takeH (i := 0) (v := ?vv41) 21 rfl rfl (by kernel_rfl) (by kernel_rfl) (by kernel_rfl) (fun _ _ _ h => h) (Or.inl ⟨by kernel_rfl, ?yy41⟩) (by assumption) ?_
        case yy41 =>
          intro wq hSw
          have c0_0 : wq.cell? ⟨w.heap.size, 0, none⟩ = some (.int .i64 a.k) := (hSw.1).cell 0
          have c0_1 : wq.cell? ⟨w.heap.size, 1, none⟩ = some (.int .i64 a.n) := (hSw.1).cell 1
          have c0_2 : wq.cell? ⟨w.heap.size, 2, none⟩ = some (.string (bs a.s)) := (hSw.1).cell 2
          clear hSw
          go_simp
          (try with_reducible rfl)
        simp only [List.setIfInBounds_toArray, List.set_cons_zero, List.set_cons_succ]
        refine takeH (i := 2) (v := ?vv42) 23 rfl rfl (by kernel_rfl) (by kernel_rfl) (by kernel_rfl) (fun _ _ _ h => h) (Or.inl ⟨by kernel_rfl, ?yy42⟩) (by assumption) ?_
        case yy42 =>
          intro wq hSw
          have c1_0 : wq.cell? ⟨(w.heap.size + 1), 0, none⟩ = some (.int .i64 b.k) := (hSw.2).cell 0
          have c1_1 : wq.cell? ⟨(w.heap.size + 1), 1, none⟩ = some (.int .i64 b.n) := (hSw.2).cell 1
          have c1_2 : wq.cell? ⟨(w.heap.size + 1), 2, none⟩ = some (.string (bs b.s)) := (hSw.2).cell 2
          clear hSw
          go_simp
          (try with_reducible rfl)
        simp only [List.setIfInBounds_toArray, List.set_cons_zero, List.set_cons_succ]
        refine wpAnyH_ready (rs := [1]) (by kernel_rfl) (by simp) ?_
        refine (AllReadyH.cons rfl (fun K hK => ?_) AllReadyH.nil)
        go_simp
        (refine (VEncode_any a hn0a hn1a hl6a _).mono ?_; rw [HSA.out]; rintro er pu1 ⟨rfl, hd1⟩)
        (try go_wp2_with fail)
        refine hK.out _ _ ?_ (fun hHeld => ?_)
        · exact ⟨hHeld.1.call hd1, hHeld.2.call hd1⟩
        clear hK K
        (try simp only [Act.put, List.setIfInBounds_toArray, List.set_cons_zero, List.set_cons_succ])
        have phc1 := btrans phc0 phc0.size hd1
        refine wpAnyH_ready (rs := [3]) (by kernel_rfl) (by simp) ?_
        refine (AllReadyH.cons rfl (fun K hK => ?_) AllReadyH.nil)
        go_simp
        (refine (VEncode_any b hn0b hn1b hl6b _).mono ?_; rw [HTB.out]; rintro er pu2 ⟨rfl, hd2⟩)
        (try go_wp2_with fail)
        refine hK.out _ _ ?_ (fun hHeld => ?_)
        · exact ⟨hHeld.1.call hd2, hHeld.2.call hd2⟩
        clear hK K
        (try simp only [Act.put, List.setIfInBounds_toArray, List.set_cons_zero, List.set_cons_succ])
        have phc2 := btrans phc1 phc1.size hd2
        refine takeH (i := 4) (v := ?vv43) 5 rfl rfl (by kernel_rfl) (by kernel_rfl) (by kernel_rfl) (fun _ _ _ h => h) (Or.inl ⟨by kernel_rfl, ?yy43⟩) (by assumption) ?_
        case yy43 => intro w hSw; (try dsimp only at hSw); go_simp; (try with_reducible rfl)
        simp only [List.setIfInBounds_toArray, List.set_cons_zero, List.set_cons_succ]
        refine takeH (i := 5) (v := ?vv44) 6 rfl rfl (by kernel_rfl) (by kernel_rfl) (by kernel_rfl) (fun _ _ _ h => h) (Or.inl ⟨by kernel_rfl, ?yy44⟩) (by assumption) ?_
        case yy44 => intro w hSw; (try dsimp only at hSw); go_simp; (try with_reducible rfl)
        simp only [List.setIfInBounds_toArray, List.set_cons_zero, List.set_cons_succ]
        refine wpAnyH_done (by kernel_rfl) ?_ _
        have HX := Lib.hid hHeld.1; have HY := Lib.hid hHeld.2; have HB := Lib.hid (btrans HB.out HB.out.size phc2); clear hHeld phc0 phc1 phc2 hd1 hd2 HS0
        by_cases hlt : T.length < S.length
        · have hlt' : (T.length : Int) < (S.length : Int) := by omega
          have g1 : T.length ≤ S.length := by omega
          have g2 : (T.length : Int) ≤ (S.length : Int) := by omega
          have g3 := HQ2.out
          have g4 : (S.take T.length == T) = false := by rw [beq_eq_false_iff_ne]; exact g3
          go_upto_region 6 with (fail)
          have hs0 : Bx w.heap.size #[.int .i64 a.k, .int .i64 a.n, .string (bs a.s)] 23 pu2.drew ∧ Bx (w.heap.size + 1) #[.int .i64 b.k, .int .i64 b.n, .string (bs b.s)] 23 pu2.drew := ⟨HX.out, HY.out⟩
          have HS0 := Lib.hid hs0; clear hs0
          have hL4 := hL.below HB.out
          have HL4 := Lib.hid hL4; clear hL4
          go_wp2_with fail
          refine wp_region_held_drew (S := (fun w' => Bx w.heap.size #[.int .i64 a.k, .int .i64 a.n, .string (bs a.s)] 23 w' ∧ Bx (w.heap.size + 1) #[.int .i64 b.k, .int .i64 b.n, .string (bs b.s)] 23 w')) (by kernel_rfl) ?_ (fun hHeld => ?_)
          · exact HS0.out
          have qhc0 : Below pu2.heap.size pu2 pu2.drew := (Below.refl pu2.heap.size pu2).drew
          refine takeH (i := 0) (v := ?vv45) 32 rfl rfl (by kernel_rfl) (by kernel_rfl) (by kernel_rfl) (fun _ _ _ h => h) (Or.inl ⟨by kernel_rfl, ?yy45⟩) (by assumption) ?_
          case yy45 =>
            intro wq hSw
            have c0_0 : wq.cell? ⟨w.heap.size, 0, none⟩ = some (.int .i64 a.k) := (hSw.1).cell 0
            have c0_1 : wq.cell? ⟨w.heap.size, 1, none⟩ = some (.int .i64 a.n) := (hSw.1).cell 1
            have c0_2 : wq.cell? ⟨w.heap.size, 2, none⟩ = some (.string (bs a.s)) := (hSw.1).cell 2
            clear hSw
            go_simp
            (try with_reducible rfl)
          simp only [List.setIfInBounds_toArray, List.set_cons_zero, List.set_cons_succ]
          refine takeH (i := 2) (v := ?vv46) 34 rfl rfl (by kernel_rfl) (by kernel_rfl) (by kernel_rfl) (fun _ _ _ h => h) (Or.inl ⟨by kernel_rfl, ?yy46⟩) (by assumption) ?_
          case yy46 =>
            intro wq hSw
            have c1_0 : wq.cell? ⟨(w.heap.size + 1), 0, none⟩ = some (.int .i64 b.k) := (hSw.2).cell 0
            have c1_1 : wq.cell? ⟨(w.heap.size + 1), 1, none⟩ = some (.int .i64 b.n) := (hSw.2).cell 1
            have c1_2 : wq.cell? ⟨(w.heap.size + 1), 2, none⟩ = some (.string (bs b.s)) := (hSw.2).cell 2
            clear hSw
            go_simp
            (try with_reducible rfl)
          simp only [List.setIfInBounds_toArray, List.set_cons_zero, List.set_cons_succ]
          refine wpAnyH_ready (rs := [1]) (by kernel_rfl) (by simp) ?_
          refine (AllReadyH.cons rfl (fun K hK => ?_) AllReadyH.nil)
          go_simp
          (refine (VFormat_any a hn0a hn1a hl6a _ (HL4.out.below qhc0)).mono ?_; rw [HFA.out]; rintro er qu1 ⟨rfl, hd1⟩)
          (try go_wp2_with fail)
          refine hK.out _ _ ?_ (fun hHeld => ?_)
          · exact ⟨hHeld.1.call hd1, hHeld.2.call hd1⟩
          clear hK K
          (try simp only [Act.put, List.setIfInBounds_toArray, List.set_cons_zero, List.set_cons_succ])
          have qhc1 := btrans qhc0 qhc0.size hd1
          refine wpAnyH_ready (rs := [3]) (by kernel_rfl) (by simp) ?_
          refine (AllReadyH.cons rfl (fun K hK => ?_) AllReadyH.nil)
          go_simp
          (refine (VFormat_any b hn0b hn1b hl6b _ (HL4.out.below qhc1)).mono ?_; rw [HFB.out]; rintro er qu2 ⟨rfl, hd2⟩)
          (try go_wp2_with fail)
          refine hK.out _ _ ?_ (fun hHeld => ?_)
          · exact ⟨hHeld.1.call hd2, hHeld.2.call hd2⟩
          clear hK K
          (try simp only [Act.put, List.setIfInBounds_toArray, List.set_cons_zero, List.set_cons_succ])
          have qhc2 := btrans qhc1 qhc1.size hd2
          refine takeH (i := 4) (v := ?vv47) 36 rfl rfl (by kernel_rfl) (by kernel_rfl) (by kernel_rfl) (fun _ _ _ h => h) (Or.inl ⟨by kernel_rfl, ?yy47⟩) (by assumption) ?_
          case yy47 => intro w hSw; (try dsimp only at hSw); go_simp; (try with_reducible rfl)
          simp only [List.setIfInBounds_toArray, List.set_cons_zero, List.set_cons_succ]
          refine takeH (i := 5) (v := ?vv48) 37 rfl rfl (by kernel_rfl) (by kernel_rfl) (by kernel_rfl) (fun _ _ _ h => h) (Or.inl ⟨by kernel_rfl, ?yy48⟩) (by assumption) ?_
          case yy48 => intro w hSw; (try dsimp only at hSw); go_simp; (try with_reducible rfl)
          simp only [List.setIfInBounds_toArray, List.set_cons_zero, List.set_cons_succ]
          refine takeH (i := 6) (v := ?vv49) 38 rfl rfl (by kernel_rfl) (by kernel_rfl) (by kernel_rfl) (fun _ _ _ h => h) (Or.inl ⟨by kernel_rfl, ?yy49⟩) (by assumption) ?_
          case yy49 => intro w hSw; (try dsimp only at hSw); go_simp; (try with_reducible rfl)
          simp only [List.setIfInBounds_toArray, List.set_cons_zero, List.set_cons_succ]
          refine takeH (i := 7) (v := ?vv50) 39 rfl rfl (by kernel_rfl) (by kernel_rfl) (by kernel_rfl) (fun _ _ _ h => h) (Or.inl ⟨by kernel_rfl, ?yy50⟩) (by assumption) ?_
          case yy50 => intro w hSw; (try dsimp only at hSw); go_simp; (try with_reducible rfl)
          simp only [List.setIfInBounds_toArray, List.set_cons_zero, List.set_cons_succ]
          refine takeH (i := 8) (v := ?vv51) 40 rfl rfl (by kernel_rfl) (by kernel_rfl) (by kernel_rfl) (fun _ _ _ h => h) (Or.inl ⟨by kernel_rfl, ?yy51⟩) (by assumption) ?_
          case yy51 => intro w hSw; (try dsimp only at hSw); go_simp; (try with_reducible rfl)
          simp only [List.setIfInBounds_toArray, List.set_cons_zero, List.set_cons_succ]
          refine takeH (i := 9) (v := ?vv52) 41 rfl rfl (by kernel_rfl) (by kernel_rfl) (by kernel_rfl) (fun _ _ _ h => h) (Or.inl ⟨by kernel_rfl, ?yy52⟩) (by assumption) ?_
          case yy52 => intro w hSw; (try dsimp only at hSw); go_simp; (try with_reducible rfl)
          simp only [List.setIfInBounds_toArray, List.set_cons_zero, List.set_cons_succ]
          refine takeH (i := 10) (v := ?vv53) 42 rfl rfl (by kernel_rfl) (by kernel_rfl) (by kernel_rfl) (fun _ _ _ h => h) (Or.inl ⟨by kernel_rfl, ?yy53⟩) (by assumption) ?_
          case yy53 => intro w hSw; (try dsimp only at hSw); go_simp; (try with_reducible rfl)
          simp only [List.setIfInBounds_toArray, List.set_cons_zero, List.set_cons_succ]
          refine takeH (i := 11) (v := ?vv54) 43 rfl rfl (by kernel_rfl) (by kernel_rfl) (by kernel_rfl) (fun _ _ _ h => h) (Or.inl ⟨by kernel_rfl, ?yy54⟩) (by assumption) ?_
          case yy54 => intro w hSw; (try dsimp only at hSw); go_simp; (try with_reducible rfl)
          simp only [List.setIfInBounds_toArray, List.set_cons_zero, List.set_cons_succ]
          refine takeH (i := 12) (v := ?vv55) 44 rfl rfl (by kernel_rfl) (by kernel_rfl) (by kernel_rfl) (fun _ _ _ h => h) (Or.inl ⟨by kernel_rfl, ?yy55⟩) (by assumption) ?_
          case yy55 => intro w hSw; (try dsimp only at hSw); go_simp; (try with_reducible rfl)
          simp only [List.setIfInBounds_toArray, List.set_cons_zero, List.set_cons_succ]
          refine takeH (i := 13) (v := ?vv56) 45 rfl rfl (by kernel_rfl) (by kernel_rfl) (by kernel_rfl) (fun _ _ _ h => h) (Or.inl ⟨by kernel_rfl, ?yy56⟩) (by assumption) ?_
          case yy56 => intro w hSw; (try dsimp only at hSw); go_simp; (try with_reducible rfl)
          simp only [List.setIfInBounds_toArray, List.set_cons_zero, List.set_cons_succ]
          refine takeH (i := 14) (v := ?vv57) 46 rfl rfl (by kernel_rfl) (by kernel_rfl) (by kernel_rfl) (fun _ _ _ h => h) (Or.inl ⟨by kernel_rfl, ?yy57⟩) (by assumption) ?_
          case yy57 => intro w hSw; (try dsimp only at hSw); go_simp; (try with_reducible rfl)
          simp only [List.setIfInBounds_toArray, List.set_cons_zero, List.set_cons_succ]
          refine takeH (i := 15) (v := ?vv58) 47 rfl rfl (by kernel_rfl) (by kernel_rfl) (by kernel_rfl) (fun _ _ _ h => h) (Or.inl ⟨by kernel_rfl, ?yy58⟩) (by assumption) ?_
          case yy58 => intro w hSw; (try dsimp only at hSw); go_simp; (try with_reducible rfl)
          simp only [List.setIfInBounds_toArray, List.set_cons_zero, List.set_cons_succ]
          refine takeH (i := 16) (v := ?vv59) 48 rfl rfl (by kernel_rfl) (by kernel_rfl) (by kernel_rfl) (fun _ _ _ h => h) (Or.inl ⟨by kernel_rfl, ?yy59⟩) (by assumption) ?_
          case yy59 => intro w hSw; (try dsimp only at hSw); go_simp; (try with_reducible rfl)
          simp only [List.setIfInBounds_toArray, List.set_cons_zero, List.set_cons_succ]
          refine takeH (i := 17) (v := ?vv60) 49 rfl rfl (by kernel_rfl) (by kernel_rfl) (by kernel_rfl) (fun _ _ _ h => h) (Or.inl ⟨by kernel_rfl, ?yy60⟩) (by assumption) ?_
          case yy60 => intro w hSw; (try dsimp only at hSw); go_simp; (try with_reducible rfl)
          simp only [List.setIfInBounds_toArray, List.set_cons_zero, List.set_cons_succ]
          refine wpAnyH_ready (rs := [18]) (by kernel_rfl) (by simp) ?_
          refine (AllReadyH.cons rfl (fun K hK => ?_) AllReadyH.nil)
          go_simp
          (refine (works_any _ (HL4.out.below qhc2)).mono ?_; rintro er qu3 ⟨rfl, hd3⟩)
          (try go_wp2_with fail)
          refine hK.out _ _ ?_ (fun hHeld => ?_)
          · exact ⟨hHeld.1.call hd3, hHeld.2.call hd3⟩
          clear hK K
          (try simp only [Act.put, List.setIfInBounds_toArray, List.set_cons_zero, List.set_cons_succ])
          have qhc3 := btrans qhc2 qhc2.size hd3
          refine takeH (i := 19) (v := ?vv61) 51 rfl rfl (by kernel_rfl) (by kernel_rfl) (by kernel_rfl) (fun _ _ _ h => h) (Or.inl ⟨by kernel_rfl, ?yy61⟩) (by assumption) ?_
          case yy61 => intro w hSw; (try dsimp only at hSw); go_simp; (try with_reducible rfl)
          simp only [List.setIfInBounds_toArray, List.set_cons_zero, List.set_cons_succ]
          refine takeH (i := 20) (v := ?vv62) 4 rfl rfl (by kernel_rfl) (by kernel_rfl) (by kernel_rfl) (fun _ _ _ h => h) (Or.inl ⟨by kernel_rfl, ?yy62⟩) (by assumption) ?_
          case yy62 => intro w hSw; (try dsimp only at hSw); go_simp; (try with_reducible rfl)
          simp only [List.setIfInBounds_toArray, List.set_cons_zero, List.set_cons_succ]
          refine wpAnyH_done (by kernel_rfl) ?_ _
          go_wp2_with fail
          go_ret
          exact ⟨rfl, btrans HB.out HB.out.size qhc3⟩
        have hlt' : ¬ (T.length : Int) < (S.length : Int) := by omega
        have g1 : S.length ≤ T.length := by omega
        have g2 : (S.length : Int) ≤ (T.length : Int) := by omega
        have g3 := HQ1.out
        have g4 : (T.take S.length == S) = false := by rw [beq_eq_false_iff_ne]; exact g3
        go_upto_region 6 with (fail)
        have hs0 : Bx w.heap.size #[.int .i64 a.k, .int .i64 a.n, .string (bs a.s)] 23 pu2.drew ∧ Bx (w.heap.size + 1) #[.int .i64 b.k, .int .i64 b.n, .string (bs b.s)] 23 pu2.drew := ⟨HX.out, HY.out⟩
        have HS0 := Lib.hid hs0; clear hs0
        have hL4 := hL.below HB.out
        have HL4 := Lib.hid hL4; clear hL4
        go_wp2_with fail
        refine wp_region_held_drew (S := (fun w' => Bx w.heap.size #[.int .i64 a.k, .int .i64 a.n, .string (bs a.s)] 23 w' ∧ Bx (w.heap.size + 1) #[.int .i64 b.k, .int .i64 b.n, .string (bs b.s)] 23 w')) (by kernel_rfl) ?_ (fun hHeld => ?_)
        · exact HS0.out
        have qhc0 : Below pu2.heap.size pu2 pu2.drew := (Below.refl pu2.heap.size pu2).drew
        refine takeH (i := 0) (v := ?vv63) 32 rfl rfl (by kernel_rfl) (by kernel_rfl) (by kernel_rfl) (fun _ _ _ h => h) (Or.inl ⟨by kernel_rfl, ?yy63⟩) (by assumption) ?_
        case yy63 =>
          intro wq hSw
          have c0_0 : wq.cell? ⟨w.heap.size, 0, none⟩ = some (.int .i64 a.k) := (hSw.1).cell 0
          have c0_1 : wq.cell? ⟨w.heap.size, 1, none⟩ = some (.int .i64 a.n) := (hSw.1).cell 1
          have c0_2 : wq.cell? ⟨w.heap.size, 2, none⟩ = some (.string (bs a.s)) := (hSw.1).cell 2
          clear hSw
          go_simp
          (try with_reducible rfl)
        simp only [List.setIfInBounds_toArray, List.set_cons_zero, List.set_cons_succ]
        refine takeH (i := 2) (v := ?vv64) 34 rfl rfl (by kernel_rfl) (by kernel_rfl) (by kernel_rfl) (fun _ _ _ h => h) (Or.inl ⟨by kernel_rfl, ?yy64⟩) (by assumption) ?_
        case yy64 =>
          intro wq hSw
          have c1_0 : wq.cell? ⟨(w.heap.size + 1), 0, none⟩ = some (.int .i64 b.k) := (hSw.2).cell 0
          have c1_1 : wq.cell? ⟨(w.heap.size + 1), 1, none⟩ = some (.int .i64 b.n) := (hSw.2).cell 1
          have c1_2 : wq.cell? ⟨(w.heap.size + 1), 2, none⟩ = some (.string (bs b.s)) := (hSw.2).cell 2
          clear hSw
          go_simp
          (try with_reducible rfl)
        simp only [List.setIfInBounds_toArray, List.set_cons_zero, List.set_cons_succ]
        refine wpAnyH_ready (rs := [1]) (by kernel_rfl) (by simp) ?_
        refine (AllReadyH.cons rfl (fun K hK => ?_) AllReadyH.nil)
        go_simp
        (refine (VFormat_any a hn0a hn1a hl6a _ (HL4.out.below qhc0)).mono ?_; rw [HFA.out]; rintro er qu1 ⟨rfl, hd1⟩)
        (try go_wp2_with fail)
        refine hK.out _ _ ?_ (fun hHeld => ?_)
        · exact ⟨hHeld.1.call hd1, hHeld.2.call hd1⟩
        clear hK K
        (try simp only [Act.put, List.setIfInBounds_toArray, List.set_cons_zero, List.set_cons_succ])
        have qhc1 := btrans qhc0 qhc0.size hd1
        refine wpAnyH_ready (rs := [3]) (by kernel_rfl) (by simp) ?_
        refine (AllReadyH.cons rfl (fun K hK => ?_) AllReadyH.nil)
        go_simp
        (refine (VFormat_any b hn0b hn1b hl6b _ (HL4.out.below qhc1)).mono ?_; rw [HFB.out]; rintro er qu2 ⟨rfl, hd2⟩)
        (try go_wp2_with fail)
        refine hK.out _ _ ?_ (fun hHeld => ?_)
        · exact ⟨hHeld.1.call hd2, hHeld.2.call hd2⟩
        clear hK K
        (try simp only [Act.put, List.setIfInBounds_toArray, List.set_cons_zero, List.set_cons_succ])
        have qhc2 := btrans qhc1 qhc1.size hd2
        refine takeH (i := 4) (v := ?vv65) 36 rfl rfl (by kernel_rfl) (by kernel_rfl) (by kernel_rfl) (fun _ _ _ h => h) (Or.inl ⟨by kernel_rfl, ?yy65⟩) (by assumption) ?_
        case yy65 => intro w hSw; (try dsimp only at hSw); go_simp; (try with_reducible rfl)
        simp only [List.setIfInBounds_toArray, List.set_cons_zero, List.set_cons_succ]
        refine takeH (i := 5) (v := ?vv66) 37 rfl rfl (by kernel_rfl) (by kernel_rfl) (by kernel_rfl) (fun _ _ _ h => h) (Or.inl ⟨by kernel_rfl, ?yy66⟩) (by assumption) ?_
        case yy66 => intro w hSw; (try dsimp only at hSw); go_simp; (try with_reducible rfl)
        simp only [List.setIfInBounds_toArray, List.set_cons_zero, List.set_cons_succ]
        refine takeH (i := 6) (v := ?vv67) 38 rfl rfl (by kernel_rfl) (by kernel_rfl) (by kernel_rfl) (fun _ _ _ h => h) (Or.inl ⟨by kernel_rfl, ?yy67⟩) (by assumption) ?_
        case yy67 => intro w hSw; (try dsimp only at hSw); go_simp; (try with_reducible rfl)
        simp only [List.setIfInBounds_toArray, List.set_cons_zero, List.set_cons_succ]
        refine takeH (i := 7) (v := ?vv68) 39 rfl rfl (by kernel_rfl) (by kernel_rfl) (by kernel_rfl) (fun _ _ _ h => h) (Or.inl ⟨by kernel_rfl, ?yy68⟩) (by assumption) ?_
        case yy68 => intro w hSw; (try dsimp only at hSw); go_simp; (try with_reducible rfl)
        simp only [List.setIfInBounds_toArray, List.set_cons_zero, List.set_cons_succ]
        refine takeH (i := 8) (v := ?vv69) 40 rfl rfl (by kernel_rfl) (by kernel_rfl) (by kernel_rfl) (fun _ _ _ h => h) (Or.inl ⟨by kernel_rfl, ?yy69⟩) (by assumption) ?_
        case yy69 => intro w hSw; (try dsimp only at hSw); go_simp; (try with_reducible rfl)
        simp only [List.setIfInBounds_toArray, List.set_cons_zero, List.set_cons_succ]
        refine takeH (i := 9) (v := ?vv70) 41 rfl rfl (by kernel_rfl) (by kernel_rfl) (by kernel_rfl) (fun _ _ _ h => h) (Or.inl ⟨by kernel_rfl, ?yy70⟩) (by assumption) ?_
        case yy70 => intro w hSw; (try dsimp only at hSw); go_simp; (try with_reducible rfl)
        simp only [List.setIfInBounds_toArray, List.set_cons_zero, List.set_cons_succ]
        refine takeH (i := 10) (v := ?vv71) 42 rfl rfl (by kernel_rfl) (by kernel_rfl) (by kernel_rfl) (fun _ _ _ h => h) (Or.inl ⟨by kernel_rfl, ?yy71⟩) (by assumption) ?_
        case yy71 => intro w hSw; (try dsimp only at hSw); go_simp; (try with_reducible rfl)
        simp only [List.setIfInBounds_toArray, List.set_cons_zero, List.set_cons_succ]
        refine takeH (i := 11) (v := ?vv72) 43 rfl rfl (by kernel_rfl) (by kernel_rfl) (by kernel_rfl) (fun _ _ _ h => h) (Or.inl ⟨by kernel_rfl, ?yy72⟩) (by assumption) ?_
        case yy72 => intro w hSw; (try dsimp only at hSw); go_simp; (try with_reducible rfl)
        simp only [List.setIfInBounds_toArray, List.set_cons_zero, List.set_cons_succ]
        refine takeH (i := 12) (v := ?vv73) 44 rfl rfl (by kernel_rfl) (by kernel_rfl) (by kernel_rfl) (fun _ _ _ h => h) (Or.inl ⟨by kernel_rfl, ?yy73⟩) (by assumption) ?_
        case yy73 => intro w hSw; (try dsimp only at hSw); go_simp; (try with_reducible rfl)
        simp only [List.setIfInBounds_toArray, List.set_cons_zero, List.set_cons_succ]
        refine takeH (i := 13) (v := ?vv74) 45 rfl rfl (by kernel_rfl) (by kernel_rfl) (by kernel_rfl) (fun _ _ _ h => h) (Or.inl ⟨by kernel_rfl, ?yy74⟩) (by assumption) ?_
        case yy74 => intro w hSw; (try dsimp only at hSw); go_simp; (try with_reducible rfl)
        simp only [List.setIfInBounds_toArray, List.set_cons_zero, List.set_cons_succ]
        refine takeH (i := 14) (v := ?vv75) 46 rfl rfl (by kernel_rfl) (by kernel_rfl) (by kernel_rfl) (fun _ _ _ h => h) (Or.inl ⟨by kernel_rfl, ?yy75⟩) (by assumption) ?_
        case yy75 => intro w hSw; (try dsimp only at hSw); go_simp; (try with_reducible rfl)
        simp only [List.setIfInBounds_toArray, List.set_cons_zero, List.set_cons_succ]
        refine takeH (i := 15) (v := ?vv76) 47 rfl rfl (by kernel_rfl) (by kernel_rfl) (by kernel_rfl) (fun _ _ _ h => h) (Or.inl ⟨by kernel_rfl, ?yy76⟩) (by assumption) ?_
        case yy76 => intro w hSw; (try dsimp only at hSw); go_simp; (try with_reducible rfl)
        simp only [List.setIfInBounds_toArray, List.set_cons_zero, List.set_cons_succ]
        refine takeH (i := 16) (v := ?vv77) 48 rfl rfl (by kernel_rfl) (by kernel_rfl) (by kernel_rfl) (fun _ _ _ h => h) (Or.inl ⟨by kernel_rfl, ?yy77⟩) (by assumption) ?_
        case yy77 => intro w hSw; (try dsimp only at hSw); go_simp; (try with_reducible rfl)
        simp only [List.setIfInBounds_toArray, List.set_cons_zero, List.set_cons_succ]
        refine takeH (i := 17) (v := ?vv78) 49 rfl rfl (by kernel_rfl) (by kernel_rfl) (by kernel_rfl) (fun _ _ _ h => h) (Or.inl ⟨by kernel_rfl, ?yy78⟩) (by assumption) ?_
        case yy78 => intro w hSw; (try dsimp only at hSw); go_simp; (try with_reducible rfl)
        simp only [List.setIfInBounds_toArray, List.set_cons_zero, List.set_cons_succ]
        refine wpAnyH_ready (rs := [18]) (by kernel_rfl) (by simp) ?_
        refine (AllReadyH.cons rfl (fun K hK => ?_) AllReadyH.nil)
        go_simp
        (refine (works_any _ (HL4.out.below qhc2)).mono ?_; rintro er qu3 ⟨rfl, hd3⟩)
        (try go_wp2_with fail)
        refine hK.out _ _ ?_ (fun hHeld => ?_)
        · exact ⟨hHeld.1.call hd3, hHeld.2.call hd3⟩
        clear hK K
        (try simp only [Act.put, List.setIfInBounds_toArray, List.set_cons_zero, List.set_cons_succ])
        have qhc3 := btrans qhc2 qhc2.size hd3
        refine takeH (i := 19) (v := ?vv79) 51 rfl rfl (by kernel_rfl) (by kernel_rfl) (by kernel_rfl) (fun _ _ _ h => h) (Or.inl ⟨by kernel_rfl, ?yy79⟩) (by assumption) ?_
        case yy79 => intro w hSw; (try dsimp only at hSw); go_simp; (try with_reducible rfl)
        simp only [List.setIfInBounds_toArray, List.set_cons_zero, List.set_cons_succ]
        refine takeH (i := 20) (v := ?vv80) 4 rfl rfl (by kernel_rfl) (by kernel_rfl) (by kernel_rfl) (fun _ _ _ h => h) (Or.inl ⟨by kernel_rfl, ?yy80⟩) (by assumption) ?_
        case yy80 => intro w hSw; (try dsimp only at hSw); go_simp; (try with_reducible rfl)
        simp only [List.setIfInBounds_toArray, List.set_cons_zero, List.set_cons_succ]
        refine wpAnyH_done (by kernel_rfl) ?_ _
        go_wp2_with fail
        go_ret
        exact ⟨rfl, btrans HB.out HB.out.size qhc3⟩
  have t2 : (a.n == b.n) = true := by rw [beq_iff_eq]; exact e2
  by_cases e3 : a.s = b.s
  · exact absurd ((vl_ext a b).2 ⟨e1, e2, e3⟩) hab
  have t3 : (a.s == b.s) = false := by rw [beq_eq_false_iff_ne]; exact e3
  clear e1 e2 e3
  have HE := Lib.hid hab; clear hab
  cases hva : vaB a with
  | false =>
    have HVA := Lib.hid hva; clear hva
    have hb0 := (((Below.refl w.heap.size w).alloc (Nat.le_refl _) (.cells #[.int .i64 a.k, .int .i64 a.n, .string (bs a.s)] 23)).alloc (by simp) (.cells #[.int .i64 b.k, .int .i64 b.n, .string (bs b.s)] 23))
    have h_HX := ((Bx.new w #[.int .i64 a.k, .int .i64 a.n, .string (bs a.s)] 23).alloc (.cells #[.int .i64 b.k, .int .i64 b.n, .string (bs b.s)] 23))
    have h_HY := (Bx.new (w.alloc (.cells #[.int .i64 a.k, .int .i64 a.n, .string (bs a.s)] 23)) #[.int .i64 b.k, .int .i64 b.n, .string (bs b.s)] 23)
    rw [show (w.alloc (.cells #[.int .i64 a.k, .int .i64 a.n, .string (bs a.s)] 23)).heap.size = w.heap.size + 1 by simp] at h_HY
    have HB := Lib.hid hb0; have HX := Lib.hid h_HX; have HY := Lib.hid h_HY
    clear hb0 h_HX h_HY
    go_enter Tryd.func8, Tryd.ntmps8
    go_upto_region 1 with (fail)
    generalize hW0 : (w.alloc (.cells #[.int .i64 a.k, .int .i64 a.n, .string (bs a.s)] 23)).alloc (.cells #[.int .i64 b.k, .int .i64 b.n, .string (bs b.s)] 23) = v0 at HB HX HY ⊢
    clear hW0
    have x0 : v0.cell? ⟨w.heap.size, 0, none⟩ = some (.int .i64 a.k) := HX.out.cell 0
    have x1 : v0.cell? ⟨w.heap.size, 1, none⟩ = some (.int .i64 a.n) := HX.out.cell 1
    have x2 : v0.cell? ⟨w.heap.size, 2, none⟩ = some (.string (bs a.s)) := HX.out.cell 2
    have y0 : v0.cell? ⟨(w.heap.size + 1), 0, none⟩ = some (.int .i64 b.k) := HY.out.cell 0
    have y1 : v0.cell? ⟨(w.heap.size + 1), 1, none⟩ = some (.int .i64 b.n) := HY.out.cell 1
    have y2 : v0.cell? ⟨(w.heap.size + 1), 2, none⟩ = some (.string (bs b.s)) := HY.out.cell 2
    go_wp2_with fail
    refine (RVValid_any a hl7a _).mono ?_
    rw [HVA.out]
    rintro er w1 ⟨rfl, hb1⟩
    clear x0 x1 x2
    clear y0 y1 y2
    have HX := Lib.hid (HX.out.call hb1); have HY := Lib.hid (HY.out.call hb1); have HB := Lib.hid (btrans HB.out HB.out.size hb1); clear hb1
    go_wp2_with fail
    refine (works_any _ (hL.below HB.out)).mono ?_
    rintro er wz ⟨rfl, hbz⟩
    go_wp2
    go_ret
    exact ⟨rfl, btrans HB.out HB.out.size hbz⟩
  | true =>
    cases hvb : vaB b with
    | false =>
      have HVA := Lib.hid hva; have HVB := Lib.hid hvb; clear hva hvb
      have hb0 := (((Below.refl w.heap.size w).alloc (Nat.le_refl _) (.cells #[.int .i64 a.k, .int .i64 a.n, .string (bs a.s)] 23)).alloc (by simp) (.cells #[.int .i64 b.k, .int .i64 b.n, .string (bs b.s)] 23))
      have h_HX := ((Bx.new w #[.int .i64 a.k, .int .i64 a.n, .string (bs a.s)] 23).alloc (.cells #[.int .i64 b.k, .int .i64 b.n, .string (bs b.s)] 23))
      have h_HY := (Bx.new (w.alloc (.cells #[.int .i64 a.k, .int .i64 a.n, .string (bs a.s)] 23)) #[.int .i64 b.k, .int .i64 b.n, .string (bs b.s)] 23)
      rw [show (w.alloc (.cells #[.int .i64 a.k, .int .i64 a.n, .string (bs a.s)] 23)).heap.size = w.heap.size + 1 by simp] at h_HY
      have HB := Lib.hid hb0; have HX := Lib.hid h_HX; have HY := Lib.hid h_HY
      clear hb0 h_HX h_HY
      go_enter Tryd.func8, Tryd.ntmps8
      go_upto_region 1 with (fail)
      generalize hW0 : (w.alloc (.cells #[.int .i64 a.k, .int .i64 a.n, .string (bs a.s)] 23)).alloc (.cells #[.int .i64 b.k, .int .i64 b.n, .string (bs b.s)] 23) = v0 at HB HX HY ⊢
      clear hW0
      have x0 : v0.cell? ⟨w.heap.size, 0, none⟩ = some (.int .i64 a.k) := HX.out.cell 0
      have x1 : v0.cell? ⟨w.heap.size, 1, none⟩ = some (.int .i64 a.n) := HX.out.cell 1
      have x2 : v0.cell? ⟨w.heap.size, 2, none⟩ = some (.string (bs a.s)) := HX.out.cell 2
      have y0 : v0.cell? ⟨(w.heap.size + 1), 0, none⟩ = some (.int .i64 b.k) := HY.out.cell 0
      have y1 : v0.cell? ⟨(w.heap.size + 1), 1, none⟩ = some (.int .i64 b.n) := HY.out.cell 1
      have y2 : v0.cell? ⟨(w.heap.size + 1), 2, none⟩ = some (.string (bs b.s)) := HY.out.cell 2
      go_wp2_with fail
      refine (RVValid_any a hl7a _).mono ?_
      rw [HVA.out]
      rintro er w1 ⟨rfl, hb1⟩
      clear x0 x1 x2
      clear y0 y1 y2
      have HX := Lib.hid (HX.out.call hb1); have HY := Lib.hid (HY.out.call hb1); have HB := Lib.hid (btrans HB.out HB.out.size hb1); clear hb1
      have x0 : w1.cell? ⟨w.heap.size, 0, none⟩ = some (.int .i64 a.k) := HX.out.cell 0
      have x1 : w1.cell? ⟨w.heap.size, 1, none⟩ = some (.int .i64 a.n) := HX.out.cell 1
      have x2 : w1.cell? ⟨w.heap.size, 2, none⟩ = some (.string (bs a.s)) := HX.out.cell 2
      have y0 : w1.cell? ⟨(w.heap.size + 1), 0, none⟩ = some (.int .i64 b.k) := HY.out.cell 0
      have y1 : w1.cell? ⟨(w.heap.size + 1), 1, none⟩ = some (.int .i64 b.n) := HY.out.cell 1
      have y2 : w1.cell? ⟨(w.heap.size + 1), 2, none⟩ = some (.string (bs b.s)) := HY.out.cell 2
      go_wp2_with fail
      refine (RVValid_any b hl7b _).mono ?_
      rw [HVB.out]
      rintro er w2 ⟨rfl, hb1⟩
      clear x0 x1 x2
      clear y0 y1 y2
      have HX := Lib.hid (HX.out.call hb1); have HY := Lib.hid (HY.out.call hb1); have HB := Lib.hid (btrans HB.out HB.out.size hb1); clear hb1
      go_wp2_with fail
      refine (works_any _ (hL.below HB.out)).mono ?_
      rintro er wz ⟨rfl, hbz⟩
      go_wp2
      go_ret
      exact ⟨rfl, btrans HB.out HB.out.size hbz⟩
    | true =>
      have hl6a : a.s.length ≤ 1000000 := by have := vaB_len hva; omega
      have hl6b : b.s.length ≤ 1000000 := by have := vaB_len hvb; omega
      have hf : fmtV a ≠ fmtV b := fun h => HE.out (fmt_inj a b hn0a hn1a hn0b hn1b hva hvb h)
      have he1 : (encV b).take (encV a).length ≠ encV a := fun h => HE.out (enc_free a b hn0a hn1a hn0b hn1b hva hvb h)
      have he2 : (encV a).take (encV b).length ≠ encV b := fun h => HE.out (enc_free b a hn0b hn1b hn0a hn1a hvb hva h).symm
      have hpa := encV_pos a; have hpb := encV_pos b
      obtain ⟨S, hS⟩ : ∃ S, encV a = S := ⟨_, rfl⟩
      obtain ⟨T, hT⟩ : ∃ T, encV b = T := ⟨_, rfl⟩
      obtain ⟨F, hF⟩ : ∃ F, fmtV a = F := ⟨_, rfl⟩
      obtain ⟨G, hG⟩ : ∃ G, fmtV b = G := ⟨_, rfl⟩
      rw [hS, hT] at he1 he2
      rw [hS] at hpa
      rw [hT] at hpb
      rw [hF, hG] at hf
      have q1 : (F != G) = true := by rw [bne_iff_ne]; exact hf
      have q2 : S.isEmpty = false := by cases S with | nil => simp at hpa | cons c r => rfl
      have q3 : T.isEmpty = false := by cases T with | nil => simp at hpb | cons c r => rfl
      have HQ1 := Lib.hid (show ¬ T.take S.length = S from he1)
      have HQ2 := Lib.hid (show ¬ S.take T.length = T from he2)
      have q4 : (F == G) = false := by rw [beq_eq_false_iff_ne]; exact hf
      have HVA := Lib.hid hva; have HVB := Lib.hid hvb; have HSA := Lib.hid hS; have HTB := Lib.hid hT; have HFA := Lib.hid hF; have HFB := Lib.hid hG; clear hva hvb hS hT hF hG hf he1 he2 hpa hpb
      have hb0 := (((Below.refl w.heap.size w).alloc (Nat.le_refl _) (.cells #[.int .i64 a.k, .int .i64 a.n, .string (bs a.s)] 23)).alloc (by simp) (.cells #[.int .i64 b.k, .int .i64 b.n, .string (bs b.s)] 23))
      have h_HX := ((Bx.new w #[.int .i64 a.k, .int .i64 a.n, .string (bs a.s)] 23).alloc (.cells #[.int .i64 b.k, .int .i64 b.n, .string (bs b.s)] 23))
      have h_HY := (Bx.new (w.alloc (.cells #[.int .i64 a.k, .int .i64 a.n, .string (bs a.s)] 23)) #[.int .i64 b.k, .int .i64 b.n, .string (bs b.s)] 23)
      rw [show (w.alloc (.cells #[.int .i64 a.k, .int .i64 a.n, .string (bs a.s)] 23)).heap.size = w.heap.size + 1 by simp] at h_HY
      have HB := Lib.hid hb0; have HX := Lib.hid h_HX; have HY := Lib.hid h_HY
      clear hb0 h_HX h_HY
      go_enter Tryd.func8, Tryd.ntmps8
      go_upto_region 1 with (fail)
      generalize hW0 : (w.alloc (.cells #[.int .i64 a.k, .int .i64 a.n, .string (bs a.s)] 23)).alloc (.cells #[.int .i64 b.k, .int .i64 b.n, .string (bs b.s)] 23) = v0 at HB HX HY ⊢
      clear hW0
      have x0 : v0.cell? ⟨w.heap.size, 0, none⟩ = some (.int .i64 a.k) := HX.out.cell 0
      have x1 : v0.cell? ⟨w.heap.size, 1, none⟩ = some (.int .i64 a.n) := HX.out.cell 1
      have x2 : v0.cell? ⟨w.heap.size, 2, none⟩ = some (.string (bs a.s)) := HX.out.cell 2
      have y0 : v0.cell? ⟨(w.heap.size + 1), 0, none⟩ = some (.int .i64 b.k) := HY.out.cell 0
      have y1 : v0.cell? ⟨(w.heap.size + 1), 1, none⟩ = some (.int .i64 b.n) := HY.out.cell 1
      have y2 : v0.cell? ⟨(w.heap.size + 1), 2, none⟩ = some (.string (bs b.s)) := HY.out.cell 2
      go_wp2_with fail
      refine (RVValid_any a hl7a _).mono ?_
      rw [HVA.out]
      rintro er w1 ⟨rfl, hb1⟩
      clear x0 x1 x2
      clear y0 y1 y2
      have HX := Lib.hid (HX.out.call hb1); have HY := Lib.hid (HY.out.call hb1); have HB := Lib.hid (btrans HB.out HB.out.size hb1); clear hb1
      have x0 : w1.cell? ⟨w.heap.size, 0, none⟩ = some (.int .i64 a.k) := HX.out.cell 0
      have x1 : w1.cell? ⟨w.heap.size, 1, none⟩ = some (.int .i64 a.n) := HX.out.cell 1
      have x2 : w1.cell? ⟨w.heap.size, 2, none⟩ = some (.string (bs a.s)) := HX.out.cell 2
      have y0 : w1.cell? ⟨(w.heap.size + 1), 0, none⟩ = some (.int .i64 b.k) := HY.out.cell 0
      have y1 : w1.cell? ⟨(w.heap.size + 1), 1, none⟩ = some (.int .i64 b.n) := HY.out.cell 1
      have y2 : w1.cell? ⟨(w.heap.size + 1), 2, none⟩ = some (.string (bs b.s)) := HY.out.cell 2
      go_wp2_with fail
      refine (RVValid_any b hl7b _).mono ?_
      rw [HVB.out]
      rintro er w2 ⟨rfl, hb1⟩
      clear x0 x1 x2
      clear y0 y1 y2
      have HX := Lib.hid (HX.out.call hb1); have HY := Lib.hid (HY.out.call hb1); have HB := Lib.hid (btrans HB.out HB.out.size hb1); clear hb1
      go_upto_region 3 with (fail)
      have hs0 : Bx w.heap.size #[.int .i64 a.k, .int .i64 a.n, .string (bs a.s)] 23 w2.drew ∧ Bx (w.heap.size + 1) #[.int .i64 b.k, .int .i64 b.n, .string (bs b.s)] 23 w2.drew := ⟨HX.out, HY.out⟩
      have HS0 := Lib.hid hs0; clear hs0
      go_wp2_with fail
      refine wp_region_held_drew (S := (fun w' => Bx w.heap.size #[.int .i64 a.k, .int .i64 a.n, .string (bs a.s)] 23 w' ∧ Bx (w.heap.size + 1) #[.int .i64 b.k, .int .i64 b.n, .string (bs b.s)] 23 w')) (by kernel_rfl) ?_ (fun hHeld => ?_)
      · exact HS0.out
      have phc0 : Below w2.heap.size w2 w2.drew := (Below.refl w2.heap.size w2).drew
      refine takeH (i := 0) (v := ?vv81) 21 rfl rfl (by kernel_rfl) (by kernel_rfl) (by kernel_rfl) (fun _ _ _ h => h) (Or.inl ⟨by kernel_rfl, ?yy81⟩) (by assumption) ?_
      case yy81 =>
        intro wq hSw
        have c0_0 : wq.cell? ⟨w.heap.size, 0, none⟩ = some (.int .i64 a.k) := (hSw.1).cell 0
        have c0_1 : wq.cell? ⟨w.heap.size, 1, none⟩ = some (.int .i64 a.n) := (hSw.1).cell 1
        have c0_2 : wq.cell? ⟨w.heap.size, 2, none⟩ = some (.string (bs a.s)) := (hSw.1).cell 2
        clear hSw
        go_simp
        (try with_reducible rfl)
      simp only [List.setIfInBounds_toArray, List.set_cons_zero, List.set_cons_succ]
      refine takeH (i := 2) (v := ?vv82) 23 rfl rfl (by kernel_rfl) (by kernel_rfl) (by kernel_rfl) (fun _ _ _ h => h) (Or.inl ⟨by kernel_rfl, ?yy82⟩) (by assumption) ?_
      case yy82 =>
        intro wq hSw
        have c1_0 : wq.cell? ⟨(w.heap.size + 1), 0, none⟩ = some (.int .i64 b.k) := (hSw.2).cell 0
        have c1_1 : wq.cell? ⟨(w.heap.size + 1), 1, none⟩ = some (.int .i64 b.n) := (hSw.2).cell 1
        have c1_2 : wq.cell? ⟨(w.heap.size + 1), 2, none⟩ = some (.string (bs b.s)) := (hSw.2).cell 2
        clear hSw
        go_simp
        (try with_reducible rfl)
      simp only [List.setIfInBounds_toArray, List.set_cons_zero, List.set_cons_succ]
      refine wpAnyH_ready (rs := [1]) (by kernel_rfl) (by simp) ?_
      refine (AllReadyH.cons rfl (fun K hK => ?_) AllReadyH.nil)
      go_simp
      (refine (VEncode_any a hn0a hn1a hl6a _).mono ?_; rw [HSA.out]; rintro er pu1 ⟨rfl, hd1⟩)
      (try go_wp2_with fail)
      refine hK.out _ _ ?_ (fun hHeld => ?_)
      · exact ⟨hHeld.1.call hd1, hHeld.2.call hd1⟩
      clear hK K
      (try simp only [Act.put, List.setIfInBounds_toArray, List.set_cons_zero, List.set_cons_succ])
      have phc1 := btrans phc0 phc0.size hd1
      refine wpAnyH_ready (rs := [3]) (by kernel_rfl) (by simp) ?_
      refine (AllReadyH.cons rfl (fun K hK => ?_) AllReadyH.nil)
      go_simp
      (refine (VEncode_any b hn0b hn1b hl6b _).mono ?_; rw [HTB.out]; rintro er pu2 ⟨rfl, hd2⟩)
      (try go_wp2_with fail)
      refine hK.out _ _ ?_ (fun hHeld => ?_)
      · exact ⟨hHeld.1.call hd2, hHeld.2.call hd2⟩
      clear hK K
      (try simp only [Act.put, List.setIfInBounds_toArray, List.set_cons_zero, List.set_cons_succ])
      have phc2 := btrans phc1 phc1.size hd2
      refine takeH (i := 4) (v := ?vv83) 5 rfl rfl (by kernel_rfl) (by kernel_rfl) (by kernel_rfl) (fun _ _ _ h => h) (Or.inl ⟨by kernel_rfl, ?yy83⟩) (by assumption) ?_
      case yy83 => intro w hSw; (try dsimp only at hSw); go_simp; (try with_reducible rfl)
      simp only [List.setIfInBounds_toArray, List.set_cons_zero, List.set_cons_succ]
      refine takeH (i := 5) (v := ?vv84) 6 rfl rfl (by kernel_rfl) (by kernel_rfl) (by kernel_rfl) (fun _ _ _ h => h) (Or.inl ⟨by kernel_rfl, ?yy84⟩) (by assumption) ?_
      case yy84 => intro w hSw; (try dsimp only at hSw); go_simp; (try with_reducible rfl)
      simp only [List.setIfInBounds_toArray, List.set_cons_zero, List.set_cons_succ]
      refine wpAnyH_done (by kernel_rfl) ?_ _
      have HX := Lib.hid hHeld.1; have HY := Lib.hid hHeld.2; have HB := Lib.hid (btrans HB.out HB.out.size phc2); clear hHeld phc0 phc1 phc2 hd1 hd2 HS0
      by_cases hlt : T.length < S.length
      · have hlt' : (T.length : Int) < (S.length : Int) := by omega
        have g1 : T.length ≤ S.length := by omega
        have g2 : (T.length : Int) ≤ (S.length : Int) := by omega
        have g3 := HQ2.out
        have g4 : (S.take T.length == T) = false := by rw [beq_eq_false_iff_ne]; exact g3
        go_upto_region 6 with (fail)
        have hs0 : Bx w.heap.size #[.int .i64 a.k, .int .i64 a.n, .string (bs a.s)] 23 pu2.drew ∧ Bx (w.heap.size + 1) #[.int .i64 b.k, .int .i64 b.n, .string (bs b.s)] 23 pu2.drew := ⟨HX.out, HY.out⟩
        have HS0 := Lib.hid hs0; clear hs0
        have hL4 := hL.below HB.out
        have HL4 := Lib.hid hL4; clear hL4
        go_wp2_with fail
        refine wp_region_held_drew (S := (fun w' => Bx w.heap.size #[.int .i64 a.k, .int .i64 a.n, .string (bs a.s)] 23 w' ∧ Bx (w.heap.size + 1) #[.int .i64 b.k, .int .i64 b.n, .string (bs b.s)] 23 w')) (by kernel_rfl) ?_ (fun hHeld => ?_)
        · exact HS0.out
        have qhc0 : Below pu2.heap.size pu2 pu2.drew := (Below.refl pu2.heap.size pu2).drew
        refine takeH (i := 0) (v := ?vv85) 32 rfl rfl (by kernel_rfl) (by kernel_rfl) (by kernel_rfl) (fun _ _ _ h => h) (Or.inl ⟨by kernel_rfl, ?yy85⟩) (by assumption) ?_
        case yy85 =>
          intro wq hSw
          have c0_0 : wq.cell? ⟨w.heap.size, 0, none⟩ = some (.int .i64 a.k) := (hSw.1).cell 0
          have c0_1 : wq.cell? ⟨w.heap.size, 1, none⟩ = some (.int .i64 a.n) := (hSw.1).cell 1
          have c0_2 : wq.cell? ⟨w.heap.size, 2, none⟩ = some (.string (bs a.s)) := (hSw.1).cell 2
          clear hSw
          go_simp
          (try with_reducible rfl)
        simp only [List.setIfInBounds_toArray, List.set_cons_zero, List.set_cons_succ]
        refine takeH (i := 2) (v := ?vv86) 34 rfl rfl (by kernel_rfl) (by kernel_rfl) (by kernel_rfl) (fun _ _ _ h => h) (Or.inl ⟨by kernel_rfl, ?yy86⟩) (by assumption) ?_
        case yy86 =>
          intro wq hSw
          have c1_0 : wq.cell? ⟨(w.heap.size + 1), 0, none⟩ = some (.int .i64 b.k) := (hSw.2).cell 0
          have c1_1 : wq.cell? ⟨(w.heap.size + 1), 1, none⟩ = some (.int .i64 b.n) := (hSw.2).cell 1
          have c1_2 : wq.cell? ⟨(w.heap.size + 1), 2, none⟩ = some (.string (bs b.s)) := (hSw.2).cell 2
          clear hSw
          go_simp
          (try with_reducible rfl)
        simp only [List.setIfInBounds_toArray, List.set_cons_zero, List.set_cons_succ]
        refine wpAnyH_ready (rs := [1]) (by kernel_rfl) (by simp) ?_
        refine (AllReadyH.cons rfl (fun K hK => ?_) AllReadyH.nil)
        go_simp
        (refine (VFormat_any a hn0a hn1a hl6a _ (HL4.out.below qhc0)).mono ?_; rw [HFA.out]; rintro er qu1 ⟨rfl, hd1⟩)
        (try go_wp2_with fail)
        refine hK.out _ _ ?_ (fun hHeld => ?_)
        · exact ⟨hHeld.1.call hd1, hHeld.2.call hd1⟩
        clear hK K
        (try simp only [Act.put, List.setIfInBounds_toArray, List.set_cons_zero, List.set_cons_succ])
        have qhc1 := btrans qhc0 qhc0.size hd1
        refine wpAnyH_ready (rs := [3]) (by kernel_rfl) (by simp) ?_
        refine (AllReadyH.cons rfl (fun K hK => ?_) AllReadyH.nil)
        go_simp
        (refine (VFormat_any b hn0b hn1b hl6b _ (HL4.out.below qhc1)).mono ?_; rw [HFB.out]; rintro er qu2 ⟨rfl, hd2⟩)
        (try go_wp2_with fail)
        refine hK.out _ _ ?_ (fun hHeld => ?_)
        · exact ⟨hHeld.1.call hd2, hHeld.2.call hd2⟩
        clear hK K
        (try simp only [Act.put, List.setIfInBounds_toArray, List.set_cons_zero, List.set_cons_succ])
        have qhc2 := btrans qhc1 qhc1.size hd2
        refine takeH (i := 4) (v := ?vv87) 36 rfl rfl (by kernel_rfl) (by kernel_rfl) (by kernel_rfl) (fun _ _ _ h => h) (Or.inl ⟨by kernel_rfl, ?yy87⟩) (by assumption) ?_
        case yy87 => intro w hSw; (try dsimp only at hSw); go_simp; (try with_reducible rfl)
        simp only [List.setIfInBounds_toArray, List.set_cons_zero, List.set_cons_succ]
        refine takeH (i := 5) (v := ?vv88) 37 rfl rfl (by kernel_rfl) (by kernel_rfl) (by kernel_rfl) (fun _ _ _ h => h) (Or.inl ⟨by kernel_rfl, ?yy88⟩) (by assumption) ?_
        case yy88 => intro w hSw; (try dsimp only at hSw); go_simp; (try with_reducible rfl)
        simp only [List.setIfInBounds_toArray, List.set_cons_zero, List.set_cons_succ]
        refine takeH (i := 6) (v := ?vv89) 38 rfl rfl (by kernel_rfl) (by kernel_rfl) (by kernel_rfl) (fun _ _ _ h => h) (Or.inl ⟨by kernel_rfl, ?yy89⟩) (by assumption) ?_
        case yy89 => intro w hSw; (try dsimp only at hSw); go_simp; (try with_reducible rfl)
        simp only [List.setIfInBounds_toArray, List.set_cons_zero, List.set_cons_succ]
        refine takeH (i := 7) (v := ?vv90) 39 rfl rfl (by kernel_rfl) (by kernel_rfl) (by kernel_rfl) (fun _ _ _ h => h) (Or.inl ⟨by kernel_rfl, ?yy90⟩) (by assumption) ?_
        case yy90 => intro w hSw; (try dsimp only at hSw); go_simp; (try with_reducible rfl)
        simp only [List.setIfInBounds_toArray, List.set_cons_zero, List.set_cons_succ]
        refine takeH (i := 8) (v := ?vv91) 40 rfl rfl (by kernel_rfl) (by kernel_rfl) (by kernel_rfl) (fun _ _ _ h => h) (Or.inl ⟨by kernel_rfl, ?yy91⟩) (by assumption) ?_
        case yy91 => intro w hSw; (try dsimp only at hSw); go_simp; (try with_reducible rfl)
        simp only [List.setIfInBounds_toArray, List.set_cons_zero, List.set_cons_succ]
        refine takeH (i := 9) (v := ?vv92) 41 rfl rfl (by kernel_rfl) (by kernel_rfl) (by kernel_rfl) (fun _ _ _ h => h) (Or.inl ⟨by kernel_rfl, ?yy92⟩) (by assumption) ?_
        case yy92 => intro w hSw; (try dsimp only at hSw); go_simp; (try with_reducible rfl)
        simp only [List.setIfInBounds_toArray, List.set_cons_zero, List.set_cons_succ]
        refine takeH (i := 10) (v := ?vv93) 42 rfl rfl (by kernel_rfl) (by kernel_rfl) (by kernel_rfl) (fun _ _ _ h => h) (Or.inl ⟨by kernel_rfl, ?yy93⟩) (by assumption) ?_
        case yy93 => intro w hSw; (try dsimp only at hSw); go_simp; (try with_reducible rfl)
        simp only [List.setIfInBounds_toArray, List.set_cons_zero, List.set_cons_succ]
        refine takeH (i := 11) (v := ?vv94) 43 rfl rfl (by kernel_rfl) (by kernel_rfl) (by kernel_rfl) (fun _ _ _ h => h) (Or.inl ⟨by kernel_rfl, ?yy94⟩) (by assumption) ?_
        case yy94 => intro w hSw; (try dsimp only at hSw); go_simp; (try with_reducible rfl)
        simp only [List.setIfInBounds_toArray, List.set_cons_zero, List.set_cons_succ]
        refine takeH (i := 12) (v := ?vv95) 44 rfl rfl (by kernel_rfl) (by kernel_rfl) (by kernel_rfl) (fun _ _ _ h => h) (Or.inl ⟨by kernel_rfl, ?yy95⟩) (by assumption) ?_
        case yy95 => intro w hSw; (try dsimp only at hSw); go_simp; (try with_reducible rfl)
        simp only [List.setIfInBounds_toArray, List.set_cons_zero, List.set_cons_succ]
        refine takeH (i := 13) (v := ?vv96) 45 rfl rfl (by kernel_rfl) (by kernel_rfl) (by kernel_rfl) (fun _ _ _ h => h) (Or.inl ⟨by kernel_rfl, ?yy96⟩) (by assumption) ?_
        case yy96 => intro w hSw; (try dsimp only at hSw); go_simp; (try with_reducible rfl)
        simp only [List.setIfInBounds_toArray, List.set_cons_zero, List.set_cons_succ]
        refine takeH (i := 14) (v := ?vv97) 46 rfl rfl (by kernel_rfl) (by kernel_rfl) (by kernel_rfl) (fun _ _ _ h => h) (Or.inl ⟨by kernel_rfl, ?yy97⟩) (by assumption) ?_
        case yy97 => intro w hSw; (try dsimp only at hSw); go_simp; (try with_reducible rfl)
        simp only [List.setIfInBounds_toArray, List.set_cons_zero, List.set_cons_succ]
        refine takeH (i := 15) (v := ?vv98) 47 rfl rfl (by kernel_rfl) (by kernel_rfl) (by kernel_rfl) (fun _ _ _ h => h) (Or.inl ⟨by kernel_rfl, ?yy98⟩) (by assumption) ?_
        case yy98 => intro w hSw; (try dsimp only at hSw); go_simp; (try with_reducible rfl)
        simp only [List.setIfInBounds_toArray, List.set_cons_zero, List.set_cons_succ]
        refine takeH (i := 16) (v := ?vv99) 48 rfl rfl (by kernel_rfl) (by kernel_rfl) (by kernel_rfl) (fun _ _ _ h => h) (Or.inl ⟨by kernel_rfl, ?yy99⟩) (by assumption) ?_
        case yy99 => intro w hSw; (try dsimp only at hSw); go_simp; (try with_reducible rfl)
        simp only [List.setIfInBounds_toArray, List.set_cons_zero, List.set_cons_succ]
        refine takeH (i := 17) (v := ?vv100) 49 rfl rfl (by kernel_rfl) (by kernel_rfl) (by kernel_rfl) (fun _ _ _ h => h) (Or.inl ⟨by kernel_rfl, ?yy100⟩) (by assumption) ?_
        case yy100 => intro w hSw; (try dsimp only at hSw); go_simp; (try with_reducible rfl)
        simp only [List.setIfInBounds_toArray, List.set_cons_zero, List.set_cons_succ]
        refine wpAnyH_ready (rs := [18]) (by kernel_rfl) (by simp) ?_
        refine (AllReadyH.cons rfl (fun K hK => ?_) AllReadyH.nil)
        go_simp
        (refine (works_any _ (HL4.out.below qhc2)).mono ?_; rintro er qu3 ⟨rfl, hd3⟩)
        (try go_wp2_with fail)
        refine hK.out _ _ ?_ (fun hHeld => ?_)
        · exact ⟨hHeld.1.call hd3, hHeld.2.call hd3⟩
        clear hK K
        (try simp only [Act.put, List.setIfInBounds_toArray, List.set_cons_zero, List.set_cons_succ])
        have qhc3 := btrans qhc2 qhc2.size hd3
        refine takeH (i := 19) (v := ?vv101) 51 rfl rfl (by kernel_rfl) (by kernel_rfl) (by kernel_rfl) (fun _ _ _ h => h) (Or.inl ⟨by kernel_rfl, ?yy101⟩) (by assumption) ?_
        case yy101 => intro w hSw; (try dsimp only at hSw); go_simp; (try with_reducible rfl)
        simp only [List.setIfInBounds_toArray, List.set_cons_zero, List.set_cons_succ]
        refine takeH (i := 20) (v := ?vv102) 4 rfl rfl (by kernel_rfl) (by kernel_rfl) (by kernel_rfl) (fun _ _ _ h => h) (Or.inl ⟨by kernel_rfl, ?yy102⟩) (by assumption) ?_
        case yy102 => intro w hSw; (try dsimp only at hSw); go_simp; (try with_reducible rfl)
        simp only [List.setIfInBounds_toArray, List.set_cons_zero, List.set_cons_succ]
        refine wpAnyH_done (by kernel_rfl) ?_ _
        go_wp2_with fail
        go_ret
        exact ⟨rfl, btrans HB.out HB.out.size qhc3⟩
      have hlt' : ¬ (T.length : Int) < (S.length : Int) := by omega
      have g1 : S.length ≤ T.length := by omega
      have g2 : (S.length : Int) ≤ (T.length : Int) := by omega
      have g3 := HQ1.out
      have g4 : (T.take S.length == S) = false := by rw [beq_eq_false_iff_ne]; exact g3
      go_upto_region 6 with (fail)
      have hs0 : Bx w.heap.size #[.int .i64 a.k, .int .i64 a.n, .string (bs a.s)] 23 pu2.drew ∧ Bx (w.heap.size + 1) #[.int .i64 b.k, .int .i64 b.n, .string (bs b.s)] 23 pu2.drew := ⟨HX.out, HY.out⟩
      have HS0 := Lib.hid hs0; clear hs0
      have hL4 := hL.below HB.out
      have HL4 := Lib.hid hL4; clear hL4
      go_wp2_with fail
      refine wp_region_held_drew (S := (fun w' => Bx w.heap.size #[.int .i64 a.k, .int .i64 a.n, .string (bs a.s)] 23 w' ∧ Bx (w.heap.size + 1) #[.int .i64 b.k, .int .i64 b.n, .string (bs b.s)] 23 w')) (by kernel_rfl) ?_ (fun hHeld => ?_)
      · exact HS0.out
      have qhc0 : Below pu2.heap.size pu2 pu2.drew := (Below.refl pu2.heap.size pu2).drew
      refine takeH (i := 0) (v := ?vv103) 32 rfl rfl (by kernel_rfl) (by kernel_rfl) (by kernel_rfl) (fun _ _ _ h => h) (Or.inl ⟨by kernel_rfl, ?yy103⟩) (by assumption) ?_
      case yy103 =>
        intro wq hSw
        have c0_0 : wq.cell? ⟨w.heap.size, 0, none⟩ = some (.int .i64 a.k) := (hSw.1).cell 0
        have c0_1 : wq.cell? ⟨w.heap.size, 1, none⟩ = some (.int .i64 a.n) := (hSw.1).cell 1
        have c0_2 : wq.cell? ⟨w.heap.size, 2, none⟩ = some (.string (bs a.s)) := (hSw.1).cell 2
        clear hSw
        go_simp
        (try with_reducible rfl)
      simp only [List.setIfInBounds_toArray, List.set_cons_zero, List.set_cons_succ]
      refine takeH (i := 2) (v := ?vv104) 34 rfl rfl (by kernel_rfl) (by kernel_rfl) (by kernel_rfl) (fun _ _ _ h => h) (Or.inl ⟨by kernel_rfl, ?yy104⟩) (by assumption) ?_
      case yy104 =>
        intro wq hSw
        have c1_0 : wq.cell? ⟨(w.heap.size + 1), 0, none⟩ = some (.int .i64 b.k) := (hSw.2).cell 0
        have c1_1 : wq.cell? ⟨(w.heap.size + 1), 1, none⟩ = some (.int .i64 b.n) := (hSw.2).cell 1
        have c1_2 : wq.cell? ⟨(w.heap.size + 1), 2, none⟩ = some (.string (bs b.s)) := (hSw.2).cell 2
        clear hSw
        go_simp
        (try with_reducible rfl)
      simp only [List.setIfInBounds_toArray, List.set_cons_zero, List.set_cons_succ]
      refine wpAnyH_ready (rs := [1]) (by kernel_rfl) (by simp) ?_
      refine (AllReadyH.cons rfl (fun K hK => ?_) AllReadyH.nil)
      go_simp
      (refine (VFormat_any a hn0a hn1a hl6a _ (HL4.out.below qhc0)).mono ?_; rw [HFA.out]; rintro er qu1 ⟨rfl, hd1⟩)
      (try go_wp2_with fail)
      refine hK.out _ _ ?_ (fun hHeld => ?_)
      · exact ⟨hHeld.1.call hd1, hHeld.2.call hd1⟩
      clear hK K
      (try simp only [Act.put, List.setIfInBounds_toArray, List.set_cons_zero, List.set_cons_succ])
      have qhc1 := btrans qhc0 qhc0.size hd1
      refine wpAnyH_ready (rs := [3]) (by kernel_rfl) (by simp) ?_
      refine (AllReadyH.cons rfl (fun K hK => ?_) AllReadyH.nil)
      go_simp
      (refine (VFormat_any b hn0b hn1b hl6b _ (HL4.out.below qhc1)).mono ?_; rw [HFB.out]; rintro er qu2 ⟨rfl, hd2⟩)
      (try go_wp2_with fail)
      refine hK.out _ _ ?_ (fun hHeld => ?_)
      · exact ⟨hHeld.1.call hd2, hHeld.2.call hd2⟩
      clear hK K
      (try simp only [Act.put, List.setIfInBounds_toArray, List.set_cons_zero, List.set_cons_succ])
      have qhc2 := btrans qhc1 qhc1.size hd2
      refine takeH (i := 4) (v := ?vv105) 36 rfl rfl (by kernel_rfl) (by kernel_rfl) (by kernel_rfl) (fun _ _ _ h => h) (Or.inl ⟨by kernel_rfl, ?yy105⟩) (by assumption) ?_
      case yy105 => intro w hSw; (try dsimp only at hSw); go_simp; (try with_reducible rfl)
      simp only [List.setIfInBounds_toArray, List.set_cons_zero, List.set_cons_succ]
      refine takeH (i := 5) (v := ?vv106) 37 rfl rfl (by kernel_rfl) (by kernel_rfl) (by kernel_rfl) (fun _ _ _ h => h) (Or.inl ⟨by kernel_rfl, ?yy106⟩) (by assumption) ?_
      case yy106 => intro w hSw; (try dsimp only at hSw); go_simp; (try with_reducible rfl)
      simp only [List.setIfInBounds_toArray, List.set_cons_zero, List.set_cons_succ]
      refine takeH (i := 6) (v := ?vv107) 38 rfl rfl (by kernel_rfl) (by kernel_rfl) (by kernel_rfl) (fun _ _ _ h => h) (Or.inl ⟨by kernel_rfl, ?yy107⟩) (by assumption) ?_
      case yy107 => intro w hSw; (try dsimp only at hSw); go_simp; (try with_reducible rfl)
      simp only [List.setIfInBounds_toArray, List.set_cons_zero, List.set_cons_succ]
      refine takeH (i := 7) (v := ?vv108) 39 rfl rfl (by kernel_rfl) (by kernel_rfl) (by kernel_rfl) (fun _ _ _ h => h) (Or.inl ⟨by kernel_rfl, ?yy108⟩) (by assumption) ?_
      case yy108 => intro w hSw; (try dsimp only at hSw); go_simp; (try with_reducible rfl)
      simp only [List.setIfInBounds_toArray, List.set_cons_zero, List.set_cons_succ]
      refine takeH (i := 8) (v := ?vv109) 40 rfl rfl (by kernel_rfl) (by kernel_rfl) (by kernel_rfl) (fun _ _ _ h => h) (Or.inl ⟨by kernel_rfl, ?yy109⟩) (by assumption) ?_
      case yy109 => intro w hSw; (try dsimp only at hSw); go_simp; (try with_reducible rfl)
      simp only [List.setIfInBounds_toArray, List.set_cons_zero, List.set_cons_succ]
      refine takeH (i := 9) (v := ?vv110) 41 rfl rfl (by kernel_rfl) (by kernel_rfl) (by kernel_rfl) (fun _ _ _ h => h) (Or.inl ⟨by kernel_rfl, ?yy110⟩) (by assumption) ?_
      case yy110 => intro w hSw; (try dsimp only at hSw); go_simp; (try with_reducible rfl)
      simp only [List.setIfInBounds_toArray, List.set_cons_zero, List.set_cons_succ]
      refine takeH (i := 10) (v := ?vv111) 42 rfl rfl (by kernel_rfl) (by kernel_rfl) (by kernel_rfl) (fun _ _ _ h => h) (Or.inl ⟨by kernel_rfl, ?yy111⟩) (by assumption) ?_
      case yy111 => intro w hSw; (try dsimp only at hSw); go_simp; (try with_reducible rfl)
      simp only [List.setIfInBounds_toArray, List.set_cons_zero, List.set_cons_succ]
      refine takeH (i := 11) (v := ?vv112) 43 rfl rfl (by kernel_rfl) (by kernel_rfl) (by kernel_rfl) (fun _ _ _ h => h) (Or.inl ⟨by kernel_rfl, ?yy112⟩) (by assumption) ?_
      case yy112 => intro w hSw; (try dsimp only at hSw); go_simp; (try with_reducible rfl)
      simp only [List.setIfInBounds_toArray, List.set_cons_zero, List.set_cons_succ]
      refine takeH (i := 12) (v := ?vv113) 44 rfl rfl (by kernel_rfl) (by kernel_rfl) (by kernel_rfl) (fun _ _ _ h => h) (Or.inl ⟨by kernel_rfl, ?yy113⟩) (by assumption) ?_
      case yy113 => intro w hSw; (try dsimp only at hSw); go_simp; (try with_reducible rfl)
      simp only [List.setIfInBounds_toArray, List.set_cons_zero, List.set_cons_succ]
      refine takeH (i := 13) (v := ?vv114) 45 rfl rfl (by kernel_rfl) (by kernel_rfl) (by kernel_rfl) (fun _ _ _ h => h) (Or.inl ⟨by kernel_rfl, ?yy114⟩) (by assumption) ?_
      case yy114 => intro w hSw; (try dsimp only at hSw); go_simp; (try with_reducible rfl)
      simp only [List.setIfInBounds_toArray, List.set_cons_zero, List.set_cons_succ]
      refine takeH (i := 14) (v := ?vv115) 46 rfl rfl (by kernel_rfl) (by kernel_rfl) (by kernel_rfl) (fun _ _ _ h => h) (Or.inl ⟨by kernel_rfl, ?yy115⟩) (by assumption) ?_
      case yy115 => intro w hSw; (try dsimp only at hSw); go_simp; (try with_reducible rfl)
      simp only [List.setIfInBounds_toArray, List.set_cons_zero, List.set_cons_succ]
      refine takeH (i := 15) (v := ?vv116) 47 rfl rfl (by kernel_rfl) (by kernel_rfl) (by kernel_rfl) (fun _ _ _ h => h) (Or.inl ⟨by kernel_rfl, ?yy116⟩) (by assumption) ?_
      case yy116 => intro w hSw; (try dsimp only at hSw); go_simp; (try with_reducible rfl)
      simp only [List.setIfInBounds_toArray, List.set_cons_zero, List.set_cons_succ]
      refine takeH (i := 16) (v := ?vv117) 48 rfl rfl (by kernel_rfl) (by kernel_rfl) (by kernel_rfl) (fun _ _ _ h => h) (Or.inl ⟨by kernel_rfl, ?yy117⟩) (by assumption) ?_
      case yy117 => intro w hSw; (try dsimp only at hSw); go_simp; (try with_reducible rfl)
      simp only [List.setIfInBounds_toArray, List.set_cons_zero, List.set_cons_succ]
      refine takeH (i := 17) (v := ?vv118) 49 rfl rfl (by kernel_rfl) (by kernel_rfl) (by kernel_rfl) (fun _ _ _ h => h) (Or.inl ⟨by kernel_rfl, ?yy118⟩) (by assumption) ?_
      case yy118 => intro w hSw; (try dsimp only at hSw); go_simp; (try with_reducible rfl)
      simp only [List.setIfInBounds_toArray, List.set_cons_zero, List.set_cons_succ]
      refine wpAnyH_ready (rs := [18]) (by kernel_rfl) (by simp) ?_
      refine (AllReadyH.cons rfl (fun K hK => ?_) AllReadyH.nil)
      go_simp
      (refine (works_any _ (HL4.out.below qhc2)).mono ?_; rintro er qu3 ⟨rfl, hd3⟩)
      (try go_wp2_with fail)
      refine hK.out _ _ ?_ (fun hHeld => ?_)
      · exact ⟨hHeld.1.call hd3, hHeld.2.call hd3⟩
      clear hK K
      (try simp only [Act.put, List.setIfInBounds_toArray, List.set_cons_zero, List.set_cons_succ])
      have qhc3 := btrans qhc2 qhc2.size hd3
      refine takeH (i := 19) (v := ?vv119) 51 rfl rfl (by kernel_rfl) (by kernel_rfl) (by kernel_rfl) (fun _ _ _ h => h) (Or.inl ⟨by kernel_rfl, ?yy119⟩) (by assumption) ?_
      case yy119 => intro w hSw; (try dsimp only at hSw); go_simp; (try with_reducible rfl)
      simp only [List.setIfInBounds_toArray, List.set_cons_zero, List.set_cons_succ]
      refine takeH (i := 20) (v := ?vv120) 4 rfl rfl (by kernel_rfl) (by kernel_rfl) (by kernel_rfl) (fun _ _ _ h => h) (Or.inl ⟨by kernel_rfl, ?yy120⟩) (by assumption) ?_
      case yy120 => intro w hSw; (try dsimp only at hSw); go_simp; (try with_reducible rfl)
      simp only [List.setIfInBounds_toArray, List.set_cons_zero, List.set_cons_succ]
      refine wpAnyH_done (by kernel_rfl) ?_ _
      go_wp2_with fail
      go_ret
      exact ⟨rfl, btrans HB.out HB.out.size qhc3⟩
end Go.Proofs.YtmffdoblpkjmjaaDoor
