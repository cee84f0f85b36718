/- The walks of the reference's unquote and Parse. No conditions. -/
import Derived.Test.YtmffdoblpkjmjaaDoorValG
namespace Go.Proofs.YtmffdoblpkjmjaaDoor
open Go.RowKit

/-- the bytes and the error of a quoted string's text -/
def unqR (r : List UInt8 × Bool) : List UInt8 × Int := if r.2 = true then (if 64 < r.1.length then ([], 2) else (r.1, 0)) else ([], 5)
theorem unqR_no (U : List UInt8) : unqR (U, false) = ([], 5) := rfl
theorem unqR_long (U : List UInt8) (h : 64 < U.length) : unqR (U, true) = ([], 2) := by unfold unqR; rw [if_pos rfl, if_pos h]
theorem unqR_ok (U : List UInt8) (h : ¬ 64 < U.length) : unqR (U, true) = (U, 0) := by unfold unqR; rw [if_pos rfl, if_neg h]
theorem one_at (l : List UInt8) (k k1 : Nat) (e : k + 1 = k1) (h : k < l.length) : (l.take k1).drop k = [l[k]] := by
  subst e; rw [ltake_snoc l k h, List.drop_left' (by rw [List.length_take]; omega)]
theorem ltm {k n : Nat} (h : k < n) : (k : Int) ≤ (n : Int) - 1 := by omega

set_option maxRecDepth 100000 in
set_option maxHeartbeats 8000000 in
theorem Runquote_any (l : List UInt8) (hl0 : 1 ≤ l.length) (hl : l.length ≤ 100000) (w : World) :
    Calls Tryd.prog 42 #[.string (bs l)] w fun e w' => e = .returned (.tuple #[.string (bs (unqR (unq [] (l.drop 1))).1), .int .i64 (unqR (unq [] (l.drop 1))).2]) ∧ w = w' := by
  obtain ⟨T, e, he⟩ : ∃ T e, unqR (unq [] (l.drop 1)) = (T, e) := ⟨_, _, rfl⟩
  rw [he]
  have HU := Lib.hid he; clear he
  go_enter Tryd.func42, Tryd.ntmps42
  go_wp2
  go_loop [4, 5] (fun s i => ∃ (k : Nat) (L0 : List UInt8), k ≤ l.length ∧ i = .int .i64 k ∧ s = .string (bs L0) ∧ L0.length ≤ k ∧ Hid (unqR (unq L0 (l.drop k)) = (T, e))) (fun _ i => l.length - (intOf i).toNat)
  case atStart => exact ⟨1, [], hl0, rfl, rfl, Nat.zero_le _, HU⟩
  case round =>
    obtain ⟨k, L0, hk, rfl, rfl, hL0, HQ⟩ := hrel
    clear HU
    by_cases hlt : k < l.length
    · have hlt' : (k : Int) < (l.length : Int) := by omega
      have hlt1 : (k : Int) + 1 ≤ (l.length : Int) := by omega
      obtain ⟨k1, hk1⟩ : ∃ k1, k + 1 = k1 := ⟨_, rfl⟩
      have hw1 : IntKind.i64.wrap ((k : Int) + 1) = (k1 : Int) := by rw [IntKind.wrap_i64]; omega
      have hlk : k ≤ k1 := by omega
      have hle : k1 ≤ l.length := by omega
      have hle2 : (k1 : Int) ≤ (l.length : Int) := by omega
      have hk2 : L0.length + 1 ≤ k1 := by omega
      have HK1 := Lib.hid hk1; clear hk1
      by_cases h34 : l[k] = 34
      · have t34 := eq34 h34
        have hL6 : L0.length ≤ l.length := by omega
        by_cases hend : (k : Int) = (l.length : Int) - 1
        · have te : ((k : Int) != (l.length : Int) - 1) = false := by rw [hend]; simp
          have HF := Lib.hid (show unq L0 (l.drop k) = (L0, true) by rw [unq_34 L0 l k hlt h34, decide_eq_true hend])
          clear h34 hend
          by_cases h6 : 64 < L0.length
          · have h6' : (64 : Int) < (L0.length : Int) := by omega
            have HE := Lib.hid (HQ.out.symm.trans ((congrArg unqR (HF.out)).trans (unqR_long L0 h6)))
            have hT : T = [] := congrArg Prod.fst HE.out
            have hE : e = 2 := congrArg Prod.snd HE.out
            have HT := Lib.hid hT; have HEE := Lib.hid hE; clear hT hE HE
            go_wp2
            go_ret2
            exact ⟨by rw [HT.out, HEE.out] <;> rfl, rfl⟩
          · have h6' : ¬ (64 : Int) < (L0.length : Int) := by omega
            have HE := Lib.hid (HQ.out.symm.trans ((congrArg unqR (HF.out)).trans (unqR_ok L0 h6)))
            have hT : T = L0 := congrArg Prod.fst HE.out
            have hE : e = 0 := congrArg Prod.snd HE.out
            have HT := Lib.hid hT; have HEE := Lib.hid hE; clear hT hE HE
            go_wp2
            go_ret2
            exact ⟨by rw [HT.out, HEE.out] <;> rfl, rfl⟩
        · have te : ((k : Int) != (l.length : Int) - 1) = true := by rw [bne_iff_ne]; exact hend
          have HF := Lib.hid (show unq L0 (l.drop k) = (L0, false) by rw [unq_34 L0 l k hlt h34, decide_eq_false hend])
          clear h34 hend
          have HE := Lib.hid (HQ.out.symm.trans ((congrArg unqR (HF.out)).trans (unqR_no L0)))
          have hT : T = [] := congrArg Prod.fst HE.out
          have hE : e = 5 := congrArg Prod.snd HE.out
          have HT := Lib.hid hT; have HEE := Lib.hid hE; clear hT hE HE
          go_wp2
          go_ret2
          exact ⟨by rw [HT.out, HEE.out] <;> rfl, rfl⟩
      have t34 := neq34 h34
      by_cases h92 : l[k] = 92
      · have t92 := is92 h92
        by_cases he : k1 < l.length
        · have he' : ¬ (l.length : Int) ≤ (k1 : Int) := by omega
          have he2 : (k1 : Int) < (l.length : Int) := by omega
          have hw2 : IntKind.i64.wrap ((k1 : Int) + 1) = ((k1 + 1 : Nat) : Int) := by rw [IntKind.wrap_i64]; omega
          by_cases a34 : l[k1] = 34
          · have s34 := eq34 a34
            have p1 := pl34 (Or.inl a34); have p2 := pm34 (Or.inl a34)
            have HN := Lib.hid (HQ.out.symm.trans (congrArg unqR (unq_92 L0 l k k1 HK1.out hlt h92 he (Or.inl a34)))); clear h34 h92 a34
            go_wp2
            go_round
            case rel => exact ⟨k1 + 1, L0 ++ [l[k1]], by omega, by go_num, by simp [bs, one_at l k1 (k1 + 1) rfl he], by rw [List.length_append]; show _ + 1 ≤ _; omega, Lib.hid HN.out.symm⟩
            case measure => have := HK1.out; simp [intOf]; omega
          have s34 := neq34 a34
          by_cases a92 : l[k1] = 92
          · have s92 := eq92 a92
            have p1 := pl34 (Or.inr a92); have p2 := pm34 (Or.inr a92)
            have HN := Lib.hid (HQ.out.symm.trans (congrArg unqR (unq_92 L0 l k k1 HK1.out hlt h92 he (Or.inr a92)))); clear h34 h92 a34 a92
            go_wp2
            go_round
            case rel => exact ⟨k1 + 1, L0 ++ [l[k1]], by omega, by go_num, by simp [bs, one_at l k1 (k1 + 1) rfl he], by rw [List.length_append]; show _ + 1 ≤ _; omega, Lib.hid HN.out.symm⟩
            case measure => have := HK1.out; simp [intOf]; omega
          have s92 := neq92 a92
          have HE0 := Lib.hid (unq_92b L0 l k k1 HK1.out hlt h92 he a34 a92); clear h34 h92 a34 a92
          have HE := Lib.hid (HQ.out.symm.trans ((congrArg unqR (HE0.out)).trans (unqR_no [])))
          have hT : T = [] := congrArg Prod.fst HE.out
          have hE : e = 5 := congrArg Prod.snd HE.out
          have HT := Lib.hid hT; have HEE := Lib.hid hE; clear hT hE HE
          go_wp2
          go_ret2
          exact ⟨by rw [HT.out, HEE.out] <;> rfl, rfl⟩
        have he' : (l.length : Int) ≤ (k1 : Int) := by omega
        have HE0 := Lib.hid (unq_92e L0 l k k1 HK1.out hlt h92 he); clear h34 h92
        have HE := Lib.hid (HQ.out.symm.trans ((congrArg unqR (HE0.out)).trans (unqR_no [])))
        have hT : T = [] := congrArg Prod.fst HE.out
        have hE : e = 5 := congrArg Prod.snd HE.out
        have HT := Lib.hid hT; have HEE := Lib.hid hE; clear hT hE HE
        go_wp2
        go_ret2
        exact ⟨by rw [HT.out, HEE.out] <;> rfl, rfl⟩
      have t92 := not92 h92
      by_cases h1 : (l[k].toNat : Int) < 32
      · have HE0 := Lib.hid (unq_no L0 l k hlt h34 h92 (okc_lo h1)); clear h34 h92
        have HE := Lib.hid (HQ.out.symm.trans ((congrArg unqR (HE0.out)).trans (unqR_no [])))
        have hT : T = [] := congrArg Prod.fst HE.out
        have hE : e = 5 := congrArg Prod.snd HE.out
        have HT := Lib.hid hT; have HEE := Lib.hid hE; clear hT hE HE
        go_wp2
        go_ret2
        exact ⟨by rw [HT.out, HEE.out] <;> rfl, rfl⟩
      by_cases h2 : (126 : Int) < (l[k].toNat : Int)
      · have HE0 := Lib.hid (unq_no L0 l k hlt h34 h92 (okc_hi h2)); clear h34 h92
        have HE := Lib.hid (HQ.out.symm.trans ((congrArg unqR (HE0.out)).trans (unqR_no [])))
        have hT : T = [] := congrArg Prod.fst HE.out
        have hE : e = 5 := congrArg Prod.snd HE.out
        have HT := Lib.hid hT; have HEE := Lib.hid hE; clear hT hE HE
        go_wp2
        go_ret2
        exact ⟨by rw [HT.out, HEE.out] <;> rfl, rfl⟩
      have HN := Lib.hid (HQ.out.symm.trans (congrArg unqR (unq_ok L0 l k hlt h34 h92 ((okc_iff _).2 (by omega))))); clear h34 h92
      go_wp2
      go_round
      case rel => exact ⟨k1, L0 ++ [l[k]], by have := HK1.out; omega, by go_num, by simp [bs, one_at l k k1 HK1.out hlt], by rw [List.length_append]; show _ + 1 ≤ _; omega, Lib.hid (by rw [← HK1.out]; exact HN.out.symm)⟩
      case measure => have := HK1.out; simp [intOf]; omega
    · have hlt' : ¬ (k : Int) < (l.length : Int) := by omega
      have te : ((k : Int) != (l.length : Int) - 1) = true := by rw [bne_iff_ne]; omega
      have HE0 := Lib.hid (unq_end L0 l k hlt)
      have HE := Lib.hid (HQ.out.symm.trans ((congrArg unqR (HE0.out)).trans (unqR_no [])))
      have hT : T = [] := congrArg Prod.fst HE.out
      have hE : e = 5 := congrArg Prod.snd HE.out
      have HT := Lib.hid hT; have HEE := Lib.hid hE; clear hT hE HE
      go_wp2
      go_ret2
      exact ⟨by rw [HT.out, HEE.out] <;> rfl, rfl⟩
set_option maxRecDepth 100000 in
set_option maxHeartbeats 8000000 in
theorem RVParse_any (l : List UInt8) (hl : l.length ≤ 100000) (w : World) :
    Calls Tryd.prog 23 #[.string (bs l)] w fun e w' => e = .returned (.tuple #[.agg (vV (parV l).1), .int .i64 (parV l).2]) ∧ Below w.heap.size w w' := by
  by_cases h : l = nilT
  · have ts : (l == [110, 105, 108]) = true := by rw [h]; rfl
    have hr : parV l = (v00, 0) := par_nil h
    rw [hr]; clear hr
    simp only [vV, v00]
    have HQ := Lib.hid h; clear h
    have HR := Lib.hid (Bx.new w #[.int .i64 0, .int .i64 0, .string ⟨#[]⟩] 23); have HB := Lib.hid ((Below.refl w.heap.size w).alloc (Nat.le_refl _) (.cells #[.int .i64 0, .int .i64 0, .string ⟨#[]⟩] 23))
    go_enter Tryd.func23, Tryd.ntmps23
    go_upto_region 1 with (fail)
    generalize hW : w.alloc (.cells #[.int .i64 0, .int .i64 0, .string ⟨#[]⟩] 23) = v0 at HR HB ⊢
    clear hW
    have r0 : v0.cell? ⟨w.heap.size, 0, none⟩ = some (.int .i64 0) := HR.out.cell 0
    have r1 : v0.cell? ⟨w.heap.size, 1, none⟩ = some (.int .i64 0) := HR.out.cell 1
    have r2 : v0.cell? ⟨w.heap.size, 2, none⟩ = some (.string ⟨#[]⟩) := HR.out.cell 2
    have f0 := HR.out.free 0
    have f1 := HR.out.free 1
    have f2 := HR.out.free 2
    have HK := Lib.hid (HR.out.sets3 (.int .i64 0) (.int .i64 0) (.string ⟨#[]⟩))
    go_wp2
    have k0 := HK.out.cell 0
    have k1 := HK.out.cell 1
    have k2 := HK.out.cell 2
    simp only [List.getElem?_toArray, List.getElem?_cons_zero, List.getElem?_cons_succ] at k0 k1 k2
    refine bodyPost_ret (v := .tuple #[.agg #[.int .i64 0, .int .i64 0, .string (bs [])], .int .i64 0]) (by simp [results, Tryd.results23, go_sem, k0, k1, k2] <;> rfl) rfl ⟨rfl, ?_⟩
    exact below_sets3 HB.out w.heap.size (Nat.le_refl _) _ _ _
  have ts : (l == [110, 105, 108]) = false := by rw [beq_eq_false_iff_ne]; exact h
  by_cases h1 : l.head? = some 34
  · have hl0 : 0 < l.length := by cases l with | nil => cases h1 | cons c r => simp
    have hli : (0 : Int) < (l.length : Int) := by omega
    have t34 : ((l[0].toNat : Int) == 34) = true := is34 (by cases l with | nil => cases h1 | cons c r => simp at h1; exact h1)
    obtain ⟨⟨U, fl⟩, hu⟩ : ∃ r, unq [] (l.drop 1) = r := ⟨_, rfl⟩
    cases fl with
    | false =>
      have hr : parV l = (v00, 5) := par_bad h h1 hu
      rw [hr]; clear hr
      simp only [vV, v00]
      have HQ := Lib.hid h; have HU := Lib.hid ((congrArg unqR hu).trans (unqR_no U)); have H1 := Lib.hid h1; clear h hu h1
      have HR := Lib.hid (Bx.new w #[.int .i64 0, .int .i64 0, .string ⟨#[]⟩] 23); have HB := Lib.hid ((Below.refl w.heap.size w).alloc (Nat.le_refl _) (.cells #[.int .i64 0, .int .i64 0, .string ⟨#[]⟩] 23))
      go_enter Tryd.func23, Tryd.ntmps23
      go_upto_region 1 with (fail)
      generalize hW : w.alloc (.cells #[.int .i64 0, .int .i64 0, .string ⟨#[]⟩] 23) = v0 at HR HB ⊢
      clear hW
      go_wp2_with fail
      refine (Runquote_any l hl0 hl _).mono ?_
      rw [HU.out]
      rintro er w1 ⟨rfl, rfl⟩
      have r0 : v0.cell? ⟨w.heap.size, 0, none⟩ = some (.int .i64 0) := HR.out.cell 0
      have r1 : v0.cell? ⟨w.heap.size, 1, none⟩ = some (.int .i64 0) := HR.out.cell 1
      have r2 : v0.cell? ⟨w.heap.size, 2, none⟩ = some (.string ⟨#[]⟩) := HR.out.cell 2
      have f0 := HR.out.free 0
      have f1 := HR.out.free 1
      have f2 := HR.out.free 2
      have HK := Lib.hid (HR.out.sets3 (.int .i64 0) (.int .i64 0) (.string ⟨#[]⟩))
      go_wp2
      have k0 := HK.out.cell 0
      have k1 := HK.out.cell 1
      have k2 := HK.out.cell 2
      simp only [List.getElem?_toArray, List.getElem?_cons_zero, List.getElem?_cons_succ] at k0 k1 k2
      refine bodyPost_ret (v := .tuple #[.agg #[.int .i64 0, .int .i64 0, .string (bs [])], .int .i64 5]) (by simp [results, Tryd.results23, go_sem, k0, k1, k2] <;> rfl) rfl ⟨rfl, ?_⟩
      exact below_sets3 HB.out w.heap.size (Nat.le_refl _) _ _ _
    | true =>
      by_cases h6 : 64 < U.length
      · skip
        have hr : parV l = (v00, 2) := par_long h h1 hu h6
        rw [hr]; clear hr
        simp only [vV, v00]
        have HQ := Lib.hid h; have HU := Lib.hid ((congrArg unqR hu).trans (unqR_long U h6)); have H1 := Lib.hid h1; clear h hu h1
        have HR := Lib.hid (Bx.new w #[.int .i64 0, .int .i64 0, .string ⟨#[]⟩] 23); have HB := Lib.hid ((Below.refl w.heap.size w).alloc (Nat.le_refl _) (.cells #[.int .i64 0, .int .i64 0, .string ⟨#[]⟩] 23))
        go_enter Tryd.func23, Tryd.ntmps23
        go_upto_region 1 with (fail)
        generalize hW : w.alloc (.cells #[.int .i64 0, .int .i64 0, .string ⟨#[]⟩] 23) = v0 at HR HB ⊢
        clear hW
        go_wp2_with fail
        refine (Runquote_any l hl0 hl _).mono ?_
        rw [HU.out]
        rintro er w1 ⟨rfl, rfl⟩
        have r0 : v0.cell? ⟨w.heap.size, 0, none⟩ = some (.int .i64 0) := HR.out.cell 0
        have r1 : v0.cell? ⟨w.heap.size, 1, none⟩ = some (.int .i64 0) := HR.out.cell 1
        have r2 : v0.cell? ⟨w.heap.size, 2, none⟩ = some (.string ⟨#[]⟩) := HR.out.cell 2
        have f0 := HR.out.free 0
        have f1 := HR.out.free 1
        have f2 := HR.out.free 2
        have HK := Lib.hid (HR.out.sets3 (.int .i64 0) (.int .i64 0) (.string ⟨#[]⟩))
        go_wp2
        have k0 := HK.out.cell 0
        have k1 := HK.out.cell 1
        have k2 := HK.out.cell 2
        simp only [List.getElem?_toArray, List.getElem?_cons_zero, List.getElem?_cons_succ] at k0 k1 k2
        refine bodyPost_ret (v := .tuple #[.agg #[.int .i64 0, .int .i64 0, .string (bs [])], .int .i64 2]) (by simp [results, Tryd.results23, go_sem, k0, k1, k2] <;> rfl) rfl ⟨rfl, ?_⟩
        exact below_sets3 HB.out w.heap.size (Nat.le_refl _) _ _ _
      · skip
        have hr : parV l = (⟨2, 0, U⟩, 0) := par_str h h1 hu h6
        rw [hr]; clear hr
        simp only [vV]
        have HQ := Lib.hid h; have HU := Lib.hid ((congrArg unqR hu).trans (unqR_ok U h6)); have H1 := Lib.hid h1; clear h hu h1
        have HR := Lib.hid (Bx.new w #[.int .i64 0, .int .i64 0, .string ⟨#[]⟩] 23); have HB := Lib.hid ((Below.refl w.heap.size w).alloc (Nat.le_refl _) (.cells #[.int .i64 0, .int .i64 0, .string ⟨#[]⟩] 23))
        go_enter Tryd.func23, Tryd.ntmps23
        go_upto_region 1 with (fail)
        generalize hW : w.alloc (.cells #[.int .i64 0, .int .i64 0, .string ⟨#[]⟩] 23) = v0 at HR HB ⊢
        clear hW
        go_wp2_with fail
        refine (Runquote_any l hl0 hl _).mono ?_
        rw [HU.out]
        rintro er w1 ⟨rfl, rfl⟩
        have r0 : v0.cell? ⟨w.heap.size, 0, none⟩ = some (.int .i64 0) := HR.out.cell 0
        have r1 : v0.cell? ⟨w.heap.size, 1, none⟩ = some (.int .i64 0) := HR.out.cell 1
        have r2 : v0.cell? ⟨w.heap.size, 2, none⟩ = some (.string ⟨#[]⟩) := HR.out.cell 2
        have f0 := HR.out.free 0
        have f1 := HR.out.free 1
        have f2 := HR.out.free 2
        have HK := Lib.hid (HR.out.sets3 (.int .i64 2) (.int .i64 0) (.string (bs U)))
        go_wp2
        have k0 := HK.out.cell 0
        have k1 := HK.out.cell 1
        have k2 := HK.out.cell 2
        simp only [List.getElem?_toArray, List.getElem?_cons_zero, List.getElem?_cons_succ] at k0 k1 k2
        refine bodyPost_ret (v := .tuple #[.agg #[.int .i64 2, .int .i64 0, .string (bs U)], .int .i64 0]) (by simp [results, Tryd.results23, go_sem, k0, k1, k2] <;> rfl) rfl ⟨rfl, ?_⟩
        exact below_sets3 HB.out w.heap.size (Nat.le_refl _) _ _ _
  obtain ⟨⟨n, pe⟩, hu⟩ : ∃ r, parseS l = r := ⟨_, rfl⟩
  by_cases he : pe = 0
  · subst he
    by_cases hl0 : 0 < l.length
    · have hli : (0 : Int) < (l.length : Int) := by omega
      have t34 : ((l[0].toNat : Int) == 34) = false := not34 (by cases l with | nil => simp at hl0 | cons c r => intro e; apply h1; simp at e; rw [e]; rfl)
      have hr : parV l = (⟨1, n, []⟩, 0) := par_int h h1 hu
      rw [hr]; clear hr
      simp only [vV]
      have HQ := Lib.hid h; have HU := Lib.hid hu; have H1 := Lib.hid h1; clear h hu h1
      have HR := Lib.hid (Bx.new w #[.int .i64 0, .int .i64 0, .string ⟨#[]⟩] 23); have HB := Lib.hid ((Below.refl w.heap.size w).alloc (Nat.le_refl _) (.cells #[.int .i64 0, .int .i64 0, .string ⟨#[]⟩] 23))
      go_enter Tryd.func23, Tryd.ntmps23
      go_upto_region 1 with (fail)
      generalize hW : w.alloc (.cells #[.int .i64 0, .int .i64 0, .string ⟨#[]⟩] 23) = v0 at HR HB ⊢
      clear hW
      go_wp2_with fail
      refine (RParse_any l _ (by omega)).mono ?_
      rw [HU.out]
      rintro er w1 ⟨rfl, rfl⟩
      go_wp2_with fail
      refine (RVInt_any n _).mono ?_
      simp only [vV, intV5]
      rintro er w2 ⟨rfl, hb1⟩
      have HR := Lib.hid (HR.out.call hb1); have HB := Lib.hid (btrans HB.out HB.out.size hb1); clear hb1
      have r0 : w2.cell? ⟨w.heap.size, 0, none⟩ = some (.int .i64 0) := HR.out.cell 0
      have r1 : w2.cell? ⟨w.heap.size, 1, none⟩ = some (.int .i64 0) := HR.out.cell 1
      have r2 : w2.cell? ⟨w.heap.size, 2, none⟩ = some (.string ⟨#[]⟩) := HR.out.cell 2
      have f0 := HR.out.free 0
      have f1 := HR.out.free 1
      have f2 := HR.out.free 2
      have HK := Lib.hid (HR.out.sets3 (.int .i64 1) (.int .i64 n) (.string (bs [])))
      go_wp2
      have k0 := HK.out.cell 0
      have k1 := HK.out.cell 1
      have k2 := HK.out.cell 2
      simp only [List.getElem?_toArray, List.getElem?_cons_zero, List.getElem?_cons_succ] at k0 k1 k2
      refine bodyPost_ret (v := .tuple #[.agg #[.int .i64 1, .int .i64 n, .string (bs [])], .int .i64 0]) (by simp [results, Tryd.results23, go_sem, k0, k1, k2] <;> rfl) rfl ⟨rfl, ?_⟩
      exact below_sets3 HB.out w.heap.size (Nat.le_refl _) _ _ _
    · have hli : ¬ (0 : Int) < (l.length : Int) := by omega
      have hr : parV l = (⟨1, n, []⟩, 0) := par_int h h1 hu
      rw [hr]; clear hr
      simp only [vV]
      have HQ := Lib.hid h; have HU := Lib.hid hu; have H1 := Lib.hid h1; clear h hu h1
      have HR := Lib.hid (Bx.new w #[.int .i64 0, .int .i64 0, .string ⟨#[]⟩] 23); have HB := Lib.hid ((Below.refl w.heap.size w).alloc (Nat.le_refl _) (.cells #[.int .i64 0, .int .i64 0, .string ⟨#[]⟩] 23))
      go_enter Tryd.func23, Tryd.ntmps23
      go_upto_region 1 with (fail)
      generalize hW : w.alloc (.cells #[.int .i64 0, .int .i64 0, .string ⟨#[]⟩] 23) = v0 at HR HB ⊢
      clear hW
      go_wp2_with fail
      refine (RParse_any l _ (by omega)).mono ?_
      rw [HU.out]
      rintro er w1 ⟨rfl, rfl⟩
      go_wp2_with fail
      refine (RVInt_any n _).mono ?_
      simp only [vV, intV5]
      rintro er w2 ⟨rfl, hb1⟩
      have HR := Lib.hid (HR.out.call hb1); have HB := Lib.hid (btrans HB.out HB.out.size hb1); clear hb1
      have r0 : w2.cell? ⟨w.heap.size, 0, none⟩ = some (.int .i64 0) := HR.out.cell 0
      have r1 : w2.cell? ⟨w.heap.size, 1, none⟩ = some (.int .i64 0) := HR.out.cell 1
      have r2 : w2.cell? ⟨w.heap.size, 2, none⟩ = some (.string ⟨#[]⟩) := HR.out.cell 2
      have f0 := HR.out.free 0
      have f1 := HR.out.free 1
      have f2 := HR.out.free 2
      have HK := Lib.hid (HR.out.sets3 (.int .i64 1) (.int .i64 n) (.string (bs [])))
      go_wp2
      have k0 := HK.out.cell 0
      have k1 := HK.out.cell 1
      have k2 := HK.out.cell 2
      simp only [List.getElem?_toArray, List.getElem?_cons_zero, List.getElem?_cons_succ] at k0 k1 k2
      refine bodyPost_ret (v := .tuple #[.agg #[.int .i64 1, .int .i64 n, .string (bs [])], .int .i64 0]) (by simp [results, Tryd.results23, go_sem, k0, k1, k2] <;> rfl) rfl ⟨rfl, ?_⟩
      exact below_sets3 HB.out w.heap.size (Nat.le_refl _) _ _ _
  · have tp : (pe != 0) = true := by rw [bne_iff_ne]; exact he
    by_cases hl0 : 0 < l.length
    · have hli : (0 : Int) < (l.length : Int) := by omega
      have t34 : ((l[0].toNat : Int) == 34) = false := not34 (by cases l with | nil => simp at hl0 | cons c r => intro e; apply h1; simp at e; rw [e]; rfl)
      have hr : parV l = (v00, pe) := par_err h h1 hu he
      rw [hr]; clear hr
      simp only [vV, v00]
      have HE := Lib.hid he; clear he
      have HQ := Lib.hid h; have HU := Lib.hid hu; have H1 := Lib.hid h1; clear h hu h1
      have HR := Lib.hid (Bx.new w #[.int .i64 0, .int .i64 0, .string ⟨#[]⟩] 23); have HB := Lib.hid ((Below.refl w.heap.size w).alloc (Nat.le_refl _) (.cells #[.int .i64 0, .int .i64 0, .string ⟨#[]⟩] 23))
      go_enter Tryd.func23, Tryd.ntmps23
      go_upto_region 1 with (fail)
      generalize hW : w.alloc (.cells #[.int .i64 0, .int .i64 0, .string ⟨#[]⟩] 23) = v0 at HR HB ⊢
      clear hW
      go_wp2_with fail
      refine (RParse_any l _ (by omega)).mono ?_
      rw [HU.out]
      rintro er w1 ⟨rfl, rfl⟩
      have r0 : v0.cell? ⟨w.heap.size, 0, none⟩ = some (.int .i64 0) := HR.out.cell 0
      have r1 : v0.cell? ⟨w.heap.size, 1, none⟩ = some (.int .i64 0) := HR.out.cell 1
      have r2 : v0.cell? ⟨w.heap.size, 2, none⟩ = some (.string ⟨#[]⟩) := HR.out.cell 2
      have f0 := HR.out.free 0
      have f1 := HR.out.free 1
      have f2 := HR.out.free 2
      have HK := Lib.hid (HR.out.sets3 (.int .i64 0) (.int .i64 0) (.string ⟨#[]⟩))
      go_wp2
      have k0 := HK.out.cell 0
      have k1 := HK.out.cell 1
      have k2 := HK.out.cell 2
      simp only [List.getElem?_toArray, List.getElem?_cons_zero, List.getElem?_cons_succ] at k0 k1 k2
      refine bodyPost_ret (v := .tuple #[.agg #[.int .i64 0, .int .i64 0, .string (bs [])], .int .i64 pe]) (by simp [results, Tryd.results23, go_sem, k0, k1, k2] <;> rfl) rfl ⟨rfl, ?_⟩
      exact below_sets3 HB.out w.heap.size (Nat.le_refl _) _ _ _
    · have hli : ¬ (0 : Int) < (l.length : Int) := by omega
      have hr : parV l = (v00, pe) := par_err h h1 hu he
      rw [hr]; clear hr
      simp only [vV, v00]
      have HE := Lib.hid he; clear he
      have HQ := Lib.hid h; have HU := Lib.hid hu; have H1 := Lib.hid h1; clear h hu h1
      have HR := Lib.hid (Bx.new w #[.int .i64 0, .int .i64 0, .string ⟨#[]⟩] 23); have HB := Lib.hid ((Below.refl w.heap.size w).alloc (Nat.le_refl _) (.cells #[.int .i64 0, .int .i64 0, .string ⟨#[]⟩] 23))
      go_enter Tryd.func23, Tryd.ntmps23
      go_upto_region 1 with (fail)
      generalize hW : w.alloc (.cells #[.int .i64 0, .int .i64 0, .string ⟨#[]⟩] 23) = v0 at HR HB ⊢
      clear hW
      go_wp2_with fail
      refine (RParse_any l _ (by omega)).mono ?_
      rw [HU.out]
      rintro er w1 ⟨rfl, rfl⟩
      have r0 : v0.cell? ⟨w.heap.size, 0, none⟩ = some (.int .i64 0) := HR.out.cell 0
      have r1 : v0.cell? ⟨w.heap.size, 1, none⟩ = some (.int .i64 0) := HR.out.cell 1
      have r2 : v0.cell? ⟨w.heap.size, 2, none⟩ = some (.string ⟨#[]⟩) := HR.out.cell 2
      have f0 := HR.out.free 0
      have f1 := HR.out.free 1
      have f2 := HR.out.free 2
      have HK := Lib.hid (HR.out.sets3 (.int .i64 0) (.int .i64 0) (.string ⟨#[]⟩))
      go_wp2
      have k0 := HK.out.cell 0
      have k1 := HK.out.cell 1
      have k2 := HK.out.cell 2
      simp only [List.getElem?_toArray, List.getElem?_cons_zero, List.getElem?_cons_succ] at k0 k1 k2
      refine bodyPost_ret (v := .tuple #[.agg #[.int .i64 0, .int .i64 0, .string (bs [])], .int .i64 pe]) (by simp [results, Tryd.results23, go_sem, k0, k1, k2] <;> rfl) rfl ⟨rfl, ?_⟩
      exact below_sets3 HB.out w.heap.size (Nat.le_refl _) _ _ _
end Go.Proofs.YtmffdoblpkjmjaaDoor
