/- The walks of the reference's Tokenize and of LexerTokens. No conditions. -/
import Derived.Test.YtkmmdkklpbafdaaGreatDoorLexG
namespace Go.Proofs.YtkmmdkklpbafdaaGreatDoor
open Go.RowKit

set_option maxRecDepth 100000 in
theorem toks_count : ∀ (f : Nat) (s : List UInt8) (ln : Int) (L : List Tk), (toks f s ln L).1.length ≤ L.length + s.length := by
  intro f
  induction f with
  | zero => intro s ln L; exact Nat.le_add_right _ _
  | succ f ih =>
    intro s ln L
    cases s with
    | nil => exact Nat.le_refl _
    | cons c r =>
      unfold toks
      rw [List.length_cons]
      split
      · have := ih r (ln + 1) L; omega
      · split
        · have := ih r ln L; omega
        · split
          · have := ih (r.dropWhile fun x => x != 10) ln L
            have := (List.dropWhile_suffix (l := r) fun x => x != 10).length_le
            omega
          · split
            · rename_i h
              have h2 := (tokS_len (c :: r)).2 h
              have h3 := ih ((c :: r).drop (tokS (c :: r)).2.1) ln (L ++ [⟨(tokS (c :: r)).1.k, (tokS (c :: r)).1.t, (tokS (c :: r)).1.n, ln⟩])
              rw [List.length_append, List.length_singleton, List.length_drop] at h3
              rw [List.length_cons] at h2 h3
              omega
            · exact Nat.zero_le _
theorem tokenS_count (s : List UInt8) : (tokenS s).1.length ≤ s.length := by
  unfold tokenS; split
  · exact Nat.zero_le _
  · have := toks_count (s.length + 1) s 1 []; simpa using this
set_option maxRecDepth 100000 in
set_option maxHeartbeats 16000000 in
theorem RTokenize_any (l : List UInt8) (hl : l.length ≤ 9223372036854775807) (w : World) :
    Calls Tryz.prog 102 #[.string (bs l)] w fun e w' => ∃ v, e = .returned (.tuple #[v, .int .i64 (tokenS l).2.1, .int .i64 (tokenS l).2.2]) ∧ CellsAt w' v (tokenS l).1.length (tkLs (tokenS l).1) ∧ Below w.heap.size w w' := by
  by_cases h16 : 16384 < l.length
  · have h16' : (16384 : Int) < (l.length : Int) := by omega
    have hr : tokenS l = ([], 0, 2) := by unfold tokenS; rw [if_pos h16]
    rw [hr]
    go_enter Tryz.func102, Tryz.ntmps102
    go_wp2
    go_ret3
    exact ⟨_, rfl, ⟨none, 0, rfl, fun h => absurd rfl h⟩, Below.refl _ _⟩
  have h16' : ¬ (16384 : Int) < (l.length : Int) := by omega
  obtain ⟨T, rl, re, hr⟩ : ∃ T a b, tokenS l = (T, a, b) := ⟨_, _, _, rfl⟩
  rw [hr]
  rw [tokenS_tk h16] at hr
  have HU := Lib.hid (show tk (l.drop 0) (1 + (cnt l 0 : Int)) [] = (T, rl, re) by rw [List.drop_zero]; exact hr); clear hr
  go_enter Tryz.func102, Tryz.ntmps102
  go_wp2_with fail
  refine (skip_any l 0 (Nat.zero_le _) (by omega) _).mono ?_
  rintro er w1 ⟨⟨k0, rfl, -, hk0, hsk, hch⟩, rfl⟩
  have HU := Lib.hid ((hsk []).symm.trans HU.out); have HCH := Lib.hid hch; clear hsk hch
  go_wp2
  go_loopw [5, 6] (fun v i wr => ∃ (k : Nat) (L0 : List Tk), k ≤ l.length ∧ i = .int .i64 k ∧ L0.length ≤ k ∧ Hid (∀ h : k < l.length, l[k] ≠ 10 ∧ l[k] ≠ 32 ∧ l[k] ≠ 9 ∧ l[k] ≠ 35) ∧ wr.ownsRow w.heap.size 113 4 v L0.length (tkLs L0) ∧ Hid (tk (l.drop k) (1 + (cnt l k : Int)) L0 = (T, rl, re)) ∧ Below w.heap.size w wr) (fun _ i _ => l.length - (intOf i).toNat)
  case atStart => exact ⟨k0, [], hk0, rfl, Nat.zero_le _, HCH, World.ownsRow_nil _ _ _ _, HU, Below.refl _ _⟩
  case round =>
    obtain ⟨k, L0, hk, rfl, hL0, HC0, hown, HQ, hB⟩ := hrel
    obtain ⟨sa, sc, rfl⟩ := own_sl hown
    clear HU HCH
    have HO := Lib.hid hown; have HB := Lib.hid hB; clear hown hB
    by_cases hlt : k < l.length
    · have hlt' : (k : Int) < (l.length : Int) := by omega
      have hcl := cnt_le l k
      obtain ⟨n0, hn0⟩ : ∃ n0, cnt l k = n0 := ⟨_, rfl⟩
      rw [hn0] at hcl
      have HQ0 := Lib.hid (show tk (l.drop k) (1 + (n0 : Int)) L0 = (T, rl, re) by rw [← hn0]; exact HQ.out)
      have HN0 := Lib.hid hn0; clear hn0
      obtain ⟨ln, hln⟩ : ∃ ln : Int, 1 + (n0 : Int) = ln := ⟨_, rfl⟩
      have hw2 : IntKind.i64.wrap ((n0 : Int) + 1) = ln := by rw [IntKind.wrap_i64]; omega
      obtain ⟨⟨xk, xt, xn, xl⟩, n, e, hx⟩ : ∃ x n e, tokS (l.drop k) = (x, n, e) := ⟨_, _, _, rfl⟩
      have htl := tokS_len (l.drop k)
      have hlf := tok_nolf (l.drop k)
      rw [hx] at hlf
      rw [hx, List.length_drop] at htl
      simp only at htl hlf
      have HX := Lib.hid hx; have HLF := Lib.hid hlf; have HLN := Lib.hid hln; clear hx hlf hln
      by_cases he : e = 0
      rotate_left
      · have te : (e != 0) = true := by rw [bne_iff_ne]; exact he
        have HF := Lib.hid ((tk_bad hlt (HC0.out hlt).1 (HC0.out hlt).2.1 (HC0.out hlt).2.2.1 (HC0.out hlt).2.2.2 HX.out he).symm.trans HQ0.out); clear he
        go_wp2_with fail
        refine (feeds_any l k (by omega) (by omega) _).mono ?_
        rw [HN0.out]
        rintro er wf ⟨rfl, rfl⟩
        go_wp2_with fail
        refine (Rtoken_any l k hlt (by omega) _).mono ?_
        rw [HX.out]
        simp only [tkV]
        rintro er w2 ⟨x, rfl, hxx, hb1⟩
        have HXX := Lib.hid hxx; clear hxx
        have hal := (Below.refl w2.heap.size w2).alloc (Nat.le_refl _) (.cells #[.int .i64 xk, .string (bs xt), .int .i64 xn, .int .i64 xl] 113)
        have HC := Lib.hid (btrans hb1 hb1.size hal)
        have HY := Lib.hid (Bx.new w2 #[.int .i64 xk, .string (bs xt), .int .i64 xn, .int .i64 xl] 113)
        have hwx := hb1.size
        have hwy := Nat.le_trans HB.out.size hb1.size
        have HB := Lib.hid (btrans (btrans HB.out HB.out.size hb1) (btrans HB.out HB.out.size hb1).size hal); clear hb1 hal
        go_upto_region 8 with (fail)
        generalize hW : w2.alloc (.cells #[.int .i64 xk, .string (bs xt), .int .i64 xn, .int .i64 xl] 113) = v2 at HB HC HY ⊢
        clear hW
        have hT : ([], 1 + (n0 : Int), e) = (T, rl, re) := HF.out
        have h1 : T = [] := (congrArg Prod.fst hT).symm
        have h2 : rl = ln := by rw [← HLN.out]; exact (congrArg (fun x => x.2.1) hT).symm
        have h3 : re = e := (congrArg (fun x => x.2.2) hT).symm
        clear hT
        have H1 := Lib.hid h1; have H2 := Lib.hid h2; have H3 := Lib.hid h3; clear h1 h2 h3 HF
        go_wp2
        go_ret3
        exact ⟨_, by rw [H2.out, H3.out] <;> rfl, by rw [H1.out]; exact ⟨none, 0, rfl, fun h => absurd rfl h⟩, HB.out⟩
      have te : (e != 0) = false := by rw [he]; rfl
      subst he
      obtain ⟨hm0, hm3⟩ := htl.2 rfl
      have HF := Lib.hid ((tk_ok hlt (HC0.out hlt).1 (HC0.out hlt).2.1 (HC0.out hlt).2.2.1 (HC0.out hlt).2.2.2 HX.out).symm.trans HQ0.out)
      have HCN := Lib.hid ((cnt_add (HLF.out rfl)).trans HN0.out)
      go_wp2_with fail
      refine (feeds_any l k (by omega) (by omega) _).mono ?_
      rw [HN0.out]
      rintro er wf ⟨rfl, rfl⟩
      go_wp2_with fail
      refine (Rtoken_any l k hlt (by omega) _).mono ?_
      rw [HX.out]
      simp only [tkV]
      rintro er w2 ⟨x, rfl, hxx, hb1⟩
      have HXX := Lib.hid hxx; clear hxx
      have hal := (Below.refl w2.heap.size w2).alloc (Nat.le_refl _) (.cells #[.int .i64 xk, .string (bs xt), .int .i64 xn, .int .i64 xl] 113)
      have HC := Lib.hid (btrans hb1 hb1.size hal)
      have HY := Lib.hid (Bx.new w2 #[.int .i64 xk, .string (bs xt), .int .i64 xn, .int .i64 xl] 113)
      have hwx := hb1.size
      have hwy := Nat.le_trans HB.out.size hb1.size
      have HB := Lib.hid (btrans (btrans HB.out HB.out.size hb1) (btrans HB.out HB.out.size hb1).size hal); clear hb1 hal
      go_upto_region 8 with (fail)
      generalize hW : w2.alloc (.cells #[.int .i64 xk, .string (bs xt), .int .i64 xn, .int .i64 xl] 113) = v2 at HB HC HY ⊢
      clear hW
      have y0 : v2.cell? ⟨w2.heap.size, 0, none⟩ = some (.int .i64 xk) := HY.out.cell 0
      have y1 : v2.cell? ⟨w2.heap.size, 1, none⟩ = some (.string (bs xt)) := HY.out.cell 1
      have y2 : v2.cell? ⟨w2.heap.size, 2, none⟩ = some (.int .i64 xn) := HY.out.cell 2
      have y3 : v2.cell? ⟨w2.heap.size, 3, none⟩ = some (.int .i64 xl) := HY.out.cell 3
      have z0 := HY.out.free 0
      have z1 := HY.out.free 1
      have z2 := HY.out.free 2
      have z3 := HY.out.free 3
      have hxv := HXX.out (by trivial)
      subst hxv
      have HY2 := Lib.hid (HY.out.store4_3 (.int .i64 ln)); have HB2 := Lib.hid (below_set HB.out w2.heap.size 3 hwy (.int .i64 ln)); have HC2 := Lib.hid (below_set HC.out w2.heap.size 3 hwx (.int .i64 ln))
      go_upto_region 11 with (fail)
      clear y0 y1 y2 y3
      clear z0 z1 z2 z3
      clear HY HB HC
      generalize hWE : v2.setCell ⟨w2.heap.size, 3, none⟩ (.int .i64 ln) = v3 at HY2 HB2 HC2 ⊢
      clear hWE
      have y0 : v3.cell? ⟨w2.heap.size, 0, none⟩ = some (.int .i64 xk) := HY2.out.cell 0
      have y1 : v3.cell? ⟨w2.heap.size, 1, none⟩ = some (.string (bs xt)) := HY2.out.cell 1
      have y2 : v3.cell? ⟨w2.heap.size, 2, none⟩ = some (.int .i64 xn) := HY2.out.cell 2
      have y3 : v3.cell? ⟨w2.heap.size, 3, none⟩ = some (.int .i64 ln) := HY2.out.cell 3
      have HO4 := Lib.hid (own_below HO.out HC2.out)
      clear HO
      go_wp2_with (at_builtin; refine wpList_append_tok rfl _ _ rfl w.heap.size _ L0 ⟨xk, xt, xn, ln⟩ HO4.out rfl rfl (by omega) w w.heap.size HB2.out HB2.out.size (Nat.le_refl _) ?_; intro v5 w5 hown5 hb5 _)
      have HO5 := Lib.hid hown5; have HB5 := Lib.hid hb5; clear hown5 hb5
      try go_wp2_with fail
      refine (skip_any l (k + n) (by omega) (by omega) _).mono ?_
      rintro er w6 ⟨⟨k2, rfl, hk2, hk3, hsk, hch⟩, rfl⟩
      have HN := Lib.hid (show tk (l.drop k2) (1 + (cnt l k2 : Int)) (L0 ++ [⟨xk, xt, xn, ln⟩]) = (T, rl, re) by rw [← hsk, HCN.out, ← HF.out, ← HLN.out]); have HCH := Lib.hid hch; clear hsk hch
      go_wp2
      go_roundw
      case rel => exact ⟨k2, L0 ++ [⟨xk, xt, xn, ln⟩], hk3, by go_num, by rw [List.length_append]; show _ + 1 ≤ _; omega, HCH, HO5.out, HN, HB5.out⟩
      case measure => simp [intOf]; omega
    · have hlt' : ¬ (k : Int) < (l.length : Int) := by omega
      have hT : (L0, 0, 0) = (T, rl, re) := (tk_end hlt).symm.trans HQ.out
      have h1 : T = L0 := (congrArg Prod.fst hT).symm
      have h2 : rl = 0 := (congrArg (fun x => x.2.1) hT).symm
      have h3 : re = 0 := (congrArg (fun x => x.2.2) hT).symm
      clear hT
      have H1 := Lib.hid h1; have H2 := Lib.hid h2; have H3 := Lib.hid h3; clear h1 h2 h3
      go_wp2
      go_ret3
      exact ⟨_, by rw [H2.out, H3.out] <;> rfl, by rw [H1.out]; exact own_tokAt HO.out, HB.out⟩
end Go.Proofs.YtkmmdkklpbafdaaGreatDoor
