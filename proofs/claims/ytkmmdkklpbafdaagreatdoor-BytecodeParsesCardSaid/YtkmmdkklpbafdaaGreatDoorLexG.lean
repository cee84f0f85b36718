/- The walk of the reference's token. No conditions. -/
import Derived.Test.YtkmmdkklpbafdaaGreatDoorLexF
import Derived.Test.YtkmmdkklpbafdaaGreatDoorLexE
namespace Go.Proofs.YtkmmdkklpbafdaaGreatDoor
open Go.RowKit

theorem cut_eq (l : List UInt8) (a b : Nat) : (l.take (a + b)).drop a = (l.drop a).take b := by
  rw [List.drop_take]; congr 1; omega
set_option maxRecDepth 100000 in
theorem tokS_quote {l : List UInt8} {a : Nat} (ha : a < l.length) (h : l[a] = 34) : ∃ n, tokS (l.drop a) = (⟨4, (lit [] (l.drop (a + 1)) (a + 1)).1, 0, 0⟩, n, (lit [] (l.drop (a + 1)) (a + 1)).2.2) ∧ ((lit [] (l.drop (a + 1)) (a + 1)).2.2 = 0 → (lit [] (l.drop (a + 1)) (a + 1)).2.1 = a + n) := by
  have hw : ¬ 0 < wlen (l.drop a) := by rw [List.drop_eq_getElem_cons ha, wlen_cons, if_neg (by rw [h]; decide)]; simp
  have hh : (l.drop a).head? = some 34 := by rw [List.drop_eq_getElem_cons ha, h]; rfl
  have hd : (l.drop a).drop 1 = l.drop (a + 1) := by rw [List.drop_drop]
  obtain ⟨s1, s2, s3⟩ := lit_shift (l.drop (a + 1)) [] 1 a
  rw [show 1 + a = a + 1 by omega] at s1 s2 s3
  refine ⟨(lit [] (l.drop (a + 1)) 1).2.1, ?_, ?_⟩
  · unfold tokS; rw [if_neg hw, if_pos hh, hd, s1, s2]
  · intro e; rw [s2] at e; rw [s3 e]; omega
theorem tokS_word {s : List UInt8} (h : 0 < wlen s) : tokS s = ((wTok (s.take (wlen s))).1, wlen s, (wTok (s.take (wlen s))).2) := by unfold tokS; rw [if_pos h]
theorem wlen_pos {l : List UInt8} {a : Nat} (ha : a < l.length) (h : prt l[a] = true) : 0 < wlen (l.drop a) := by rw [List.drop_eq_getElem_cons ha, wlen_cons, if_pos h]; omega
theorem tokS_mark {l : List UInt8} {a : Nat} (ha : a < l.length) (h34 : l[a] ≠ 34) (h : prt l[a] = false) : tokS (l.drop a) = if mkS (l.drop a) = [] then (tk0, 0, 5) else (⟨5, mkS (l.drop a), 0, 0⟩, (mkS (l.drop a)).length, 0) := by
  have hw : ¬ 0 < wlen (l.drop a) := by rw [List.drop_eq_getElem_cons ha, wlen_cons, if_neg (by rw [h]; simp)]; simp
  have hh : ¬ (l.drop a).head? = some 34 := by rw [List.drop_eq_getElem_cons ha]; intro e; exact h34 (Option.some.inj e)
  unfold tokS; rw [if_neg hw, if_neg hh]
theorem MK_len : ∀ m ∈ MK, 1 ≤ m.length ∧ m.length ≤ 2 := by decide
theorem find_none {M : List (List UInt8)} {s : List UInt8} {k : Nat} {F : Option (List UInt8)} (hk : k < M.length) (h : (M.drop k).find? (fun m => m.isPrefixOf s) = F) (hn : ¬ M[k] <+: s) : (M.drop (k + 1)).find? (fun m => m.isPrefixOf s) = F := by
  rw [List.drop_eq_getElem_cons hk, List.find?_cons] at h
  have : M[k].isPrefixOf s = false := by rw [Bool.eq_false_iff]; intro e; exact hn (List.isPrefixOf_iff_prefix.1 e)
  rw [this] at h; exact h
theorem find_some {M : List (List UInt8)} {s : List UInt8} {k : Nat} {F : Option (List UInt8)} (hk : k < M.length) (h : (M.drop k).find? (fun m => m.isPrefixOf s) = F) (hn : M[k] <+: s) : F = some M[k] := by
  rw [List.drop_eq_getElem_cons hk, List.find?_cons, List.isPrefixOf_iff_prefix.2 hn] at h; exact h.symm
theorem pre_cut {l y : List UInt8} {a : Nat} (h : (l.take (a + y.length)).drop a = y) : y <+: l.drop a := by rw [cut_eq] at h; rw [← h]; exact List.take_prefix _ _
theorem cut_pre {l y : List UInt8} {a : Nat} (h : y <+: l.drop a) : (l.take (a + y.length)).drop a = y ∧ a + y.length ≤ max a l.length := by
  have h1 := h.length_le
  rw [List.length_drop] at h1
  refine ⟨by rw [cut_eq, ← List.prefix_iff_eq_take.1 h], by omega⟩
theorem keep4 {W : World} {b c i : Nat} {u : Value} (h : W.drew.cell? ⟨c, i, none⟩ = some u) (hne : b ≠ c) (v0 v1 v2 v3 : Value) : ((((W.setCell ⟨b, 0, none⟩ v0).setCell ⟨b, 1, none⟩ v1).setCell ⟨b, 2, none⟩ v2).setCell ⟨b, 3, none⟩ v3).drew.cell? ⟨c, i, none⟩ = some u :=
  cell1_set v3 hne (cell1_set v2 hne (cell1_set v1 hne (cell1_set v0 hne h)))

set_option maxRecDepth 100000 in
set_option maxHeartbeats 16000000 in
theorem Rtoken_any (l : List UInt8) (a : Nat) (ha : a < l.length) (hl : l.length ≤ 100000) (w : World) :
    Calls Tryz.prog 134 #[.string (bs l), .int .i64 (a : Int)] w fun e w' => ∃ x : Int, e = .returned (.tuple #[.agg (tkV (tokS (l.drop a)).1), .int .i64 x, .int .i64 (tokS (l.drop a)).2.2]) ∧ ((tokS (l.drop a)).2.2 = 0 → x = ((a + (tokS (l.drop a)).2.1 : Nat) : Int)) ∧ Below w.heap.size w w' := by
  have ha' : (a : Int) < (l.length : Int) := by omega
  by_cases h34 : l[a] = 34
  · have t34 := is34 h34
    obtain ⟨n, hq, hx⟩ := tokS_quote ha h34
    obtain ⟨T, q, e, he⟩ : ∃ T q e, lit [] (l.drop (a + 1)) (a + 1) = (T, q, e) := ⟨_, _, _, rfl⟩
    rw [he] at hq hx
    rw [hq]
    simp only at hx ⊢
    simp only [tkV]
    have HQ := Lib.hid he; have HX := Lib.hid hx; clear hq hx he h34
    have HR := Lib.hid (Bx.new w #[.int .i64 0, .string ⟨#[]⟩, .int .i64 0, .int .i64 0] 113); have HB := Lib.hid ((Below.refl w.heap.size w).alloc (Nat.le_refl _) (.cells #[.int .i64 0, .string ⟨#[]⟩, .int .i64 0, .int .i64 0] 113))
    go_enter Tryz.func134, Tryz.ntmps134
    go_upto_region 1 with (fail)
    generalize hW : w.alloc (.cells #[.int .i64 0, .string ⟨#[]⟩, .int .i64 0, .int .i64 0] 113) = v0 at HR HB ⊢
    clear hW
    go_wp2_with fail
    refine (Rliteral_any l a ha hl _).mono ?_
    rw [HQ.out]
    rintro er w1 ⟨x, rfl, hx, rfl⟩
    have HXX := Lib.hid hx; clear hx
    have r0 : v0.cell? ⟨w.heap.size, 0, none⟩ = some (.int .i64 0) := HR.out.cell 0
    have r1 : v0.cell? ⟨w.heap.size, 1, none⟩ = some (.string ⟨#[]⟩) := HR.out.cell 1
    have r2 : v0.cell? ⟨w.heap.size, 2, none⟩ = some (.int .i64 0) := HR.out.cell 2
    have r3 : v0.cell? ⟨w.heap.size, 3, none⟩ = some (.int .i64 0) := HR.out.cell 3
    have f0 := HR.out.free 0
    have f1 := HR.out.free 1
    have f2 := HR.out.free 2
    have f3 := HR.out.free 3
    have HK := Lib.hid (HR.out.sets4 (.int .i64 4) (.string (bs T)) (.int .i64 0) (.int .i64 0))
    go_wp2
    have k0 := HK.out.cell 0
    have k1 := HK.out.cell 1
    have k2 := HK.out.cell 2
    have k3 := HK.out.cell 3
    simp only [List.getElem?_toArray, List.getElem?_cons_zero, List.getElem?_cons_succ] at k0 k1 k2 k3
    refine bodyPost_ret (v := .tuple #[.agg #[.int .i64 4, .string (bs T), .int .i64 0, .int .i64 0], .int .i64 x, .int .i64 e]) (by simp [results, Tryz.results134, go_sem, k0, k1, k2, k3] <;> rfl) rfl ⟨_, rfl, fun h => by rw [HXX.out h, ← HX.out h], ?_⟩
    exact below_sets4 HB.out w.heap.size (Nat.le_refl _) _ _ _ _
  have t34 := not34 h34
  cases hp : prt l[a] with
  | true =>
    have hw := wlen_pos ha hp
    have hwl := wlen_le (l.drop a)
    rw [tokS_word hw]
    have hcut := cut_eq l a (wlen (l.drop a))
    obtain ⟨m, hm⟩ : ∃ m, wlen (l.drop a) = m := ⟨_, rfl⟩
    rw [hm] at hw hwl hcut ⊢
    rw [List.length_drop] at hwl
    have hlen : ((l.drop a).take m).length = m := by rw [List.length_take, List.length_drop]; omega
    obtain ⟨s, hs⟩ : ∃ s, (l.drop a).take m = s := ⟨_, rfl⟩
    rw [hs] at hcut hlen ⊢
    obtain ⟨⟨⟨xk, xt, xn, xl⟩, xe⟩, hx⟩ : ∃ r, wTok s = r := ⟨_, rfl⟩
    rw [hx]
    simp only [tkV]
    have hle1 : a ≤ a + m := by omega
    have hle2 : ((a + m : Nat) : Int) ≤ (l.length : Int) := by omega
    have HX := Lib.hid hx; have HM := Lib.hid hm; have HC := Lib.hid hcut; have HP := Lib.hid hp; clear hx hm hcut hs hp h34
    have HR := Lib.hid (Bx.new w #[.int .i64 0, .string ⟨#[]⟩, .int .i64 0, .int .i64 0] 113); have HB := Lib.hid ((Below.refl w.heap.size w).alloc (Nat.le_refl _) (.cells #[.int .i64 0, .string ⟨#[]⟩, .int .i64 0, .int .i64 0] 113))
    go_enter Tryz.func134, Tryz.ntmps134
    go_upto_region 1 with (fail)
    generalize hW : w.alloc (.cells #[.int .i64 0, .string ⟨#[]⟩, .int .i64 0, .int .i64 0] 113) = v0 at HR HB ⊢
    clear hW
    go_wp2_with fail
    refine (Rpart_any l[a] _).mono ?_
    rw [HP.out]
    rintro er w1 ⟨rfl, rfl⟩
    go_wp2_with fail
    refine (Rword_any l a (by omega) (by omega) _).mono ?_
    rw [HM.out]
    rintro er w2 ⟨rfl, rfl⟩
    go_wp2_with fail
    rw [HC.out]
    refine (RWord_any s (by omega) (by omega) _).mono ?_
    rw [HX.out]
    simp only [tkV]
    rintro er w3 ⟨rfl, hb1⟩
    have hal := (Below.refl w3.heap.size w3).alloc (Nat.le_refl _) (.cells #[.int .i64 xk, .string (bs xt), .int .i64 xn, .int .i64 xl] 113)
    have HR := Lib.hid ((HR.out.call hb1).call hal)
    have HY := Lib.hid (Bx.new w3 #[.int .i64 xk, .string (bs xt), .int .i64 xn, .int .i64 xl] 113)
    have HB := Lib.hid (btrans (btrans HB.out HB.out.size hb1) (btrans HB.out HB.out.size hb1).size hal); clear hb1 hal
    go_upto_region 7 with (fail)
    generalize hW : w3.alloc (.cells #[.int .i64 xk, .string (bs xt), .int .i64 xn, .int .i64 xl] 113) = v3 at HB HR HY ⊢
    clear hW
    have y0 : v3.cell? ⟨w3.heap.size, 0, none⟩ = some (.int .i64 xk) := HY.out.cell 0
    have y1 : v3.cell? ⟨w3.heap.size, 1, none⟩ = some (.string (bs xt)) := HY.out.cell 1
    have y2 : v3.cell? ⟨w3.heap.size, 2, none⟩ = some (.int .i64 xn) := HY.out.cell 2
    have y3 : v3.cell? ⟨w3.heap.size, 3, none⟩ = some (.int .i64 xl) := HY.out.cell 3
    have r0 : v3.cell? ⟨w.heap.size, 0, none⟩ = some (.int .i64 0) := HR.out.cell 0
    have r1 : v3.cell? ⟨w.heap.size, 1, none⟩ = some (.string ⟨#[]⟩) := HR.out.cell 1
    have r2 : v3.cell? ⟨w.heap.size, 2, none⟩ = some (.int .i64 0) := HR.out.cell 2
    have r3 : v3.cell? ⟨w.heap.size, 3, none⟩ = some (.int .i64 0) := HR.out.cell 3
    have f0 := HR.out.free 0
    have f1 := HR.out.free 1
    have f2 := HR.out.free 2
    have f3 := HR.out.free 3
    have HK := Lib.hid (HR.out.sets4 (.int .i64 xk) (.string (bs xt)) (.int .i64 xn) (.int .i64 xl))
    go_wp2
    have k0 := HK.out.cell 0
    have k1 := HK.out.cell 1
    have k2 := HK.out.cell 2
    have k3 := HK.out.cell 3
    simp only [List.getElem?_toArray, List.getElem?_cons_zero, List.getElem?_cons_succ] at k0 k1 k2 k3
    refine bodyPost_ret (v := .tuple #[.agg #[.int .i64 xk, .string (bs xt), .int .i64 xn, .int .i64 xl], .int .i64 ((a + m : Nat) : Int), .int .i64 xe]) (by simp [results, Tryz.results134, go_sem, k0, k1, k2, k3] <;> rfl) rfl ⟨_, rfl, fun _ => rfl, ?_⟩
    exact below_sets4 HB.out w.heap.size (Nat.le_refl _) _ _ _ _
  | false =>
    rw [tokS_mark ha h34 hp]
    obtain ⟨F, hF⟩ : ∃ F, MK.find? (fun m => m.isPrefixOf (l.drop a)) = F := ⟨_, rfl⟩
    have hmk : mkS (l.drop a) = F.getD [] := by unfold mkS; rw [hF]
    rw [hmk]
    obtain ⟨X, n, e, hX⟩ : ∃ X n e, (if F.getD [] = [] then (tk0, 0, 5) else ((⟨5, F.getD [], 0, 0⟩ : Tk), (F.getD []).length, (0 : Int))) = (X, n, e) := ⟨_, _, _, rfl⟩
    rw [hX]
    have HXX := Lib.hid hX; clear hX
    obtain ⟨M, hM⟩ : ∃ M, MK = M := ⟨_, rfl⟩
    have hml := MK_len
    rw [hM] at hF hml
    have hM20 : M.length = 20 := by rw [← hM]; rfl
    have HF := Lib.hid (show (M.drop 0).find? (fun m => m.isPrefixOf (l.drop a)) = F from hF); have HM := Lib.hid hM; have HP := Lib.hid hp; clear hF hmk hM hp h34
    have HR := Lib.hid (Bx.new w #[.int .i64 0, .string ⟨#[]⟩, .int .i64 0, .int .i64 0] 113); have HB := Lib.hid ((Below.refl w.heap.size w).alloc (Nat.le_refl _) (.cells #[.int .i64 0, .string ⟨#[]⟩, .int .i64 0, .int .i64 0] 113))
    go_enter Tryz.func134, Tryz.ntmps134
    go_upto_region 1 with (fail)
    generalize hW : w.alloc (.cells #[.int .i64 0, .string ⟨#[]⟩, .int .i64 0, .int .i64 0] 113) = v0 at HR HB ⊢
    clear hW
    go_wp2_with fail
    refine (Rpart_any l[a] _).mono ?_
    rw [HP.out]
    rintro er w1 ⟨rfl, rfl⟩
    go_wp2_with fail
    refine (Marks_any _).mono ?_
    rw [HM.out]
    rintro er w2 ⟨v, rfl, hS, hb1⟩
    obtain ⟨ad, cap, rfl, hcap, -⟩ := id hS
    have HS := Lib.hid hS; have HR := Lib.hid (HR.out.call hb1); have HB := Lib.hid (btrans HB.out HB.out.size hb1); clear hb1 hS
    have hRlt := HR.out.lt
    go_wp2
    go_loopw [14] (fun i wr => ∃ k : Nat, k ≤ M.length ∧ i = .int .i64 k ∧ Hid ((M.drop k).find? (fun m => m.isPrefixOf (l.drop a)) = F) ∧ Bx w.heap.size #[.int .i64 0, .string ⟨#[]⟩, .int .i64 0, .int .i64 0] 113 wr ∧ StrS wr (.slice ad M.length cap) M ∧ Below w.heap.size w wr) (fun i _ => M.length - (intOf i).toNat)
    case atStart => exact ⟨0, Nat.zero_le _, rfl, HF, HR.out, HS.out, HB.out⟩
    case round =>
      obtain ⟨k, hk, rfl, HQ, hR, hS, hB⟩ := hrel
      clear HR HS HB HF
      have HR := Lib.hid hR; have HS := Lib.hid hS; have HB := Lib.hid hB; clear hR hS hB
      by_cases hlt : k < M.length
      · have hlt' : (k : Int) < (M.length : Int) := by omega
        have hw1 : IntKind.i64.wrap ((k : Int) + 1) = (k : Int) + 1 := by rw [IntKind.wrap_i64]; omega
        obtain ⟨a2, c2, hsl, -, hcells⟩ := HS.out
        obtain ⟨mb, off, had, hcell⟩ := hcells (by intro h; rw [h] at hlt; simp at hlt)
        cases hsl
        subst had
        have c0 : wr.cell? ⟨mb, off + k, none⟩ = some (.string (bs M[k])) := hcell k hlt
        clear hcells hcell
        have hyl := hml M[k] (List.getElem_mem hlt)
        have hfn := @find_none M (l.drop a) k F hlt HQ.out
        have hfs := @find_some M (l.drop a) k F hlt HQ.out
        obtain ⟨y, hy⟩ : ∃ y, M[k] = y := ⟨_, rfl⟩
        rw [hy] at c0 hyl hfn hfs
        have hw2 : IntKind.i64.wrap ((a : Int) + (y.length : Int)) = ((a + y.length : Nat) : Int) := by rw [IntKind.wrap_i64]; omega
        have hs0 : wr.drew.cell? ⟨mb, off + k, none⟩ = some (.string (bs y)) := c0
        have HS0 := Lib.hid hs0; have HFN := Lib.hid hfn; have HFS := Lib.hid hfs; have HY := Lib.hid hy; clear hs0 hfn hfs hy c0
        by_cases hle : a + y.length ≤ l.length
        rotate_left
        · have hle' : decide ((a : Int) + (y.length : Int) ≤ (l.length : Int)) = false := by rw [decide_eq_false]; omega
          have HN := Lib.hid (HFN.out (fun h => by have := (cut_pre h).2; omega))
          go_upto_region 12 with (fail)
          go_wp2_with fail
          refine wp_region_held_drew (S := (fun w' => w'.cell? ⟨mb, off + k, none⟩ = some (.string (bs y)))) (by kernel_rfl) ?_ (fun hHeld => ?_)
          · exact HS0.out
          refine takeH (i := 0) (v := ?vv1) 55 rfl rfl (by kernel_rfl) (by kernel_rfl) (by kernel_rfl) (fun _ _ _ h => h) (Or.inl ⟨by kernel_rfl, ?yy1⟩) (by assumption) ?_
          case yy1 => intro w hSw; (try dsimp only at hSw); go_simp; (try with_reducible rfl)
          simp only [List.setIfInBounds_toArray, List.set_cons_zero, List.set_cons_succ]
          refine takeH (i := 1) (v := ?vv2) 56 rfl rfl (by kernel_rfl) (by kernel_rfl) (by kernel_rfl) (fun _ _ _ h => h) (Or.inl ⟨by kernel_rfl, ?yy2⟩) (by assumption) ?_
          case yy2 => intro w hSw; (try dsimp only at hSw); go_simp; (try with_reducible rfl)
          simp only [List.setIfInBounds_toArray, List.set_cons_zero, List.set_cons_succ]
          refine takeH (i := 2) (v := ?vv3) 57 rfl rfl (by kernel_rfl) (by kernel_rfl) (by kernel_rfl) (fun _ _ _ h => h) (Or.inl ⟨by kernel_rfl, ?yy3⟩) (by assumption) ?_
          case yy3 => intro w hSw; (try dsimp only at hSw); go_simp; (try with_reducible rfl)
          simp only [List.setIfInBounds_toArray, List.set_cons_zero, List.set_cons_succ]
          refine takeH (i := 3) (v := ?vv4) 58 rfl rfl (by kernel_rfl) (by kernel_rfl) (by kernel_rfl) (fun _ _ _ h => h) (Or.inl ⟨by kernel_rfl, ?yy4⟩) (by assumption) ?_
          case yy4 => intro w hSw; (try dsimp only at hSw); go_simp; (try with_reducible rfl)
          simp only [List.setIfInBounds_toArray, List.set_cons_zero, List.set_cons_succ]
          refine takeH (i := 4) (v := ?vv5) 59 rfl rfl (by kernel_rfl) (by kernel_rfl) (by kernel_rfl) (fun _ _ _ h => h) (Or.inl ⟨by kernel_rfl, ?yy5⟩) (by assumption) ?_
          case yy5 => intro w hSw; (try dsimp only at hSw); go_simp; (try with_reducible rfl)
          simp only [List.setIfInBounds_toArray, List.set_cons_zero, List.set_cons_succ]
          refine takeH (i := 5) (v := ?vv6) 60 rfl rfl (by kernel_rfl) (by kernel_rfl) (by kernel_rfl) (fun _ _ _ h => h) (Or.inl ⟨by kernel_rfl, ?yy6⟩) (by assumption) ?_
          case yy6 => intro w hSw; (try dsimp only at hSw); go_simp; (try with_reducible rfl)
          simp only [List.setIfInBounds_toArray, List.set_cons_zero, List.set_cons_succ]
          refine takeH (i := 6) (v := ?vv7) 61 rfl rfl (by kernel_rfl) (by kernel_rfl) (by kernel_rfl) (fun _ _ _ h => h) (Or.inl ⟨by kernel_rfl, ?yy7⟩) (by assumption) ?_
          case yy7 => intro w hSw; (try dsimp only at hSw); go_simp; (try with_reducible rfl)
          simp only [List.setIfInBounds_toArray, List.set_cons_zero, List.set_cons_succ]
          refine takeH (i := 7) (v := ?vv8) 62 rfl rfl (by kernel_rfl) (by kernel_rfl) (by kernel_rfl) (fun _ _ _ h => h) (Or.inl ⟨by kernel_rfl, ?yy8⟩) (by assumption) ?_
          case yy8 => intro w hSw; (try dsimp only at hSw); go_simp; (try with_reducible rfl)
          simp only [List.setIfInBounds_toArray, List.set_cons_zero, List.set_cons_succ]
          refine takeH (i := 8) (v := ?vv9) 63 rfl rfl (by kernel_rfl) (by kernel_rfl) (by kernel_rfl) (fun _ _ _ h => h) (Or.inl ⟨by kernel_rfl, ?yy9⟩) (by assumption) ?_
          case yy9 => intro w hSw; (try dsimp only at hSw); go_simp; (try with_reducible rfl)
          simp only [List.setIfInBounds_toArray, List.set_cons_zero, List.set_cons_succ]
          refine takeH (i := 9) (v := ?vv10) 64 rfl rfl (by kernel_rfl) (by kernel_rfl) (by kernel_rfl) (fun _ _ _ h => h) (Or.inl ⟨by kernel_rfl, ?yy10⟩) (by assumption) ?_
          case yy10 => intro w hSw; (try dsimp only at hSw); go_simp; (try with_reducible rfl)
          simp only [List.setIfInBounds_toArray, List.set_cons_zero, List.set_cons_succ]
          refine takeH (i := 10) (v := ?vv11) 65 rfl rfl (by kernel_rfl) (by kernel_rfl) (by kernel_rfl) (fun _ _ _ h => h) (Or.inl ⟨by kernel_rfl, ?yy11⟩) (by assumption) ?_
          case yy11 => intro w hSw; (try dsimp only at hSw); go_simp; (try with_reducible rfl)
          simp only [List.setIfInBounds_toArray, List.set_cons_zero, List.set_cons_succ]
          refine takeH (i := 11) (v := undef) 66 rfl rfl (by kernel_rfl) (by kernel_rfl) (by kernel_rfl) (fun _ _ _ h => h) (Or.inr ⟨by kernel_rfl, rfl⟩) (by assumption) ?_
          simp only [List.setIfInBounds_toArray, List.set_cons_zero, List.set_cons_succ]
          refine takeH (i := 12) (v := undef) 67 rfl rfl (by kernel_rfl) (by kernel_rfl) (by kernel_rfl) (fun _ _ _ h => h) (Or.inr ⟨by kernel_rfl, rfl⟩) (by assumption) ?_
          simp only [List.setIfInBounds_toArray, List.set_cons_zero, List.set_cons_succ]
          refine takeH (i := 13) (v := undef) 68 rfl rfl (by kernel_rfl) (by kernel_rfl) (by kernel_rfl) (fun _ _ _ h => h) (Or.inr ⟨by kernel_rfl, rfl⟩) (by assumption) ?_
          simp only [List.setIfInBounds_toArray, List.set_cons_zero, List.set_cons_succ]
          refine takeH (i := 14) (v := undef) 69 rfl rfl (by kernel_rfl) (by kernel_rfl) (by kernel_rfl) (fun _ _ _ h => h) (Or.inr ⟨by kernel_rfl, rfl⟩) (by assumption) ?_
          simp only [List.setIfInBounds_toArray, List.set_cons_zero, List.set_cons_succ]
          refine takeH (i := 15) (v := undef) 70 rfl rfl (by kernel_rfl) (by kernel_rfl) (by kernel_rfl) (fun _ _ _ h => h) (Or.inr ⟨by kernel_rfl, rfl⟩) (by assumption) ?_
          simp only [List.setIfInBounds_toArray, List.set_cons_zero, List.set_cons_succ]
          refine takeH (i := 16) (v := undef) 71 rfl rfl (by kernel_rfl) (by kernel_rfl) (by kernel_rfl) (fun _ _ _ h => h) (Or.inr ⟨by kernel_rfl, rfl⟩) (by assumption) ?_
          simp only [List.setIfInBounds_toArray, List.set_cons_zero, List.set_cons_succ]
          refine takeH (i := 17) (v := undef) 72 rfl rfl (by kernel_rfl) (by kernel_rfl) (by kernel_rfl) (fun _ _ _ h => h) (Or.inr ⟨by kernel_rfl, rfl⟩) (by assumption) ?_
          simp only [List.setIfInBounds_toArray, List.set_cons_zero, List.set_cons_succ]
          refine takeH (i := 18) (v := undef) 73 rfl rfl (by kernel_rfl) (by kernel_rfl) (by kernel_rfl) (fun _ _ _ h => h) (Or.inr ⟨by kernel_rfl, rfl⟩) (by assumption) ?_
          simp only [List.setIfInBounds_toArray, List.set_cons_zero, List.set_cons_succ]
          refine takeH (i := 19) (v := undef) 74 rfl rfl (by kernel_rfl) (by kernel_rfl) (by kernel_rfl) (fun _ _ _ h => h) (Or.inr ⟨by kernel_rfl, rfl⟩) (by assumption) ?_
          simp only [List.setIfInBounds_toArray, List.set_cons_zero, List.set_cons_succ]
          refine takeH (i := 20) (v := undef) 75 rfl rfl (by kernel_rfl) (by kernel_rfl) (by kernel_rfl) (fun _ _ _ h => h) (Or.inr ⟨by kernel_rfl, rfl⟩) (by assumption) ?_
          simp only [List.setIfInBounds_toArray, List.set_cons_zero, List.set_cons_succ]
          refine takeH (i := 21) (v := undef) 76 rfl rfl (by kernel_rfl) (by kernel_rfl) (by kernel_rfl) (fun _ _ _ h => h) (Or.inr ⟨by kernel_rfl, rfl⟩) (by assumption) ?_
          simp only [List.setIfInBounds_toArray, List.set_cons_zero, List.set_cons_succ]
          refine takeH (i := 22) (v := undef) 77 rfl rfl (by kernel_rfl) (by kernel_rfl) (by kernel_rfl) (fun _ _ _ h => h) (Or.inr ⟨by kernel_rfl, rfl⟩) (by assumption) ?_
          simp only [List.setIfInBounds_toArray, List.set_cons_zero, List.set_cons_succ]
          refine takeH (i := 23) (v := undef) 78 rfl rfl (by kernel_rfl) (by kernel_rfl) (by kernel_rfl) (fun _ _ _ h => h) (Or.inr ⟨by kernel_rfl, rfl⟩) (by assumption) ?_
          simp only [List.setIfInBounds_toArray, List.set_cons_zero, List.set_cons_succ]
          refine takeH (i := 24) (v := undef) 79 rfl rfl (by kernel_rfl) (by kernel_rfl) (by kernel_rfl) (fun _ _ _ h => h) (Or.inr ⟨by kernel_rfl, rfl⟩) (by assumption) ?_
          simp only [List.setIfInBounds_toArray, List.set_cons_zero, List.set_cons_succ]
          refine takeH (i := 25) (v := undef) 80 rfl rfl (by kernel_rfl) (by kernel_rfl) (by kernel_rfl) (fun _ _ _ h => h) (Or.inr ⟨by kernel_rfl, rfl⟩) (by assumption) ?_
          simp only [List.setIfInBounds_toArray, List.set_cons_zero, List.set_cons_succ]
          refine takeH (i := 26) (v := ?vv12) 81 rfl rfl (by kernel_rfl) (by kernel_rfl) (by kernel_rfl) (fun _ _ _ h => h) (Or.inl ⟨by kernel_rfl, ?yy12⟩) (by assumption) ?_
          case yy12 => intro w hSw; (try dsimp only at hSw); go_simp; (try with_reducible rfl)
          simp only [List.setIfInBounds_toArray, List.set_cons_zero, List.set_cons_succ]
          refine wpAnyH_done (by kernel_rfl) ?_ _
          go_wp2
          go_roundw
          case rel => exact ⟨k + 1, by omega, by go_num, HN, HR.out.drew, HS.out.below (Below.refl _ _).drew, HB.out.trans (Below.refl _ _).drew⟩
          case measure => simp [intOf]; omega
        have hle' : (a : Int) + (y.length : Int) ≤ (l.length : Int) := by omega
        have hle2 : (a : Int) ≤ (a : Int) + (y.length : Int) := by omega
        have hle3 : (0 : Int) ≤ (a : Int) + (y.length : Int) := by omega
        have htn : ((a : Int) + (y.length : Int)).toNat = a + y.length := by omega
        by_cases hc : (l.take (a + y.length)).drop a = y
        rotate_left
        · have tc : ((l.take (a + y.length)).drop a == y) = false := by rw [beq_eq_false_iff_ne]; exact hc
          have HN := Lib.hid (HFN.out (fun h => hc (cut_pre h).1)); clear hc
          go_upto_region 12 with (fail)
          go_wp2_with fail
          refine wp_region_held_drew (S := (fun w' => w'.cell? ⟨mb, off + k, none⟩ = some (.string (bs y)))) (by kernel_rfl) ?_ (fun hHeld => ?_)
          · exact HS0.out
          refine takeH (i := 0) (v := ?vv13) 55 rfl rfl (by kernel_rfl) (by kernel_rfl) (by kernel_rfl) (fun _ _ _ h => h) (Or.inl ⟨by kernel_rfl, ?yy13⟩) (by assumption) ?_
          case yy13 => intro w hSw; (try dsimp only at hSw); go_simp; (try with_reducible rfl)
          simp only [List.setIfInBounds_toArray, List.set_cons_zero, List.set_cons_succ]
          refine takeH (i := 1) (v := ?vv14) 56 rfl rfl (by kernel_rfl) (by kernel_rfl) (by kernel_rfl) (fun _ _ _ h => h) (Or.inl ⟨by kernel_rfl, ?yy14⟩) (by assumption) ?_
          case yy14 => intro w hSw; (try dsimp only at hSw); go_simp; (try with_reducible rfl)
          simp only [List.setIfInBounds_toArray, List.set_cons_zero, List.set_cons_succ]
          refine takeH (i := 2) (v := ?vv15) 57 rfl rfl (by kernel_rfl) (by kernel_rfl) (by kernel_rfl) (fun _ _ _ h => h) (Or.inl ⟨by kernel_rfl, ?yy15⟩) (by assumption) ?_
          case yy15 => intro w hSw; (try dsimp only at hSw); go_simp; (try with_reducible rfl)
          simp only [List.setIfInBounds_toArray, List.set_cons_zero, List.set_cons_succ]
          refine takeH (i := 3) (v := ?vv16) 58 rfl rfl (by kernel_rfl) (by kernel_rfl) (by kernel_rfl) (fun _ _ _ h => h) (Or.inl ⟨by kernel_rfl, ?yy16⟩) (by assumption) ?_
          case yy16 => intro w hSw; (try dsimp only at hSw); go_simp; (try with_reducible rfl)
          simp only [List.setIfInBounds_toArray, List.set_cons_zero, List.set_cons_succ]
          refine takeH (i := 4) (v := ?vv17) 59 rfl rfl (by kernel_rfl) (by kernel_rfl) (by kernel_rfl) (fun _ _ _ h => h) (Or.inl ⟨by kernel_rfl, ?yy17⟩) (by assumption) ?_
          case yy17 => intro w hSw; (try dsimp only at hSw); go_simp; (try with_reducible rfl)
          simp only [List.setIfInBounds_toArray, List.set_cons_zero, List.set_cons_succ]
          refine takeH (i := 5) (v := ?vv18) 60 rfl rfl (by kernel_rfl) (by kernel_rfl) (by kernel_rfl) (fun _ _ _ h => h) (Or.inl ⟨by kernel_rfl, ?yy18⟩) (by assumption) ?_
          case yy18 => intro w hSw; (try dsimp only at hSw); go_simp; (try with_reducible rfl)
          simp only [List.setIfInBounds_toArray, List.set_cons_zero, List.set_cons_succ]
          refine takeH (i := 6) (v := ?vv19) 61 rfl rfl (by kernel_rfl) (by kernel_rfl) (by kernel_rfl) (fun _ _ _ h => h) (Or.inl ⟨by kernel_rfl, ?yy19⟩) (by assumption) ?_
          case yy19 => intro w hSw; (try dsimp only at hSw); go_simp; (try with_reducible rfl)
          simp only [List.setIfInBounds_toArray, List.set_cons_zero, List.set_cons_succ]
          refine takeH (i := 7) (v := ?vv20) 62 rfl rfl (by kernel_rfl) (by kernel_rfl) (by kernel_rfl) (fun _ _ _ h => h) (Or.inl ⟨by kernel_rfl, ?yy20⟩) (by assumption) ?_
          case yy20 => intro w hSw; (try dsimp only at hSw); go_simp; (try with_reducible rfl)
          simp only [List.setIfInBounds_toArray, List.set_cons_zero, List.set_cons_succ]
          refine takeH (i := 8) (v := ?vv21) 63 rfl rfl (by kernel_rfl) (by kernel_rfl) (by kernel_rfl) (fun _ _ _ h => h) (Or.inl ⟨by kernel_rfl, ?yy21⟩) (by assumption) ?_
          case yy21 => intro w hSw; (try dsimp only at hSw); go_simp; (try with_reducible rfl)
          simp only [List.setIfInBounds_toArray, List.set_cons_zero, List.set_cons_succ]
          refine takeH (i := 9) (v := ?vv22) 64 rfl rfl (by kernel_rfl) (by kernel_rfl) (by kernel_rfl) (fun _ _ _ h => h) (Or.inl ⟨by kernel_rfl, ?yy22⟩) (by assumption) ?_
          case yy22 => intro w hSw; (try dsimp only at hSw); go_simp; (try with_reducible rfl)
          simp only [List.setIfInBounds_toArray, List.set_cons_zero, List.set_cons_succ]
          refine takeH (i := 10) (v := ?vv23) 65 rfl rfl (by kernel_rfl) (by kernel_rfl) (by kernel_rfl) (fun _ _ _ h => h) (Or.inl ⟨by kernel_rfl, ?yy23⟩) (by assumption) ?_
          case yy23 => intro w hSw; (try dsimp only at hSw); go_simp; (try with_reducible rfl)
          simp only [List.setIfInBounds_toArray, List.set_cons_zero, List.set_cons_succ]
          refine takeH (i := 11) (v := ?vv24) 66 rfl rfl (by kernel_rfl) (by kernel_rfl) (by kernel_rfl) (fun _ _ _ h => h) (Or.inl ⟨by kernel_rfl, ?yy24⟩) (by assumption) ?_
          case yy24 => intro w hSw; (try dsimp only at hSw); go_simp; (try with_reducible rfl)
          simp only [List.setIfInBounds_toArray, List.set_cons_zero, List.set_cons_succ]
          refine takeH (i := 12) (v := ?vv25) 67 rfl rfl (by kernel_rfl) (by kernel_rfl) (by kernel_rfl) (fun _ _ _ h => h) (Or.inl ⟨by kernel_rfl, ?yy25⟩) (by assumption) ?_
          case yy25 => intro w hSw; (try dsimp only at hSw); go_simp; (try with_reducible rfl)
          simp only [List.setIfInBounds_toArray, List.set_cons_zero, List.set_cons_succ]
          refine takeH (i := 13) (v := ?vv26) 68 rfl rfl (by kernel_rfl) (by kernel_rfl) (by kernel_rfl) (fun _ _ _ h => h) (Or.inl ⟨by kernel_rfl, ?yy26⟩) (by assumption) ?_
          case yy26 => intro w hSw; (try dsimp only at hSw); go_simp; (try with_reducible rfl)
          simp only [List.setIfInBounds_toArray, List.set_cons_zero, List.set_cons_succ]
          refine takeH (i := 14) (v := ?vv27) 69 rfl rfl (by kernel_rfl) (by kernel_rfl) (by kernel_rfl) (fun _ _ _ h => h) (Or.inl ⟨by kernel_rfl, ?yy27⟩) (by assumption) ?_
          case yy27 => intro w hSw; (try dsimp only at hSw); go_simp; (try with_reducible rfl)
          simp only [List.setIfInBounds_toArray, List.set_cons_zero, List.set_cons_succ]
          refine takeH (i := 15) (v := ?vv28) 70 rfl rfl (by kernel_rfl) (by kernel_rfl) (by kernel_rfl) (fun _ _ _ h => h) (Or.inl ⟨by kernel_rfl, ?yy28⟩) (by assumption) ?_
          case yy28 => intro w hSw; (try dsimp only at hSw); go_simp; (try with_reducible rfl)
          simp only [List.setIfInBounds_toArray, List.set_cons_zero, List.set_cons_succ]
          refine takeH (i := 16) (v := ?vv29) 71 rfl rfl (by kernel_rfl) (by kernel_rfl) (by kernel_rfl) (fun _ _ _ h => h) (Or.inl ⟨by kernel_rfl, ?yy29⟩) (by assumption) ?_
          case yy29 => intro w hSw; (try dsimp only at hSw); go_simp; (try with_reducible rfl)
          simp only [List.setIfInBounds_toArray, List.set_cons_zero, List.set_cons_succ]
          refine takeH (i := 17) (v := ?vv30) 72 rfl rfl (by kernel_rfl) (by kernel_rfl) (by kernel_rfl) (fun _ _ _ h => h) (Or.inl ⟨by kernel_rfl, ?yy30⟩) (by assumption) ?_
          case yy30 => intro w hSw; (try dsimp only at hSw); go_simp; (try with_reducible rfl)
          simp only [List.setIfInBounds_toArray, List.set_cons_zero, List.set_cons_succ]
          refine takeH (i := 18) (v := ?vv31) 73 rfl rfl (by kernel_rfl) (by kernel_rfl) (by kernel_rfl) (fun _ _ _ h => h) (Or.inl ⟨by kernel_rfl, ?yy31⟩) (by assumption) ?_
          case yy31 => intro w hSw; (try dsimp only at hSw); go_simp; (try with_reducible rfl)
          simp only [List.setIfInBounds_toArray, List.set_cons_zero, List.set_cons_succ]
          refine takeH (i := 19) (v := ?vv32) 74 rfl rfl (by kernel_rfl) (by kernel_rfl) (by kernel_rfl) (fun _ _ _ h => h) (Or.inl ⟨by kernel_rfl, ?yy32⟩) (by assumption) ?_
          case yy32 => intro w hSw; (try dsimp only at hSw); go_simp; (try with_reducible rfl)
          simp only [List.setIfInBounds_toArray, List.set_cons_zero, List.set_cons_succ]
          refine takeH (i := 20) (v := ?vv33) 75 rfl rfl (by kernel_rfl) (by kernel_rfl) (by kernel_rfl) (fun _ _ _ h => h) (Or.inl ⟨by kernel_rfl, ?yy33⟩) (by assumption) ?_
          case yy33 => intro w hSw; (try dsimp only at hSw); go_simp; (try with_reducible rfl)
          simp only [List.setIfInBounds_toArray, List.set_cons_zero, List.set_cons_succ]
          refine takeH (i := 21) (v := ?vv34) 76 rfl rfl (by kernel_rfl) (by kernel_rfl) (by kernel_rfl) (fun _ _ _ h => h) (Or.inl ⟨by kernel_rfl, ?yy34⟩) (by assumption) ?_
          case yy34 => intro w hSw; (try dsimp only at hSw); go_simp; (try with_reducible rfl)
          simp only [List.setIfInBounds_toArray, List.set_cons_zero, List.set_cons_succ]
          refine takeH (i := 22) (v := ?vv35) 77 rfl rfl (by kernel_rfl) (by kernel_rfl) (by kernel_rfl) (fun _ _ _ h => h) (Or.inl ⟨by kernel_rfl, ?yy35⟩) (by assumption) ?_
          case yy35 => intro w hSw; (try dsimp only at hSw); go_simp; (try with_reducible rfl)
          simp only [List.setIfInBounds_toArray, List.set_cons_zero, List.set_cons_succ]
          refine takeH (i := 23) (v := ?vv36) 78 rfl rfl (by kernel_rfl) (by kernel_rfl) (by kernel_rfl) (fun _ _ _ h => h) (Or.inl ⟨by kernel_rfl, ?yy36⟩) (by assumption) ?_
          case yy36 => intro w hSw; (try dsimp only at hSw); go_simp; (try with_reducible rfl)
          simp only [List.setIfInBounds_toArray, List.set_cons_zero, List.set_cons_succ]
          refine takeH (i := 24) (v := ?vv37) 79 rfl rfl (by kernel_rfl) (by kernel_rfl) (by kernel_rfl) (fun _ _ _ h => h) (Or.inl ⟨by kernel_rfl, ?yy37⟩) (by assumption) ?_
          case yy37 => intro w hSw; (try dsimp only at hSw); go_simp; (try with_reducible rfl)
          simp only [List.setIfInBounds_toArray, List.set_cons_zero, List.set_cons_succ]
          refine takeH (i := 25) (v := ?vv38) 80 rfl rfl (by kernel_rfl) (by kernel_rfl) (by kernel_rfl) (fun _ _ _ h => h) (Or.inl ⟨by kernel_rfl, ?yy38⟩) (by assumption) ?_
          case yy38 => intro w hSw; (try dsimp only at hSw); go_simp; (try with_reducible rfl)
          simp only [List.setIfInBounds_toArray, List.set_cons_zero, List.set_cons_succ]
          refine takeH (i := 26) (v := ?vv39) 81 rfl rfl (by kernel_rfl) (by kernel_rfl) (by kernel_rfl) (fun _ _ _ h => h) (Or.inl ⟨by kernel_rfl, ?yy39⟩) (by assumption) ?_
          case yy39 => intro w hSw; (try dsimp only at hSw); go_simp; (try with_reducible rfl)
          simp only [List.setIfInBounds_toArray, List.set_cons_zero, List.set_cons_succ]
          refine wpAnyH_done (by kernel_rfl) ?_ _
          go_wp2
          go_roundw
          case rel => exact ⟨k + 1, by omega, by go_num, HN, HR.out.drew, HS.out.below (Below.refl _ _).drew, HB.out.trans (Below.refl _ _).drew⟩
          case measure => simp [intOf]; omega
        have tc : ((l.take (a + y.length)).drop a == y) = true := by rw [beq_iff_eq]; exact hc
        have hFy := HFS.out (pre_cut hc)
        have hne : ¬ y = [] := by intro e; rw [e] at hyl; simp at hyl
        have hX := HXX.out
        have hgd : F.getD [] = y := by rw [hFy]; rfl
        rw [hgd, if_neg hne] at hX
        have h1 : X = ⟨5, y, 0, 0⟩ := (congrArg Prod.fst hX).symm
        have h2 : n = y.length := (congrArg (fun x => x.2.1) hX).symm
        have h3 : e = 0 := (congrArg (fun x => x.2.2) hX).symm
        have HCC := Lib.hid hc; have HFY := Lib.hid hFy; have H1 := Lib.hid h1; have H2 := Lib.hid h2; have H3 := Lib.hid h3; clear hc hFy hgd hne hX h1 h2 h3
        go_upto_region 12 with (fail)
        go_wp2_with fail
        refine wp_region_held_drew (S := (fun w' => w'.cell? ⟨mb, off + k, none⟩ = some (.string (bs y)))) (by kernel_rfl) ?_ (fun hHeld => ?_)
        · exact HS0.out
        refine takeH (i := 0) (v := ?vv40) 55 rfl rfl (by kernel_rfl) (by kernel_rfl) (by kernel_rfl) (fun _ _ _ h => h) (Or.inl ⟨by kernel_rfl, ?yy40⟩) (by assumption) ?_
        case yy40 => intro w hSw; (try dsimp only at hSw); go_simp; (try with_reducible rfl)
        simp only [List.setIfInBounds_toArray, List.set_cons_zero, List.set_cons_succ]
        refine takeH (i := 1) (v := ?vv41) 56 rfl rfl (by kernel_rfl) (by kernel_rfl) (by kernel_rfl) (fun _ _ _ h => h) (Or.inl ⟨by kernel_rfl, ?yy41⟩) (by assumption) ?_
        case yy41 => intro w hSw; (try dsimp only at hSw); go_simp; (try with_reducible rfl)
        simp only [List.setIfInBounds_toArray, List.set_cons_zero, List.set_cons_succ]
        refine takeH (i := 2) (v := ?vv42) 57 rfl rfl (by kernel_rfl) (by kernel_rfl) (by kernel_rfl) (fun _ _ _ h => h) (Or.inl ⟨by kernel_rfl, ?yy42⟩) (by assumption) ?_
        case yy42 => intro w hSw; (try dsimp only at hSw); go_simp; (try with_reducible rfl)
        simp only [List.setIfInBounds_toArray, List.set_cons_zero, List.set_cons_succ]
        refine takeH (i := 3) (v := ?vv43) 58 rfl rfl (by kernel_rfl) (by kernel_rfl) (by kernel_rfl) (fun _ _ _ h => h) (Or.inl ⟨by kernel_rfl, ?yy43⟩) (by assumption) ?_
        case yy43 => intro w hSw; (try dsimp only at hSw); go_simp; (try with_reducible rfl)
        simp only [List.setIfInBounds_toArray, List.set_cons_zero, List.set_cons_succ]
        refine takeH (i := 4) (v := ?vv44) 59 rfl rfl (by kernel_rfl) (by kernel_rfl) (by kernel_rfl) (fun _ _ _ h => h) (Or.inl ⟨by kernel_rfl, ?yy44⟩) (by assumption) ?_
        case yy44 => intro w hSw; (try dsimp only at hSw); go_simp; (try with_reducible rfl)
        simp only [List.setIfInBounds_toArray, List.set_cons_zero, List.set_cons_succ]
        refine takeH (i := 5) (v := ?vv45) 60 rfl rfl (by kernel_rfl) (by kernel_rfl) (by kernel_rfl) (fun _ _ _ h => h) (Or.inl ⟨by kernel_rfl, ?yy45⟩) (by assumption) ?_
        case yy45 => intro w hSw; (try dsimp only at hSw); go_simp; (try with_reducible rfl)
        simp only [List.setIfInBounds_toArray, List.set_cons_zero, List.set_cons_succ]
        refine takeH (i := 6) (v := ?vv46) 61 rfl rfl (by kernel_rfl) (by kernel_rfl) (by kernel_rfl) (fun _ _ _ h => h) (Or.inl ⟨by kernel_rfl, ?yy46⟩) (by assumption) ?_
        case yy46 => intro w hSw; (try dsimp only at hSw); go_simp; (try with_reducible rfl)
        simp only [List.setIfInBounds_toArray, List.set_cons_zero, List.set_cons_succ]
        refine takeH (i := 7) (v := ?vv47) 62 rfl rfl (by kernel_rfl) (by kernel_rfl) (by kernel_rfl) (fun _ _ _ h => h) (Or.inl ⟨by kernel_rfl, ?yy47⟩) (by assumption) ?_
        case yy47 => intro w hSw; (try dsimp only at hSw); go_simp; (try with_reducible rfl)
        simp only [List.setIfInBounds_toArray, List.set_cons_zero, List.set_cons_succ]
        refine takeH (i := 8) (v := ?vv48) 63 rfl rfl (by kernel_rfl) (by kernel_rfl) (by kernel_rfl) (fun _ _ _ h => h) (Or.inl ⟨by kernel_rfl, ?yy48⟩) (by assumption) ?_
        case yy48 => intro w hSw; (try dsimp only at hSw); go_simp; (try with_reducible rfl)
        simp only [List.setIfInBounds_toArray, List.set_cons_zero, List.set_cons_succ]
        refine takeH (i := 9) (v := ?vv49) 64 rfl rfl (by kernel_rfl) (by kernel_rfl) (by kernel_rfl) (fun _ _ _ h => h) (Or.inl ⟨by kernel_rfl, ?yy49⟩) (by assumption) ?_
        case yy49 => intro w hSw; (try dsimp only at hSw); go_simp; (try with_reducible rfl)
        simp only [List.setIfInBounds_toArray, List.set_cons_zero, List.set_cons_succ]
        refine takeH (i := 10) (v := ?vv50) 65 rfl rfl (by kernel_rfl) (by kernel_rfl) (by kernel_rfl) (fun _ _ _ h => h) (Or.inl ⟨by kernel_rfl, ?yy50⟩) (by assumption) ?_
        case yy50 => intro w hSw; (try dsimp only at hSw); go_simp; (try with_reducible rfl)
        simp only [List.setIfInBounds_toArray, List.set_cons_zero, List.set_cons_succ]
        refine takeH (i := 11) (v := ?vv51) 66 rfl rfl (by kernel_rfl) (by kernel_rfl) (by kernel_rfl) (fun _ _ _ h => h) (Or.inl ⟨by kernel_rfl, ?yy51⟩) (by assumption) ?_
        case yy51 => intro w hSw; (try dsimp only at hSw); go_simp; (try with_reducible rfl)
        simp only [List.setIfInBounds_toArray, List.set_cons_zero, List.set_cons_succ]
        refine takeH (i := 12) (v := ?vv52) 67 rfl rfl (by kernel_rfl) (by kernel_rfl) (by kernel_rfl) (fun _ _ _ h => h) (Or.inl ⟨by kernel_rfl, ?yy52⟩) (by assumption) ?_
        case yy52 => intro w hSw; (try dsimp only at hSw); go_simp; (try with_reducible rfl)
        simp only [List.setIfInBounds_toArray, List.set_cons_zero, List.set_cons_succ]
        refine takeH (i := 13) (v := ?vv53) 68 rfl rfl (by kernel_rfl) (by kernel_rfl) (by kernel_rfl) (fun _ _ _ h => h) (Or.inl ⟨by kernel_rfl, ?yy53⟩) (by assumption) ?_
        case yy53 => intro w hSw; (try dsimp only at hSw); go_simp; (try with_reducible rfl)
        simp only [List.setIfInBounds_toArray, List.set_cons_zero, List.set_cons_succ]
        refine takeH (i := 14) (v := ?vv54) 69 rfl rfl (by kernel_rfl) (by kernel_rfl) (by kernel_rfl) (fun _ _ _ h => h) (Or.inl ⟨by kernel_rfl, ?yy54⟩) (by assumption) ?_
        case yy54 => intro w hSw; (try dsimp only at hSw); go_simp; (try with_reducible rfl)
        simp only [List.setIfInBounds_toArray, List.set_cons_zero, List.set_cons_succ]
        refine takeH (i := 15) (v := ?vv55) 70 rfl rfl (by kernel_rfl) (by kernel_rfl) (by kernel_rfl) (fun _ _ _ h => h) (Or.inl ⟨by kernel_rfl, ?yy55⟩) (by assumption) ?_
        case yy55 => intro w hSw; (try dsimp only at hSw); go_simp; (try with_reducible rfl)
        simp only [List.setIfInBounds_toArray, List.set_cons_zero, List.set_cons_succ]
        refine takeH (i := 16) (v := ?vv56) 71 rfl rfl (by kernel_rfl) (by kernel_rfl) (by kernel_rfl) (fun _ _ _ h => h) (Or.inl ⟨by kernel_rfl, ?yy56⟩) (by assumption) ?_
        case yy56 => intro w hSw; (try dsimp only at hSw); go_simp; (try with_reducible rfl)
        simp only [List.setIfInBounds_toArray, List.set_cons_zero, List.set_cons_succ]
        refine takeH (i := 17) (v := ?vv57) 72 rfl rfl (by kernel_rfl) (by kernel_rfl) (by kernel_rfl) (fun _ _ _ h => h) (Or.inl ⟨by kernel_rfl, ?yy57⟩) (by assumption) ?_
        case yy57 => intro w hSw; (try dsimp only at hSw); go_simp; (try with_reducible rfl)
        simp only [List.setIfInBounds_toArray, List.set_cons_zero, List.set_cons_succ]
        refine takeH (i := 18) (v := ?vv58) 73 rfl rfl (by kernel_rfl) (by kernel_rfl) (by kernel_rfl) (fun _ _ _ h => h) (Or.inl ⟨by kernel_rfl, ?yy58⟩) (by assumption) ?_
        case yy58 => intro w hSw; (try dsimp only at hSw); go_simp; (try with_reducible rfl)
        simp only [List.setIfInBounds_toArray, List.set_cons_zero, List.set_cons_succ]
        refine takeH (i := 19) (v := ?vv59) 74 rfl rfl (by kernel_rfl) (by kernel_rfl) (by kernel_rfl) (fun _ _ _ h => h) (Or.inl ⟨by kernel_rfl, ?yy59⟩) (by assumption) ?_
        case yy59 => intro w hSw; (try dsimp only at hSw); go_simp; (try with_reducible rfl)
        simp only [List.setIfInBounds_toArray, List.set_cons_zero, List.set_cons_succ]
        refine takeH (i := 20) (v := ?vv60) 75 rfl rfl (by kernel_rfl) (by kernel_rfl) (by kernel_rfl) (fun _ _ _ h => h) (Or.inl ⟨by kernel_rfl, ?yy60⟩) (by assumption) ?_
        case yy60 => intro w hSw; (try dsimp only at hSw); go_simp; (try with_reducible rfl)
        simp only [List.setIfInBounds_toArray, List.set_cons_zero, List.set_cons_succ]
        refine takeH (i := 21) (v := ?vv61) 76 rfl rfl (by kernel_rfl) (by kernel_rfl) (by kernel_rfl) (fun _ _ _ h => h) (Or.inl ⟨by kernel_rfl, ?yy61⟩) (by assumption) ?_
        case yy61 => intro w hSw; (try dsimp only at hSw); go_simp; (try with_reducible rfl)
        simp only [List.setIfInBounds_toArray, List.set_cons_zero, List.set_cons_succ]
        refine takeH (i := 22) (v := ?vv62) 77 rfl rfl (by kernel_rfl) (by kernel_rfl) (by kernel_rfl) (fun _ _ _ h => h) (Or.inl ⟨by kernel_rfl, ?yy62⟩) (by assumption) ?_
        case yy62 => intro w hSw; (try dsimp only at hSw); go_simp; (try with_reducible rfl)
        simp only [List.setIfInBounds_toArray, List.set_cons_zero, List.set_cons_succ]
        refine takeH (i := 23) (v := ?vv63) 78 rfl rfl (by kernel_rfl) (by kernel_rfl) (by kernel_rfl) (fun _ _ _ h => h) (Or.inl ⟨by kernel_rfl, ?yy63⟩) (by assumption) ?_
        case yy63 => intro w hSw; (try dsimp only at hSw); go_simp; (try with_reducible rfl)
        simp only [List.setIfInBounds_toArray, List.set_cons_zero, List.set_cons_succ]
        refine takeH (i := 24) (v := ?vv64) 79 rfl rfl (by kernel_rfl) (by kernel_rfl) (by kernel_rfl) (fun _ _ _ h => h) (Or.inl ⟨by kernel_rfl, ?yy64⟩) (by assumption) ?_
        case yy64 => intro w hSw; (try dsimp only at hSw); go_simp; (try with_reducible rfl)
        simp only [List.setIfInBounds_toArray, List.set_cons_zero, List.set_cons_succ]
        refine takeH (i := 25) (v := ?vv65) 80 rfl rfl (by kernel_rfl) (by kernel_rfl) (by kernel_rfl) (fun _ _ _ h => h) (Or.inl ⟨by kernel_rfl, ?yy65⟩) (by assumption) ?_
        case yy65 => intro w hSw; (try dsimp only at hSw); go_simp; (try with_reducible rfl)
        simp only [List.setIfInBounds_toArray, List.set_cons_zero, List.set_cons_succ]
        refine takeH (i := 26) (v := ?vv66) 81 rfl rfl (by kernel_rfl) (by kernel_rfl) (by kernel_rfl) (fun _ _ _ h => h) (Or.inl ⟨by kernel_rfl, ?yy66⟩) (by assumption) ?_
        case yy66 => intro w hSw; (try dsimp only at hSw); go_simp; (try with_reducible rfl)
        simp only [List.setIfInBounds_toArray, List.set_cons_zero, List.set_cons_succ]
        refine wpAnyH_done (by kernel_rfl) ?_ _
        have HRd := Lib.hid HR.out.drew; have HBd := Lib.hid (HB.out.trans (Below.refl _ _).drew)
        have hsd : wr.drew.drew.cell? ⟨mb, off + k, none⟩ = some (.string (bs y)) := HS0.out
        have HSD := Lib.hid hsd; have hmne : w.heap.size ≠ mb := by intro e; have h1 := HS0.out; rw [← e, HRd.out.cell (off + k)] at h1; revert h1; rcases (off + k) with _ | _ | _ | _ | q <;> intro h1 <;> simp at h1; (have h2 := congrArg ByteArray.size h1; rw [bs_size] at h2; have : (ByteArray.mk #[]).size = 0 := rfl; omega)
        clear hsd
        go_upto_region 13 with (fail)
        generalize hWd : wr.drew = wd at HRd HBd HSD hHeld ⊢
        clear hWd
        go_wp2_with fail
        refine wp_region_held_drew (S := (fun w' => w'.cell? ⟨mb, off + k, none⟩ = some (.string (bs y)))) (by kernel_rfl) ?_ (fun hHeld => ?_)
        · exact HSD.out
        refine takeH (i := 0) (v := ?vv67) 82 rfl rfl (by kernel_rfl) (by kernel_rfl) (by kernel_rfl) (fun _ _ _ h => h) (Or.inl ⟨by kernel_rfl, ?yy67⟩) (by assumption) ?_
        case yy67 => intro w hSw; (try dsimp only at hSw); go_simp; (try with_reducible rfl)
        simp only [List.setIfInBounds_toArray, List.set_cons_zero, List.set_cons_succ]
        refine takeH (i := 1) (v := ?vv68) 83 rfl rfl (by kernel_rfl) (by kernel_rfl) (by kernel_rfl) (fun _ _ _ h => h) (Or.inl ⟨by kernel_rfl, ?yy68⟩) (by assumption) ?_
        case yy68 => intro w hSw; (try dsimp only at hSw); go_simp; (try with_reducible rfl)
        simp only [List.setIfInBounds_toArray, List.set_cons_zero, List.set_cons_succ]
        refine takeH (i := 2) (v := ?vv69) 84 rfl rfl (by kernel_rfl) (by kernel_rfl) (by kernel_rfl) (fun _ _ _ h => h) (Or.inl ⟨by kernel_rfl, ?yy69⟩) (by assumption) ?_
        case yy69 => intro w hSw; (try dsimp only at hSw); go_simp; (try with_reducible rfl)
        simp only [List.setIfInBounds_toArray, List.set_cons_zero, List.set_cons_succ]
        refine takeH (i := 3) (v := ?vv70) 85 rfl rfl (by kernel_rfl) (by kernel_rfl) (by kernel_rfl) (fun _ _ _ h => h) (Or.inl ⟨by kernel_rfl, ?yy70⟩) (by assumption) ?_
        case yy70 => intro w hSw; (try dsimp only at hSw); go_simp; (try with_reducible rfl)
        simp only [List.setIfInBounds_toArray, List.set_cons_zero, List.set_cons_succ]
        refine takeH (i := 4) (v := ?vv71) 86 rfl rfl (by kernel_rfl) (by kernel_rfl) (by kernel_rfl) (fun _ _ _ h => h) (Or.inl ⟨by kernel_rfl, ?yy71⟩) (by assumption) ?_
        case yy71 => intro w hSw; (try dsimp only at hSw); go_simp; (try with_reducible rfl)
        simp only [List.setIfInBounds_toArray, List.set_cons_zero, List.set_cons_succ]
        refine takeH (i := 5) (v := ?vv72) 87 rfl rfl (by kernel_rfl) (by kernel_rfl) (by kernel_rfl) (fun _ _ _ h => h) (Or.inl ⟨by kernel_rfl, ?yy72⟩) (by assumption) ?_
        case yy72 => intro w hSw; (try dsimp only at hSw); go_simp; (try with_reducible rfl)
        simp only [List.setIfInBounds_toArray, List.set_cons_zero, List.set_cons_succ]
        refine takeH (i := 6) (v := ?vv73) 88 rfl rfl (by kernel_rfl) (by kernel_rfl) (by kernel_rfl) (fun _ _ _ h => h) (Or.inl ⟨by kernel_rfl, ?yy73⟩) (by assumption) ?_
        case yy73 => intro w hSw; (try dsimp only at hSw); go_simp; (try with_reducible rfl)
        simp only [List.setIfInBounds_toArray, List.set_cons_zero, List.set_cons_succ]
        refine takeH (i := 7) (v := ?vv74) 89 rfl rfl (by kernel_rfl) (by kernel_rfl) (by kernel_rfl) (fun _ _ _ h => h) (Or.inl ⟨by kernel_rfl, ?yy74⟩) (by assumption) ?_
        case yy74 => intro w hSw; (try dsimp only at hSw); go_simp; (try with_reducible rfl)
        simp only [List.setIfInBounds_toArray, List.set_cons_zero, List.set_cons_succ]
        refine takeH (i := 8) (v := ?vv75) 90 rfl rfl (by kernel_rfl) (by kernel_rfl) (by kernel_rfl) (fun _ _ _ h => h) (Or.inl ⟨by kernel_rfl, ?yy75⟩) (by assumption) ?_
        case yy75 => intro w hSw; (try dsimp only at hSw); go_simp; (try with_reducible rfl)
        simp only [List.setIfInBounds_toArray, List.set_cons_zero, List.set_cons_succ]
        refine takeH (i := 9) (v := ?vv76) 91 rfl rfl (by kernel_rfl) (by kernel_rfl) (by kernel_rfl) (fun _ _ _ h => h) (Or.inl ⟨by kernel_rfl, ?yy76⟩) (by assumption) ?_
        case yy76 => intro w hSw; (try dsimp only at hSw); go_simp; (try with_reducible rfl)
        simp only [List.setIfInBounds_toArray, List.set_cons_zero, List.set_cons_succ]
        refine takeH (i := 10) (v := ?vv77) 92 rfl rfl (by kernel_rfl) (by kernel_rfl) (by kernel_rfl) (fun _ _ _ h => h) (Or.inl ⟨by kernel_rfl, ?yy77⟩) (by assumption) ?_
        case yy77 => intro w hSw; (try dsimp only at hSw); go_simp; (try with_reducible rfl)
        simp only [List.setIfInBounds_toArray, List.set_cons_zero, List.set_cons_succ]
        refine takeH (i := 11) (v := ?vv78) 93 rfl rfl (by kernel_rfl) (by kernel_rfl) (by kernel_rfl) (fun _ _ _ h => h) (Or.inl ⟨by kernel_rfl, ?yy78⟩) (by assumption) ?_
        case yy78 => intro w hSw; (try dsimp only at hSw); go_simp; (try with_reducible rfl)
        simp only [List.setIfInBounds_toArray, List.set_cons_zero, List.set_cons_succ]
        refine wpAnyH_ready (rs := [12]) (by kernel_rfl) (by simp) ?_
        refine (AllReadyH.cons rfl (fun K hK => ?_) AllReadyH.nil)
        have r0 : wd.cell? ⟨w.heap.size, 0, none⟩ = some (.int .i64 0) := HRd.out.cell 0
        have r1 : wd.cell? ⟨w.heap.size, 1, none⟩ = some (.string ⟨#[]⟩) := HRd.out.cell 1
        have r2 : wd.cell? ⟨w.heap.size, 2, none⟩ = some (.int .i64 0) := HRd.out.cell 2
        have r3 : wd.cell? ⟨w.heap.size, 3, none⟩ = some (.int .i64 0) := HRd.out.cell 3
        have f0 : wd.frozen? ⟨w.heap.size, 0, none⟩ = false := HRd.out.free 0
        have f1 : wd.frozen? ⟨w.heap.size, 1, none⟩ = false := HRd.out.free 1
        have f2 : wd.frozen? ⟨w.heap.size, 2, none⟩ = false := HRd.out.free 2
        have f3 : wd.frozen? ⟨w.heap.size, 3, none⟩ = false := HRd.out.free 3
        go_simp
        refine hK.out _ _ ?_ (fun hHeld => ?_)
        · exact keep4 (W := wd) (by assumption) hmne _ _ _ _
        clear hK K
        (try simp only [Act.put, List.setIfInBounds_toArray, List.set_cons_zero, List.set_cons_succ])
        refine takeH (i := 13) (v := ?vv79) 5 rfl rfl (by kernel_rfl) (by kernel_rfl) (by kernel_rfl) (fun _ _ _ h => h) (Or.inl ⟨by kernel_rfl, ?yy79⟩) (by assumption) ?_
        case yy79 => intro w hSw; (try dsimp only at hSw); go_simp; (try with_reducible rfl)
        simp only [List.setIfInBounds_toArray, List.set_cons_zero, List.set_cons_succ]
        refine takeH (i := 14) (v := ?vv80) 6 rfl rfl (by kernel_rfl) (by kernel_rfl) (by kernel_rfl) (fun _ _ _ h => h) (Or.inl ⟨by kernel_rfl, ?yy80⟩) (by assumption) ?_
        case yy80 => intro w hSw; (try dsimp only at hSw); go_simp; (try with_reducible rfl)
        simp only [List.setIfInBounds_toArray, List.set_cons_zero, List.set_cons_succ]
        refine wpAnyH_done (by kernel_rfl) ?_ _
        clear r0 r1 r2 r3
        clear f0 f1 f2 f3
        have KR := Lib.hid (HRd.out.sets4 (.int .i64 5) (.string (bs y)) (.int .i64 0) (.int .i64 0)); have KB := Lib.hid ((below_sets4 HBd.out w.heap.size (Nat.le_refl _) (.int .i64 5) (.string (bs y)) (.int .i64 0) (.int .i64 0)).trans (Below.refl _ _).drew)
        go_wp2
        have k0 := KR.out.cell 0
        have k1 := KR.out.cell 1
        have k2 := KR.out.cell 2
        have k3 := KR.out.cell 3
        simp only [List.getElem?_toArray, List.getElem?_cons_zero, List.getElem?_cons_succ] at k0 k1 k2 k3
        refine bodyPost_ret (v := .tuple #[.agg #[.int .i64 5, .string (bs y), .int .i64 0, .int .i64 0], .int .i64 ((a + y.length : Nat) : Int), .int .i64 0]) (by simp [results, Tryz.results134, go_sem, k0, k1, k2, k3] <;> rfl) rfl ⟨((a + y.length : Nat) : Int), by rw [H1.out, H3.out] <;> rfl, fun _ => by rw [H2.out], KB.out⟩
      · have hlt' : ¬ (k : Int) < (M.length : Int) := by omega
        have hFn : F = none := by rw [← HQ.out, List.drop_of_length_le (l := M) (by omega)]; rfl
        have hX := HXX.out
        have hgd : F.getD [] = [] := by rw [hFn]; rfl
        rw [hgd, if_pos rfl] at hX
        have h1 : X = tk0 := (congrArg Prod.fst hX).symm
        have h3 : e = 5 := (congrArg (fun x => x.2.2) hX).symm
        have HFN := Lib.hid hFn; have H1 := Lib.hid h1; have H3 := Lib.hid h3; clear hFn hgd hX h1 h3
        have r0 : wr.cell? ⟨w.heap.size, 0, none⟩ = some (.int .i64 0) := HR.out.cell 0
        have r1 : wr.cell? ⟨w.heap.size, 1, none⟩ = some (.string ⟨#[]⟩) := HR.out.cell 1
        have r2 : wr.cell? ⟨w.heap.size, 2, none⟩ = some (.int .i64 0) := HR.out.cell 2
        have r3 : wr.cell? ⟨w.heap.size, 3, none⟩ = some (.int .i64 0) := HR.out.cell 3
        have f0 := HR.out.free 0
        have f1 := HR.out.free 1
        have f2 := HR.out.free 2
        have f3 := HR.out.free 3
        have HK := Lib.hid (HR.out.sets4 (.int .i64 0) (.string ⟨#[]⟩) (.int .i64 0) (.int .i64 0))
        go_wp2
        have k0 := HK.out.cell 0
        have k1 := HK.out.cell 1
        have k2 := HK.out.cell 2
        have k3 := HK.out.cell 3
        simp only [List.getElem?_toArray, List.getElem?_cons_zero, List.getElem?_cons_succ] at k0 k1 k2 k3
        refine bodyPost_ret (v := .tuple #[.agg #[.int .i64 0, .string (bs []), .int .i64 0, .int .i64 0], .int .i64 (a : Int), .int .i64 5]) (by simp [results, Tryz.results134, go_sem, k0, k1, k2, k3] <;> rfl) rfl ⟨(a : Int), by rw [H1.out, H3.out] <;> rfl, fun h => by rw [H3.out] at h; exact absurd h (by decide), ?_⟩
        exact below_sets4 HB.out w.heap.size (Nat.le_refl _) _ _ _ _
end Go.Proofs.YtkmmdkklpbafdaaGreatDoor
