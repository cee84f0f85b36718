/- The walks of the reference's literal, Word, skip and feeds. No conditions. -/
import Derived.Test.YtkmmdkklpbafdaaGreatDoorLexQ
namespace Go.Proofs.YtkmmdkklpbafdaaGreatDoor
open Go.RowKit

set_option maxRecDepth 100000 in
set_option maxHeartbeats 8000000 in
theorem Rliteral_any (l : List UInt8) (a : Nat) (ha : a < l.length) (hl : l.length ≤ 100000) (w : World) :
    Calls Tryz.prog 159 #[.string (bs l), .int .i64 (a : Int)] w fun e w' => ∃ x : Int, e = .returned (.tuple #[.string (bs (lit [] (l.drop (a + 1)) (a + 1)).1), .int .i64 x, .int .i64 (lit [] (l.drop (a + 1)) (a + 1)).2.2]) ∧ ((lit [] (l.drop (a + 1)) (a + 1)).2.2 = 0 → x = ((lit [] (l.drop (a + 1)) (a + 1)).2.1 : Int)) ∧ w = w' := by
  obtain ⟨T, q, e, he⟩ : ∃ T q e, lit [] (l.drop (a + 1)) (a + 1) = (T, q, e) := ⟨_, _, _, rfl⟩
  rw [he]
  have HU := Lib.hid he; clear he
  have hw0 : IntKind.i64.wrap ((a : Int) + 1) = ((a + 1 : Nat) : Int) := by rw [IntKind.wrap_i64]; omega
  go_enter Tryz.func159, Tryz.ntmps159
  go_wp2
  go_loop [1, 7] (fun i s => ∃ (k : Nat) (L0 : List UInt8), k ≤ l.length ∧ i = .int .i64 k ∧ s = .string (bs L0) ∧ L0.length ≤ 64 ∧ Hid (lit L0 (l.drop k) k = (T, q, e))) (fun i _ => l.length - (intOf i).toNat)
  case atStart => exact ⟨a + 1, [], by omega, by go_num, rfl, Nat.zero_le _, HU⟩
  case round =>
    obtain ⟨k, L0, hk, rfl, rfl, hL0, HQ⟩ := hrel
    clear HU
    by_cases hlt : k < l.length
    · have hlt' : (k : Int) < (l.length : Int) := by omega
      have hlt1 : (k : Int) + 1 ≤ (l.length : Int) := by omega
      obtain ⟨k1, hk1⟩ : ∃ k1, k + 1 = k1 := ⟨_, rfl⟩
      have hw1 : IntKind.i64.wrap ((k : Int) + 1) = (k1 : Int) := by rw [IntKind.wrap_i64]; omega
      have hle : k ≤ k1 := by omega
      have hle2 : k1 ≤ l.length := by omega
      have hle3 : (k1 : Int) ≤ (l.length : Int) := by omega
      have HK1 := Lib.hid hk1; clear hk1
      by_cases h34 : l[k] = 34
      · have t34 := is34 h34
        have HF := Lib.hid (lit_34 (L := L0) hlt h34); clear h34
        have HE := Lib.hid (HQ.out.symm.trans (HF.out))
        have hT : T = L0 := congrArg Prod.fst HE.out
        have hq : q = k + 1 := congrArg (fun x => x.2.1) HE.out
        have hE : e = 0 := congrArg (fun x => x.2.2) HE.out
        have HT := Lib.hid hT; have HQQ := Lib.hid hq; have HEE := Lib.hid hE; clear hT hE hq HE
        go_wp2
        go_ret3
        exact ⟨_, by rw [HT.out, HEE.out] <;> rfl, fun _ => by rw [HQQ.out, HK1.out], rfl⟩
      have t34 := not34 h34
      by_cases h92 : l[k] = 92
      · have t92 := is92 h92
        by_cases he : k1 < l.length
        · have he' : ((k1 : Int) == (l.length : Int)) = false := by rw [beq_eq_false_iff_ne]; omega
          have he2 : (k1 : Int) < (l.length : Int) := by omega
          have hw2 : IntKind.i64.wrap ((k1 : Int) + 1) = ((k1 + 1 : Nat) : Int) := by rw [IntKind.wrap_i64]; omega
          by_cases a34 : l[k1] = 34
          · have s34 := eq34 a34
            by_cases hL : L0.length = 64
            · have hL' : ((L0.length : Int) == 64) = true := by rw [beq_iff_eq]; omega
              have HF := Lib.hid (lit_92f (L := L0) HK1.out hlt h92 he (Or.inl a34) hL); clear h34 h92 a34 hL
              have HE := Lib.hid (HQ.out.symm.trans (HF.out))
              have hT : T = [] := congrArg Prod.fst HE.out
              have hq : q = 0 := congrArg (fun x => x.2.1) HE.out
              have hE : e = 2 := congrArg (fun x => x.2.2) HE.out
              have HT := Lib.hid hT; have HQQ := Lib.hid hq; have HEE := Lib.hid hE; clear hT hE hq HE
              go_wp2
              go_ret3
              exact ⟨_, by rw [HT.out, HEE.out] <;> rfl, fun h => by rw [HEE.out] at h; exact absurd h (by decide), rfl⟩
            have hL' : ((L0.length : Int) == 64) = false := by rw [beq_eq_false_iff_ne]; omega
            have HN := Lib.hid (HQ.out.symm.trans (lit_92 (L := L0) HK1.out hlt h92 he (Or.inl a34) hL)); clear h34 h92 a34
            go_wp2
            go_round
            case rel => exact ⟨k1 + 1, L0 ++ [l[k1]], by omega, by go_num, by simp [bs, one_at l k1 (k1 + 1) rfl he], by rw [List.length_append]; show _ + 1 ≤ _; omega, Lib.hid HN.out.symm⟩
            case measure => have := HK1.out; simp [intOf]; omega
          have s34 := neq34 a34
          by_cases a92 : l[k1] = 92
          · have s92 := eq92 a92
            by_cases hL : L0.length = 64
            · have hL' : ((L0.length : Int) == 64) = true := by rw [beq_iff_eq]; omega
              have HF := Lib.hid (lit_92f (L := L0) HK1.out hlt h92 he (Or.inr a92) hL); clear h34 h92 a34 a92 hL
              have HE := Lib.hid (HQ.out.symm.trans (HF.out))
              have hT : T = [] := congrArg Prod.fst HE.out
              have hq : q = 0 := congrArg (fun x => x.2.1) HE.out
              have hE : e = 2 := congrArg (fun x => x.2.2) HE.out
              have HT := Lib.hid hT; have HQQ := Lib.hid hq; have HEE := Lib.hid hE; clear hT hE hq HE
              go_wp2
              go_ret3
              exact ⟨_, by rw [HT.out, HEE.out] <;> rfl, fun h => by rw [HEE.out] at h; exact absurd h (by decide), rfl⟩
            have hL' : ((L0.length : Int) == 64) = false := by rw [beq_eq_false_iff_ne]; omega
            have HN := Lib.hid (HQ.out.symm.trans (lit_92 (L := L0) HK1.out hlt h92 he (Or.inr a92) hL)); clear h34 h92 a34 a92
            go_wp2
            go_round
            case rel => exact ⟨k1 + 1, L0 ++ [l[k1]], by omega, by go_num, by simp [bs, one_at l k1 (k1 + 1) rfl he], by rw [List.length_append]; show _ + 1 ≤ _; omega, Lib.hid HN.out.symm⟩
            case measure => have := HK1.out; simp [intOf]; omega
          have s92 := neq92 a92
          have HE0 := Lib.hid (lit_92b (L := L0) HK1.out hlt h92 he a34 a92); clear h34 h92 a34 a92
          have HE := Lib.hid (HQ.out.symm.trans (HE0.out))
          have hT : T = [] := congrArg Prod.fst HE.out
          have hq : q = 0 := congrArg (fun x => x.2.1) HE.out
          have hE : e = 5 := congrArg (fun x => x.2.2) HE.out
          have HT := Lib.hid hT; have HQQ := Lib.hid hq; have HEE := Lib.hid hE; clear hT hE hq HE
          go_wp2
          go_ret3
          exact ⟨_, by rw [HT.out, HEE.out] <;> rfl, fun h => by rw [HEE.out] at h; exact absurd h (by decide), rfl⟩
        have he' : ((k1 : Int) == (l.length : Int)) = true := by have := HK1.out; rw [beq_iff_eq]; omega
        have HE0 := Lib.hid (lit_92e (L := L0) HK1.out hlt h92 he); clear h34 h92
        have HE := Lib.hid (HQ.out.symm.trans (HE0.out))
        have hT : T = [] := congrArg Prod.fst HE.out
        have hq : q = 0 := congrArg (fun x => x.2.1) HE.out
        have hE : e = 6 := congrArg (fun x => x.2.2) HE.out
        have HT := Lib.hid hT; have HQQ := Lib.hid hq; have HEE := Lib.hid hE; clear hT hE hq HE
        go_wp2
        go_ret3
        exact ⟨_, by rw [HT.out, HEE.out] <;> rfl, fun h => by rw [HEE.out] at h; exact absurd h (by decide), rfl⟩
      have t92 := not92 h92
      by_cases h1 : (l[k].toNat : Int) < 32
      · have HE0 := Lib.hid (lit_no (L := L0) hlt h34 h92 (okc_lo h1)); clear h34 h92
        have HE := Lib.hid (HQ.out.symm.trans (HE0.out))
        have hT : T = [] := congrArg Prod.fst HE.out
        have hq : q = 0 := congrArg (fun x => x.2.1) HE.out
        have hE : e = 5 := congrArg (fun x => x.2.2) HE.out
        have HT := Lib.hid hT; have HQQ := Lib.hid hq; have HEE := Lib.hid hE; clear hT hE hq HE
        go_wp2
        go_ret3
        exact ⟨_, by rw [HT.out, HEE.out] <;> rfl, fun h => by rw [HEE.out] at h; exact absurd h (by decide), rfl⟩
      by_cases h2 : (126 : Int) < (l[k].toNat : Int)
      · have HE0 := Lib.hid (lit_no (L := L0) hlt h34 h92 (okc_hi h2)); clear h34 h92
        have HE := Lib.hid (HQ.out.symm.trans (HE0.out))
        have hT : T = [] := congrArg Prod.fst HE.out
        have hq : q = 0 := congrArg (fun x => x.2.1) HE.out
        have hE : e = 5 := congrArg (fun x => x.2.2) HE.out
        have HT := Lib.hid hT; have HQQ := Lib.hid hq; have HEE := Lib.hid hE; clear hT hE hq HE
        go_wp2
        go_ret3
        exact ⟨_, by rw [HT.out, HEE.out] <;> rfl, fun h => by rw [HEE.out] at h; exact absurd h (by decide), rfl⟩
      by_cases hL : L0.length = 64
      · have hL' : ((L0.length : Int) == 64) = true := by rw [beq_iff_eq]; omega
        have HF := Lib.hid (lit_full (L := L0) hlt h34 h92 ((okc_iff _).2 (by omega)) hL); clear h34 h92 hL
        have HE := Lib.hid (HQ.out.symm.trans (HF.out))
        have hT : T = [] := congrArg Prod.fst HE.out
        have hq : q = 0 := congrArg (fun x => x.2.1) HE.out
        have hE : e = 2 := congrArg (fun x => x.2.2) HE.out
        have HT := Lib.hid hT; have HQQ := Lib.hid hq; have HEE := Lib.hid hE; clear hT hE hq HE
        go_wp2
        go_ret3
        exact ⟨_, by rw [HT.out, HEE.out] <;> rfl, fun h => by rw [HEE.out] at h; exact absurd h (by decide), rfl⟩
      have hL' : ((L0.length : Int) == 64) = false := by rw [beq_eq_false_iff_ne]; omega
      have HN := Lib.hid (HQ.out.symm.trans (lit_go (L := L0) HK1.out hlt h34 h92 ((okc_iff _).2 (by omega)) hL)); clear h34 h92
      go_wp2
      go_round
      case rel => exact ⟨k1, L0 ++ [l[k]], by omega, by go_num, by simp [bs, one_at l k (k1) HK1.out hlt], by rw [List.length_append]; show _ + 1 ≤ _; omega, Lib.hid HN.out.symm⟩
      case measure => have := HK1.out; simp [intOf]; omega
    · have hlt' : ¬ (k : Int) < (l.length : Int) := by omega
      have HE0 := Lib.hid (lit_end (L := L0) hlt)
      have HE := Lib.hid (HQ.out.symm.trans (HE0.out))
      have hT : T = [] := congrArg Prod.fst HE.out
      have hq : q = 0 := congrArg (fun x => x.2.1) HE.out
      have hE : e = 6 := congrArg (fun x => x.2.2) HE.out
      have HT := Lib.hid hT; have HQQ := Lib.hid hq; have HEE := Lib.hid hE; clear hT hE hq HE
      go_wp2
      go_ret3
      exact ⟨_, by rw [HT.out, HEE.out] <;> rfl, fun h => by rw [HEE.out] at h; exact absurd h (by decide), rfl⟩
set_option maxRecDepth 100000 in
set_option maxHeartbeats 8000000 in
theorem RWord_any (l : List UInt8) (h0 : 0 < l.length) (hl : l.length ≤ 100000) (w : World) :
    Calls Tryz.prog 162 #[.string (bs l)] w fun e w' => e = .returned (.tuple #[.agg (tkV (wTok l).1), .int .i64 (wTok l).2]) ∧ Below w.heap.size w w' := by
  rw [wTok_eq h0]
  have h0i : (1 : Int) ≤ (l.length : Int) := by omega
  cases h1 : ltr l[0] with
  | true =>
    rw [if_pos rfl]
    have H1 := Lib.hid h1; clear h1
    cases hk : isKw l with
    | true =>
      rw [if_pos rfl]
      have HK1 := Lib.hid hk; clear hk
      show Calls _ _ _ _ fun e w' => e = .returned (.tuple #[.agg (tkV (⟨2, l, 0, 0⟩)), .int .i64 0]) ∧ _
      simp only [tkV]
      have HR := Lib.hid (Bx.new w #[.int .i64 0, .string ⟨#[]⟩, .int .i64 0, .int .i64 0] 113); have HB := Lib.hid ((Below.refl w.heap.size w).alloc (Nat.le_refl _) (.cells #[.int .i64 0, .string ⟨#[]⟩, .int .i64 0, .int .i64 0] 113))
      go_enter Tryz.func162, Tryz.ntmps162
      go_upto_region 1 with (fail)
      generalize hW : w.alloc (.cells #[.int .i64 0, .string ⟨#[]⟩, .int .i64 0, .int .i64 0] 113) = v0 at HR HB ⊢
      clear hW
      go_wp2_with fail
      refine (Rletter_any l[0] _).mono ?_
      rw [H1.out]
      rintro er w1 ⟨rfl, rfl⟩
      go_wp2_with fail
      refine (RIsKeyword_any l _).mono ?_
      rw [HK1.out]
      rintro er w2 ⟨rfl, hb1⟩
      have HR := Lib.hid (HR.out.call hb1)
      have HB := Lib.hid (btrans HB.out HB.out.size hb1); clear hb1
      have r0 : w2.cell? ⟨w.heap.size, 0, none⟩ = some (.int .i64 0) := HR.out.cell 0
      have r1 : w2.cell? ⟨w.heap.size, 1, none⟩ = some (.string ⟨#[]⟩) := HR.out.cell 1
      have r2 : w2.cell? ⟨w.heap.size, 2, none⟩ = some (.int .i64 0) := HR.out.cell 2
      have r3 : w2.cell? ⟨w.heap.size, 3, none⟩ = some (.int .i64 0) := HR.out.cell 3
      have f0 := HR.out.free 0
      have f1 := HR.out.free 1
      have f2 := HR.out.free 2
      have f3 := HR.out.free 3
      have HK := Lib.hid (HR.out.sets4 (.int .i64 2) (.string (bs l)) (.int .i64 0) (.int .i64 0))
      go_wp2
      have k0 := HK.out.cell 0
      have k1 := HK.out.cell 1
      have k2 := HK.out.cell 2
      have k3 := HK.out.cell 3
      simp only [List.getElem?_toArray, List.getElem?_cons_zero, List.getElem?_cons_succ] at k0 k1 k2 k3
      refine bodyPost_ret (v := .tuple #[.agg #[.int .i64 2, .string (bs l), .int .i64 0, .int .i64 0], .int .i64 0]) (by simp [results, Tryz.results162, go_sem, k0, k1, k2, k3] <;> rfl) rfl ⟨rfl, ?_⟩
      exact below_sets4 HB.out w.heap.size (Nat.le_refl _) _ _ _ _
    | false =>
      rw [if_neg (by simp)]
      have HK1 := Lib.hid hk; clear hk
      cases hn : isNm l with
      | true =>
        rw [if_pos rfl]
        have HN := Lib.hid hn; clear hn
        show Calls _ _ _ _ fun e w' => e = .returned (.tuple #[.agg (tkV (⟨1, l, 0, 0⟩)), .int .i64 0]) ∧ _
        simp only [tkV]
        have HR := Lib.hid (Bx.new w #[.int .i64 0, .string ⟨#[]⟩, .int .i64 0, .int .i64 0] 113); have HB := Lib.hid ((Below.refl w.heap.size w).alloc (Nat.le_refl _) (.cells #[.int .i64 0, .string ⟨#[]⟩, .int .i64 0, .int .i64 0] 113))
        go_enter Tryz.func162, Tryz.ntmps162
        go_upto_region 1 with (fail)
        generalize hW : w.alloc (.cells #[.int .i64 0, .string ⟨#[]⟩, .int .i64 0, .int .i64 0] 113) = v0 at HR HB ⊢
        clear hW
        go_wp2_with fail
        refine (Rletter_any l[0] _).mono ?_
        rw [H1.out]
        rintro er w1 ⟨rfl, rfl⟩
        go_wp2_with fail
        refine (RIsKeyword_any l _).mono ?_
        rw [HK1.out]
        rintro er w2 ⟨rfl, hb1⟩
        have HR := Lib.hid (HR.out.call hb1)
        have HB := Lib.hid (btrans HB.out HB.out.size hb1); clear hb1
        go_wp2_with fail
        refine (RIsName_any l (by omega) _).mono ?_
        rw [HN.out]
        rintro er w3 ⟨rfl, hb1⟩
        have HR := Lib.hid (HR.out.call hb1)
        have HB := Lib.hid (btrans HB.out HB.out.size hb1); clear hb1
        have r0 : w3.cell? ⟨w.heap.size, 0, none⟩ = some (.int .i64 0) := HR.out.cell 0
        have r1 : w3.cell? ⟨w.heap.size, 1, none⟩ = some (.string ⟨#[]⟩) := HR.out.cell 1
        have r2 : w3.cell? ⟨w.heap.size, 2, none⟩ = some (.int .i64 0) := HR.out.cell 2
        have r3 : w3.cell? ⟨w.heap.size, 3, none⟩ = some (.int .i64 0) := HR.out.cell 3
        have f0 := HR.out.free 0
        have f1 := HR.out.free 1
        have f2 := HR.out.free 2
        have f3 := HR.out.free 3
        have HK := Lib.hid (HR.out.sets4 (.int .i64 1) (.string (bs l)) (.int .i64 0) (.int .i64 0))
        go_wp2
        have k0 := HK.out.cell 0
        have k1 := HK.out.cell 1
        have k2 := HK.out.cell 2
        have k3 := HK.out.cell 3
        simp only [List.getElem?_toArray, List.getElem?_cons_zero, List.getElem?_cons_succ] at k0 k1 k2 k3
        refine bodyPost_ret (v := .tuple #[.agg #[.int .i64 1, .string (bs l), .int .i64 0, .int .i64 0], .int .i64 0]) (by simp [results, Tryz.results162, go_sem, k0, k1, k2, k3] <;> rfl) rfl ⟨rfl, ?_⟩
        exact below_sets4 HB.out w.heap.size (Nat.le_refl _) _ _ _ _
      | false =>
        rw [if_neg (by simp)]
        have HN := Lib.hid hn; clear hn
        show Calls _ _ _ _ fun e w' => e = .returned (.tuple #[.agg (tkV (tk0)), .int .i64 2]) ∧ _
        simp only [tkV, tk0]
        have HR := Lib.hid (Bx.new w #[.int .i64 0, .string ⟨#[]⟩, .int .i64 0, .int .i64 0] 113); have HB := Lib.hid ((Below.refl w.heap.size w).alloc (Nat.le_refl _) (.cells #[.int .i64 0, .string ⟨#[]⟩, .int .i64 0, .int .i64 0] 113))
        go_enter Tryz.func162, Tryz.ntmps162
        go_upto_region 1 with (fail)
        generalize hW : w.alloc (.cells #[.int .i64 0, .string ⟨#[]⟩, .int .i64 0, .int .i64 0] 113) = v0 at HR HB ⊢
        clear hW
        go_wp2_with fail
        refine (Rletter_any l[0] _).mono ?_
        rw [H1.out]
        rintro er w1 ⟨rfl, rfl⟩
        go_wp2_with fail
        refine (RIsKeyword_any l _).mono ?_
        rw [HK1.out]
        rintro er w2 ⟨rfl, hb1⟩
        have HR := Lib.hid (HR.out.call hb1)
        have HB := Lib.hid (btrans HB.out HB.out.size hb1); clear hb1
        go_wp2_with fail
        refine (RIsName_any l (by omega) _).mono ?_
        rw [HN.out]
        rintro er w3 ⟨rfl, hb1⟩
        have HR := Lib.hid (HR.out.call hb1)
        have HB := Lib.hid (btrans HB.out HB.out.size hb1); clear hb1
        have r0 : w3.cell? ⟨w.heap.size, 0, none⟩ = some (.int .i64 0) := HR.out.cell 0
        have r1 : w3.cell? ⟨w.heap.size, 1, none⟩ = some (.string ⟨#[]⟩) := HR.out.cell 1
        have r2 : w3.cell? ⟨w.heap.size, 2, none⟩ = some (.int .i64 0) := HR.out.cell 2
        have r3 : w3.cell? ⟨w.heap.size, 3, none⟩ = some (.int .i64 0) := HR.out.cell 3
        have f0 := HR.out.free 0
        have f1 := HR.out.free 1
        have f2 := HR.out.free 2
        have f3 := HR.out.free 3
        have HK := Lib.hid (HR.out.sets4 (.int .i64 0) (.string ⟨#[]⟩) (.int .i64 0) (.int .i64 0))
        go_wp2
        have k0 := HK.out.cell 0
        have k1 := HK.out.cell 1
        have k2 := HK.out.cell 2
        have k3 := HK.out.cell 3
        simp only [List.getElem?_toArray, List.getElem?_cons_zero, List.getElem?_cons_succ] at k0 k1 k2 k3
        refine bodyPost_ret (v := .tuple #[.agg #[.int .i64 0, .string (bs []), .int .i64 0, .int .i64 0], .int .i64 2]) (by simp [results, Tryz.results162, go_sem, k0, k1, k2, k3] <;> rfl) rfl ⟨rfl, ?_⟩
        exact below_sets4 HB.out w.heap.size (Nat.le_refl _) _ _ _ _
  | false =>
    rw [if_neg (by simp)]
    have H1 := Lib.hid h1; clear h1
    obtain ⟨⟨n, pe⟩, hp⟩ : ∃ r, parseS l = r := ⟨_, rfl⟩
    rw [hp]
    have HP := Lib.hid hp; clear hp
    by_cases he : pe = 0
    · have te : (pe != 0) = false := by rw [he]; rfl
      rw [if_pos (by show pe = 0; exact he)]
      have HE := Lib.hid he; clear he
      show Calls _ _ _ _ fun e w' => e = .returned (.tuple #[.agg (tkV (⟨3, [], n, 0⟩)), .int .i64 0]) ∧ _
      simp only [tkV]
      have HR := Lib.hid (Bx.new w #[.int .i64 0, .string ⟨#[]⟩, .int .i64 0, .int .i64 0] 113); have HB := Lib.hid ((Below.refl w.heap.size w).alloc (Nat.le_refl _) (.cells #[.int .i64 0, .string ⟨#[]⟩, .int .i64 0, .int .i64 0] 113))
      go_enter Tryz.func162, Tryz.ntmps162
      go_upto_region 1 with (fail)
      generalize hW : w.alloc (.cells #[.int .i64 0, .string ⟨#[]⟩, .int .i64 0, .int .i64 0] 113) = v0 at HR HB ⊢
      clear hW
      go_wp2_with fail
      refine (Rletter_any l[0] _).mono ?_
      rw [H1.out]
      rintro er w1 ⟨rfl, rfl⟩
      go_wp2_with fail
      refine (RParse_any l _ (by omega)).mono ?_
      rw [HP.out]
      rintro er w2 ⟨rfl, rfl⟩
      have r0 : v0.cell? ⟨w.heap.size, 0, none⟩ = some (.int .i64 0) := HR.out.cell 0
      have r1 : v0.cell? ⟨w.heap.size, 1, none⟩ = some (.string ⟨#[]⟩) := HR.out.cell 1
      have r2 : v0.cell? ⟨w.heap.size, 2, none⟩ = some (.int .i64 0) := HR.out.cell 2
      have r3 : v0.cell? ⟨w.heap.size, 3, none⟩ = some (.int .i64 0) := HR.out.cell 3
      have f0 := HR.out.free 0
      have f1 := HR.out.free 1
      have f2 := HR.out.free 2
      have f3 := HR.out.free 3
      have HK := Lib.hid (HR.out.sets4 (.int .i64 3) (.string (⟨#[]⟩)) (.int .i64 n) (.int .i64 0))
      go_wp2
      have k0 := HK.out.cell 0
      have k1 := HK.out.cell 1
      have k2 := HK.out.cell 2
      have k3 := HK.out.cell 3
      simp only [List.getElem?_toArray, List.getElem?_cons_zero, List.getElem?_cons_succ] at k0 k1 k2 k3
      refine bodyPost_ret (v := .tuple #[.agg #[.int .i64 3, .string (bs []), .int .i64 n, .int .i64 0], .int .i64 0]) (by simp [results, Tryz.results162, go_sem, k0, k1, k2, k3] <;> rfl) rfl ⟨rfl, ?_⟩
      exact below_sets4 HB.out w.heap.size (Nat.le_refl _) _ _ _ _
    · have te : (pe != 0) = true := by rw [bne_iff_ne]; exact he
      rw [if_neg (by show ¬ pe = 0; exact he)]
      have HE := Lib.hid he; clear he
      show Calls _ _ _ _ fun e w' => e = .returned (.tuple #[.agg (tkV (tk0)), .int .i64 pe]) ∧ _
      simp only [tkV, tk0]
      have HR := Lib.hid (Bx.new w #[.int .i64 0, .string ⟨#[]⟩, .int .i64 0, .int .i64 0] 113); have HB := Lib.hid ((Below.refl w.heap.size w).alloc (Nat.le_refl _) (.cells #[.int .i64 0, .string ⟨#[]⟩, .int .i64 0, .int .i64 0] 113))
      go_enter Tryz.func162, Tryz.ntmps162
      go_upto_region 1 with (fail)
      generalize hW : w.alloc (.cells #[.int .i64 0, .string ⟨#[]⟩, .int .i64 0, .int .i64 0] 113) = v0 at HR HB ⊢
      clear hW
      go_wp2_with fail
      refine (Rletter_any l[0] _).mono ?_
      rw [H1.out]
      rintro er w1 ⟨rfl, rfl⟩
      go_wp2_with fail
      refine (RParse_any l _ (by omega)).mono ?_
      rw [HP.out]
      rintro er w2 ⟨rfl, rfl⟩
      have r0 : v0.cell? ⟨w.heap.size, 0, none⟩ = some (.int .i64 0) := HR.out.cell 0
      have r1 : v0.cell? ⟨w.heap.size, 1, none⟩ = some (.string ⟨#[]⟩) := HR.out.cell 1
      have r2 : v0.cell? ⟨w.heap.size, 2, none⟩ = some (.int .i64 0) := HR.out.cell 2
      have r3 : v0.cell? ⟨w.heap.size, 3, none⟩ = some (.int .i64 0) := HR.out.cell 3
      have f0 := HR.out.free 0
      have f1 := HR.out.free 1
      have f2 := HR.out.free 2
      have f3 := HR.out.free 3
      have HK := Lib.hid (HR.out.sets4 (.int .i64 0) (.string ⟨#[]⟩) (.int .i64 0) (.int .i64 0))
      go_wp2
      have k0 := HK.out.cell 0
      have k1 := HK.out.cell 1
      have k2 := HK.out.cell 2
      have k3 := HK.out.cell 3
      simp only [List.getElem?_toArray, List.getElem?_cons_zero, List.getElem?_cons_succ] at k0 k1 k2 k3
      refine bodyPost_ret (v := .tuple #[.agg #[.int .i64 0, .string (bs []), .int .i64 0, .int .i64 0], .int .i64 pe]) (by simp [results, Tryz.results162, go_sem, k0, k1, k2, k3] <;> rfl) rfl ⟨rfl, ?_⟩
      exact below_sets4 HB.out w.heap.size (Nat.le_refl _) _ _ _ _
set_option maxRecDepth 100000 in
set_option maxHeartbeats 4000000 in
theorem feeds_any (l : List UInt8) (a : Nat) (ha : a ≤ l.length) (hl : l.length ≤ 1000000) (w : World) :
    Calls Tryz.prog 133 #[.string (bs l), .int .i64 (a : Int)] w fun e w' => e = .returned (.int .i64 ((cnt l a : Nat) : Int)) ∧ w = w' := by
  go_enter Tryz.func133, Tryz.ntmps133
  go_wp2
  go_loop [5, 6] (fun n i => ∃ k : Nat, k ≤ a ∧ i = .int .i64 k ∧ n = .int .i64 ((cnt l k : Nat) : Int)) (fun _ i => a - (intOf i).toNat)
  case atStart => exact ⟨0, Nat.zero_le _, rfl, rfl⟩
  case round =>
    obtain ⟨k, hk, rfl, rfl⟩ := hrel
    have hcl := cnt_le l k
    by_cases hlt : k < a
    · have hlt' : (k : Int) < (a : Int) := by omega
      have hll : k < l.length := by omega
      have hll' : (k : Int) < (l.length : Int) := by omega
      have hw1 : IntKind.i64.wrap ((k : Int) + 1) = (k : Int) + 1 := by rw [IntKind.wrap_i64]; omega
      have hw2 : IntKind.i64.wrap (((cnt l k : Nat) : Int) + 1) = ((cnt l k + 1 : Nat) : Int) := by rw [IntKind.wrap_i64]; omega
      by_cases h10 : l[k] = 10
      · have t10 := isB (n := 10) rfl h10
        have HN := Lib.hid (cnt_10 hll h10); clear h10
        go_wp2
        go_round
        case rel => exact ⟨k + 1, by omega, by go_num, by rw [HN.out]; rfl⟩
        case measure => simp [intOf]; omega
      · have t10 := notB (n := 10) rfl h10
        have HN := Lib.hid (cnt_no hll h10); clear h10
        go_wp2
        go_round
        case rel => exact ⟨k + 1, by omega, by go_num, by rw [HN.out]⟩
        case measure => simp [intOf]; omega
    · have hlt' : ¬ (k : Int) < (a : Int) := by omega
      have hka : k = a := by omega
      have HKA := Lib.hid hka; clear hka
      go_wp2
      go_ret
      exact ⟨by rw [← HKA.out] <;> rfl, rfl⟩
/-- from offset a the tokens go on at offset k -/
def Skp (l : List UInt8) (a k : Nat) : Prop := ∀ L : List Tk, tk (l.drop a) (1 + (cnt l a : Int)) L = tk (l.drop k) (1 + (cnt l k : Int)) L
theorem Skp.refl (l : List UInt8) (a : Nat) : Skp l a a := fun _ => rfl
theorem Skp.nl {l : List UInt8} {a k : Nat} (h : Skp l a k) (hk : k < l.length) (h10 : l[k] = 10) : Skp l a (k + 1) := fun L => by rw [h L, tk_10 hk h10, cnt_10 hk h10]; congr 1 <;> omega
theorem Skp.bl {l : List UInt8} {a k : Nat} (h : Skp l a k) (hk : k < l.length) (h10 : l[k] ≠ 10) (hb : l[k] = 32 ∨ l[k] = 9) : Skp l a (k + 1) := fun L => by rw [h L, tk_bl hk h10 hb, cnt_no hk h10]
set_option maxRecDepth 100000 in
theorem cnt_dw {l : List UInt8} {k : Nat} : ∀ {k2 : Nat}, k ≤ k2 → k2 ≤ l.length → (∀ j (h : j < l.length), k ≤ j → j < k2 → l[j] ≠ 10) → cnt l k2 = cnt l k ∧ (l.drop k).dropWhile (fun x => x != 10) = (l.drop k2).dropWhile fun x => x != 10 := by
  intro k2
  induction k2 with
  | zero => intro h _ _; have : k = 0 := by omega
            subst this; exact ⟨rfl, rfl⟩
  | succ q ih =>
    intro h1 h2 h3
    rcases Nat.lt_or_eq_of_le h1 with h | h
    · obtain ⟨e1, e2⟩ := ih (by omega) (by omega) (fun j hj a b => h3 j hj a (by omega))
      have hq : l[q] ≠ 10 := h3 q (by omega) (by omega) (by omega)
      exact ⟨by rw [cnt_no (by omega) hq, e1], by rw [e2, dw_go (by omega) hq]⟩
    · subst h; exact ⟨rfl, rfl⟩
theorem Skp.hash {l : List UInt8} {a k k2 : Nat} (h : Skp l a k) (hk : k < l.length) (h35 : l[k] = 35) (h1 : k ≤ k2) (h2 : k2 ≤ l.length) (h3 : ∀ j (h : j < l.length), k ≤ j → j < k2 → l[j] ≠ 10) (h4 : (l.drop k2).dropWhile (fun x => x != 10) = l.drop k2) : Skp l a k2 := fun L => by
  obtain ⟨e1, e2⟩ := cnt_dw h1 h2 h3
  rw [h L, tk_hash hk h35, e2, h4, e1]

set_option maxRecDepth 100000 in
set_option maxHeartbeats 8000000 in
theorem skip_any (l : List UInt8) (a : Nat) (ha : a ≤ l.length) (hl : l.length ≤ 1000000) (w : World) :
    Calls Tryz.prog 132 #[.string (bs l), .int .i64 (a : Int)] w fun e w' => (∃ k : Nat, e = .returned (.int .i64 (k : Int)) ∧ a ≤ k ∧ k ≤ l.length ∧ Skp l a k ∧ ∀ h : k < l.length, l[k] ≠ 10 ∧ l[k] ≠ 32 ∧ l[k] ≠ 9 ∧ l[k] ≠ 35) ∧ w = w' := by
  go_enter Tryz.func132, Tryz.ntmps132
  go_wp2
  go_loop [1] (fun i => ∃ k : Nat, a ≤ k ∧ k ≤ l.length ∧ i = .int .i64 k ∧ Hid (Skp l a k)) (fun i => l.length - (intOf i).toNat)
  case atStart => exact ⟨a, Nat.le_refl _, ha, rfl, Lib.hid (Skp.refl l a)⟩
  case round =>
    obtain ⟨k, hak, hk, rfl, HQ⟩ := hrel
    by_cases hlt : k < l.length
    · have hlt' : (k : Int) < (l.length : Int) := by omega
      have hw1 : IntKind.i64.wrap ((k : Int) + 1) = ((k + 1 : Nat) : Int) := by rw [IntKind.wrap_i64]; omega
      by_cases h35 : l[k] = 35
      · have t35 := isB (n := 35) rfl h35
        have h10 : l[k] ≠ 10 := by rw [h35]; decide
        have HH := Lib.hid h35; have H10 := Lib.hid h10; clear h35 h10
        go_wp2
        go_loop [1] (fun i => ∃ k2 : Nat, k ≤ k2 ∧ k2 ≤ l.length ∧ i = .int .i64 k2 ∧ Hid (∀ j (h : j < l.length), k ≤ j → j < k2 → l[j] ≠ 10)) (fun i => l.length - (intOf i).toNat)
        case atStart => exact ⟨k, Nat.le_refl _, hk, rfl, Lib.hid (fun j _ h1 h2 => by omega)⟩
        case round =>
          obtain ⟨k2, hk2, hk3, rfl, HE⟩ := hrel
          by_cases hlt2 : k2 < l.length
          · have hlt2' : (k2 : Int) < (l.length : Int) := by omega
            have hw3 : IntKind.i64.wrap ((k2 : Int) + 1) = ((k2 + 1 : Nat) : Int) := by rw [IntKind.wrap_i64]; omega
            by_cases g10 : l[k2] = 10
            · have s10 := isN (n := 10) rfl g10
              have hkk : k < k2 := by
                rcases Nat.lt_or_eq_of_le hk2 with h | h
                · exact h
                · subst h; exact absurd g10 H10.out
              have HM := Lib.hid (HQ.out.hash hlt HH.out hk2 hk3 HE.out (dw_stop hlt2 g10)); clear g10
              go_wp2
              go_round
              case rel => exact ⟨k2, by omega, hk3, by go_num, HM⟩
              case measure => simp [intOf]; omega
            · have s10 := notN (n := 10) rfl g10
              have HE2 := Lib.hid (show ∀ j (h : j < l.length), k ≤ j → j < k2 + 1 → l[j] ≠ 10 from fun j h h1 h2 => by
                rcases Nat.lt_or_eq_of_le (show j ≤ k2 by omega) with h3 | h3
                · exact HE.out j h h1 h3
                · subst h3; exact g10)
              clear g10
              go_wp2
              go_round
              case rel => exact ⟨k2 + 1, by omega, by omega, by go_num, HE2⟩
              case measure => simp [intOf]; omega
          · have hlt2' : ¬ (k2 : Int) < (l.length : Int) := by omega
            have hkk : k < k2 := by omega
            have HM := Lib.hid (HQ.out.hash hlt HH.out hk2 hk3 HE.out (dw_end hlt2))
            go_wp2
            go_round
            case rel => exact ⟨k2, by omega, hk3, by go_num, HM⟩
            case measure => simp [intOf]; omega
      have t35 := notB (n := 35) rfl h35
      by_cases h10 : l[k] = 10
      · have t10 := isB (n := 10) rfl h10
        have t32 : ((l[k].toNat : Int) == 32) = false := notB (n := 32) (d := 32) rfl (by rw [h10]; decide)
        have t9 : ((l[k].toNat : Int) == 9) = false := notB (n := 9) (d := 9) rfl (by rw [h10]; decide)
        have HN := Lib.hid (HQ.out.nl hlt h10); clear h10 h35
        go_wp2
        go_round
        case rel => exact ⟨k + 1, by omega, by omega, by go_num, HN⟩
        case measure => simp [intOf]; omega
      have t10 := notB (n := 10) rfl h10
      by_cases h32 : l[k] = 32
      · have t32 := isB (n := 32) rfl h32
        have HN := Lib.hid (HQ.out.bl hlt h10 (Or.inl h32)); clear h32 h10 h35
        go_wp2
        go_round
        case rel => exact ⟨k + 1, by omega, by omega, by go_num, HN⟩
        case measure => simp [intOf]; omega
      have t32 := notB (n := 32) rfl h32
      by_cases h9 : l[k] = 9
      · have t9 := isB (n := 9) rfl h9
        have HN := Lib.hid (HQ.out.bl hlt h10 (Or.inr h9)); clear h9 h10 h35 h32
        go_wp2
        go_round
        case rel => exact ⟨k + 1, by omega, by omega, by go_num, HN⟩
        case measure => simp [intOf]; omega
      have t9 := notB (n := 9) rfl h9
      have HF := Lib.hid (show l[k] ≠ 10 ∧ l[k] ≠ 32 ∧ l[k] ≠ 9 ∧ l[k] ≠ 35 from ⟨h10, h32, h9, h35⟩); clear h10 h32 h9 h35
      go_wp2
      go_ret
      exact ⟨⟨k, rfl, hak, hk, HQ.out, fun _ => HF.out⟩, rfl⟩
    · have hlt' : ¬ (k : Int) < (l.length : Int) := by omega
      go_wp2
      go_ret
      exact ⟨⟨k, rfl, hak, hk, HQ.out, fun h => absurd h hlt⟩, rfl⟩
end Go.Proofs.YtkmmdkklpbafdaaGreatDoor
