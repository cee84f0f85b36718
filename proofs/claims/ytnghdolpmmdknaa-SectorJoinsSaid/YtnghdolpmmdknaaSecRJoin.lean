/- What the reference's Join of layer 45 returns. No conditions but the sizes of its strings. -/
import Derived.Test.YtnghdolpmmdknaaSecROpen
import Derived.Test.YtnghdolpmmdknaaSecJoin
import Derived.Test.YtnghdolpmmdknaaSecLivesP
namespace Go.Proofs.Ytnghdolpmmdknaa
open Go.RowKit

set_option maxRecDepth 100000 in
set_option maxHeartbeats 6000000 in
theorem RJoin_any (v : Value) (L : List (List UInt8)) (least most : Int) (w : World) (hS : StrS w v L) (hL : ∀ s ∈ L, s.length ≤ 9223372036854775807) :
    Calls Try.prog 22 #[v, .int .i64 least, .int .i64 most] w fun e w' =>
      e = .returned (.tuple #[.string (bs (joinS L least most).1), .int .i64 (joinS L least most).2.1, .int .i64 (joinS L least most).2.2.1, .bool (joinS L least most).2.2.2]) ∧ Below w.heap.size w w' := by
  obtain ⟨a, cap, rfl, hcap, hcells⟩ := hS
  have hB0 := Below.refl w.heap.size w
  cases hLc : L with
  | nil =>
    have hfin : joinS [] least most = joinFail := rfl
    have HF := Lib.hid hfin; clear hfin
    go_enter Try.func22, Try.ntmps22
    go_wp2
    exact bodyPost_ret (v := .tuple #[.string (bs []), .int .i64 0, .int .i64 0, .bool false]) (by simp [results, Try.results22, go_sem]; rfl) rfl ⟨by rw [HF.out]; rfl, hB0⟩
  | cons s0 Lr =>
    rw [← hLc]
    have hlen : 0 < L.length := by rw [hLc]; simp
    obtain ⟨b, off, rfl, hcell⟩ := hcells (by rw [hLc]; simp)
    have hl0 : ((L.length : Int) == 0) = false := by rw [beq_eq_false_iff_ne]; omega
    have c0 := hcell 0 hlen
    rw [Nat.add_zero] at c0
    have hlen' : (0 : Int) < L.length := by omega
    unfold strV at c0
    obtain ⟨g, p, q, d, er, ho⟩ : ∃ g p q d er, openS L[0] = ((g, p, q), d, er) := ⟨_, _, _, _, _, rfl⟩
    have hj := join_first L hlen least most g p q d er ho
    have HJ := Lib.hid hj; clear hj
    have HO := Lib.hid ho; clear ho
    have HC := Lib.hid hcell; clear hcell hcells
    clear hLc
    have HL0 := Lib.hid (hL L[0] (List.getElem_mem hlen))
    have HLL := Lib.hid hL; clear hL
    by_cases hall : er = 0 ∧ least ≤ g ∧ g ≤ most ∧ q ≤ L.length
    · obtain ⟨rfl, hge, hle, hql⟩ := hall
      have hok := openS_ok (s := L[0]) (by rw [HO.out])
      have hst : stampB g p q = true := by
        obtain ⟨g', p', q', d', h1, h2, h3, _⟩ := hok
        rw [HO.out] at h1
        simp only [Prod.mk.injEq] at h1
        obtain ⟨⟨rfl, rfl, rfl⟩, rfl, _⟩ := h1
        exact h2
      have hb := (stampB_iff g p q).1 hst
      obtain ⟨n, rfl⟩ := Int.eq_ofNat_of_zero_le (show 0 ≤ q by omega)
      have hn1 : n ≤ 1024 := by omega
      have hn0 : 1 ≤ n := by omega
      have hnl : n ≤ L.length := by omega
      have hj2 := HJ.out.trans (if_pos ⟨rfl, hge, hle, hql⟩)
      rw [Int.toNat_natCast] at hj2
      have HJ2 := Lib.hid hj2; clear hj2
      have hd1 : decide (g < least) = false := by simp; omega
      have hd2 : decide (most < g) = false := by simp; omega
      have hd3 : decide (L.length < n) = false := by simp; omega
      clear hok hst hb HJ
      go_enter Try.func22, Try.ntmps22
      go_wp2_with (go_at_call 17; refine (ROpen_any _ _ HL0.out).mono ?_; rw [HO.out]; rintro e w1 ⟨rfl, hb⟩)
      have hI : JInv w w1.heap.size g p n (w1.alloc (.cells #[.int .i64 g, .int .i64 p, .int .i64 n] 24)) := JInv.start hb g p n
      clear hb
      go_loopw [13, 14] (fun r c wr => ∃ k : Nat, k ≤ n ∧ c = .int .i64 k ∧ r = .string (bs (cat L k)) ∧ JInv w w1.heap.size g p n wr ∧ (∀ i, i < k → (openS (L.getD i [])).2.2 = 0)) (fun _ c _ => n - (intOf c).toNat)
      case atStart => exact ⟨0, Nat.zero_le _, rfl, rfl, hI, fun i hi => absurd hi (Nat.not_lt_zero _)⟩
      case round =>
        obtain ⟨k, hk, rfl, rfl, hI, hgood⟩ := hrel
        have HG := Lib.hid hgood; clear hgood
        obtain ⟨a0, a1, a2⟩ := hI.cells
        have hcl : (cat L k).length ≤ 40960 := by have := cat_len L k; omega
        by_cases hlt : k < n
        · have hkl : k < L.length := by omega
          have ck : wr.cell? ⟨b, off + k, none⟩ = some (.string (bs L[k])) := by
            have h1 := HC.out k hkl
            rw [(bcell hI.2.2).1 _ _ (World.block_lt_of_cell? w _ h1)]; exact h1
          have hkl' : (k : Int) < L.length := by omega
          have hgd : L.getD k [] = L[k] := by rw [List.getD_eq_getElem?_getD, List.getElem?_eq_getElem hkl]; rfl
          have HLk := Lib.hid (HLL.out L[k] (List.getElem_mem hkl))
          obtain ⟨g', p', q', d', er', ho'⟩ : ∃ g' p' q' d' er', openS L[k] = ((g', p', q'), d', er') := ⟨_, _, _, _, _, rfl⟩
          have hdl : d'.length ≤ 40 := by have := openS_len L[k]; rw [ho'] at this; exact this
          have HOk := Lib.hid ho'; clear ho'
          have HGD := Lib.hid hgd; clear hgd
          by_cases e0 : er' = 0
          · subst e0
            have hG : ∀ i, i < k + 1 → (openS (L.getD i [])).2.2 = 0 := by
              intro i hi
              by_cases e : i = k
              · subst e; rw [HGD.out, HOk.out]
              · exact HG.out i (by omega)
            have HG2 := Lib.hid hG; clear hG
            have hcs : cat L (k + 1) = cat L k ++ d' := by rw [cat_succ L k hkl, HOk.out]
            have HCS := Lib.hid hcs; clear hcs
            go_wp2_with (go_at_call 17; refine (ROpen_any _ _ HLk.out).mono ?_; rw [HOk.out]; rintro e w2 ⟨rfl, hb⟩; have hI2 := hI.call hb; clear hb hI a0 a1 a2; obtain ⟨a0, a1, a2⟩ := hI2.cells; have hz2 := lt_of_heap hI2.1)
            go_roundw
            case rel => exact ⟨k + 1, by omega, by go_num, by rw [HCS.out], hI2.alloc _, HG2.out⟩
            case measure => simp [intOf]; omega
          · have her : (er' != 0) = true := by rw [bne_iff_ne]; exact e0
            have hfin : joinS L least most = joinFail := by
              rw [HJ2.out, if_neg]
              rintro ⟨h, _⟩
              have := h k hlt
              rw [HGD.out, HOk.out] at this
              exact e0 this
            have HF := Lib.hid hfin; clear hfin e0
            go_wp2_with (go_at_call 17; refine (ROpen_any _ _ HLk.out).mono ?_; rw [HOk.out]; rintro e w2 ⟨rfl, hb⟩; have hI2 := hI.call hb; clear hb hI a0 a1 a2; obtain ⟨a0, a1, a2⟩ := hI2.cells; have hz2 := lt_of_heap hI2.1)
            exact bodyPost_ret (v := .tuple #[.string (bs []), .int .i64 0, .int .i64 0, .bool false]) (by simp [results, Try.results22, go_sem]; rfl) rfl ⟨by rw [HF.out]; rfl, (hI2.alloc _).2.2⟩
        · obtain rfl : k = n := by omega
          clear hlt
          obtain ⟨S, er2, hsp⟩ : ∃ S er2, splitS g (cat L k) = (S, er2) := ⟨_, _, rfl⟩
          have hSl : S.length ≤ 1024 := by have := split_len g (cat L k); rw [hsp] at this; exact this
          have HSP := Lib.hid hsp; clear hsp
          have HG2 := Lib.hid (HG.out); clear HG
          by_cases h2 : er2 = 0 ∧ S.length = k
          · obtain ⟨rfl, hSk⟩ := h2
            have hne : ((S.length : Int) != (k : Int)) = false := by rw [hSk]; simp
            have HSK := Lib.hid hSk; clear hSk
            go_wp2_with (go_at_call 19; refine (RSplit_any _ _ _ (by omega)).mono ?_; rw [HSP.out]; rintro e w2 ⟨v2, rfl, hown2, hb⟩; have hI2 := hI.call hb; clear hb hI a0 a1 a2; obtain ⟨a0, a1, a2⟩ := hI2.cells; have hz2 := lt_of_heap hI2.1; have hS2 := StrS.of_own hown2; clear hown2; obtain ⟨sa, sc, rfl, hsc, hscell⟩ := hS2; have HSC := Lib.hid hscell; clear hscell)
            go_loopw [19] (fun c wr => ∃ j : Nat, j ≤ k ∧ c = .int .i64 j ∧ Below w2.heap.size w2 wr ∧ (∀ i, i < j → S[i]? = L[i]?)) (fun c _ => k - (intOf c).toNat)
            case atStart => exact ⟨0, Nat.zero_le _, rfl, Below.refl _ _, fun i hi => absurd hi (Nat.not_lt_zero _)⟩
            case round =>
              obtain ⟨j, hj, rfl, hbw, heq⟩ := hrel
              have HEQ := Lib.hid heq; clear heq
              have hI3 := hI2.call hbw
              clear a0 a1 a2
              obtain ⟨a0, a1, a2⟩ := hI3.cells
              by_cases hjk : j < k
              · have hjS : j < S.length := by rw [HSK.out]; exact hjk
                have hjL : j < L.length := by omega
                have hjS' : (j : Int) < (S.length : Int) := by omega
                have hjL' : (j : Int) < (L.length : Int) := by omega
                have hj0 : (0 : Int) ≤ (j : Int) := by omega
                obtain ⟨sb, so, rfl, hx⟩ := HSC.out (by intro h; rw [h] at hjS; simp at hjS)
                have e1 := hx j hjS
                have k1 := ((bcell hbw).1 _ (so + j) (World.block_lt_of_cell? w2 _ e1)).trans e1
                have e2 := HC.out j hjL
                have k2 := ((bcell hI3.2.2).1 _ (off + j) (World.block_lt_of_cell? w _ e2)).trans e2
                unfold strV at k1 k2
                clear hx e1 e2
                by_cases hq : S[j] = L[j]
                · have hq' : (S[j] == L[j]) = true := by rw [hq]; simp
                  have hE : ∀ i, i < j + 1 → S[i]? = L[i]? := by
                    intro i hi
                    by_cases e : i = j
                    · subst e; rw [List.getElem?_eq_getElem hjS, List.getElem?_eq_getElem hjL, hq]
                    · exact HEQ.out i (by omega)
                  have HE := Lib.hid hE; clear hE hq
                  go_wp2
                  go_quiet (fail)
                  go_wp2
                  go_roundw
                  case rel => exact ⟨j + 1, by omega, by go_num, bdrawN hbw _, HE.out⟩
                  case measure => simp [intOf]; omega
                · have hq' : (S[j] == L[j]) = false := by rw [beq_eq_false_iff_ne]; exact hq
                  have hfin : joinS L least most = joinFail := by
                    rw [HJ2.out, if_neg]
                    rintro ⟨_, h⟩
                    rw [HSP.out] at h
                    simp only [Prod.mk.injEq] at h
                    apply hq
                    have h3 := congrArg (fun l => l[j]?) h.1
                    simp only [List.getElem?_take, if_pos hjk] at h3
                    rw [List.getElem?_eq_getElem hjS, List.getElem?_eq_getElem hjL] at h3
                    exact Option.some.inj h3
                  have HF := Lib.hid hfin; clear hfin hq
                  go_wp2
                  go_quiet (fail)
                  go_wp2
                  exact bodyPost_ret (v := .tuple #[.string (bs []), .int .i64 0, .int .i64 0, .bool false]) (by simp [results, Try.results22, go_sem]; rfl) rfl ⟨by rw [HF.out]; rfl, bdrawN hI3.2.2 _⟩
              · have hST : S = L.take k := by
                  apply List.ext_getElem?
                  intro i
                  rw [List.getElem?_take]
                  split
                  · exact HEQ.out i (by omega)
                  · exact List.getElem?_eq_none (by rw [HSK.out]; omega)
                have hfin : joinS L least most = (cat L k, g, (k : Int), true) := by
                  rw [HJ2.out, if_pos ⟨HG2.out, by rw [HSP.out, ← hST]⟩]
                have HF := Lib.hid hfin; clear hfin hST
                have hjS' : ¬ (j : Int) < (S.length : Int) := by rw [HSK.out]; omega
                go_wp2
                go_quiet (fail)
                go_wp2
                exact bodyPost_ret (v := .tuple #[.string (bs (cat L k)), .int .i64 g, .int .i64 k, .bool true]) (by simp [results, Try.results22, go_sem]) rfl ⟨by rw [HF.out], bdrawN hI3.2.2 _⟩
          · have hfin : joinS L least most = joinFail := by
              rw [HJ2.out, if_neg]
              rintro ⟨_, h⟩
              rw [HSP.out] at h
              simp only [Prod.mk.injEq] at h
              exact h2 ⟨h.2, by rw [h.1, List.length_take]; omega⟩
            have HF := Lib.hid hfin; clear hfin
            by_cases e0 : er2 = 0
            · subst e0
              have hne : ((S.length : Int) != (k : Int)) = true := by rw [bne_iff_ne]; intro h; exact h2 ⟨rfl, by omega⟩
              clear h2
              go_wp2_with (go_at_call 19; refine (RSplit_any _ _ _ (by omega)).mono ?_; rw [HSP.out]; rintro e w2 ⟨v2, rfl, hown2, hb⟩; have hI2 := hI.call hb; clear hb hI a0 a1 a2; obtain ⟨a0, a1, a2⟩ := hI2.cells; have hz2 := lt_of_heap hI2.1; have hS2 := StrS.of_own hown2; clear hown2; obtain ⟨sa, sc, rfl, hsc, hscell⟩ := hS2; clear hscell)
              exact bodyPost_ret (v := .tuple #[.string (bs []), .int .i64 0, .int .i64 0, .bool false]) (by simp [results, Try.results22, go_sem]; rfl) rfl ⟨by rw [HF.out]; rfl, hI2.2.2⟩
            · have her : (er2 != 0) = true := by rw [bne_iff_ne]; exact e0
              clear h2 e0
              go_wp2_with (go_at_call 19; refine (RSplit_any _ _ _ (by omega)).mono ?_; rw [HSP.out]; rintro e w2 ⟨v2, rfl, hown2, hb⟩; have hI2 := hI.call hb; clear hb hI a0 a1 a2; obtain ⟨a0, a1, a2⟩ := hI2.cells; have hz2 := lt_of_heap hI2.1; have hS2 := StrS.of_own hown2; clear hown2; obtain ⟨sa, sc, rfl, hsc, hscell⟩ := hS2; clear hscell)
              exact bodyPost_ret (v := .tuple #[.string (bs []), .int .i64 0, .int .i64 0, .bool false]) (by simp [results, Try.results22, go_sem]; rfl) rfl ⟨by rw [HF.out]; rfl, hI2.2.2⟩
    · have hfin : joinS L least most = joinFail := by rw [HJ.out, if_neg hall]
      have HF := Lib.hid hfin
      have HALL := Lib.hid hall; clear hall hfin HJ
      go_enter Try.func22, Try.ntmps22
      by_cases e0 : er = 0
      · subst e0
        have h3 : g < least ∨ most < g ∨ (L.length : Int) < q := by have := HALL.out; omega
        clear HALL
        by_cases e1 : g < least
        · go_wp2_with (go_at_call 17; refine (ROpen_any _ _ HL0.out).mono ?_; rw [HO.out]; rintro e w1 ⟨rfl, hb⟩)
          exact bodyPost_ret (v := .tuple #[.string (bs []), .int .i64 0, .int .i64 0, .bool false]) (by simp [results, Try.results22, go_sem]; rfl) rfl ⟨by rw [HF.out]; rfl, hb.alloc hb.size _⟩
        · by_cases e2 : most < g
          · go_wp2_with (go_at_call 17; refine (ROpen_any _ _ HL0.out).mono ?_; rw [HO.out]; rintro e w1 ⟨rfl, hb⟩)
            exact bodyPost_ret (v := .tuple #[.string (bs []), .int .i64 0, .int .i64 0, .bool false]) (by simp [results, Try.results22, go_sem]; rfl) rfl ⟨by rw [HF.out]; rfl, hb.alloc hb.size _⟩
          · have e3 : (L.length : Int) < q := by omega
            clear h3
            go_wp2_with (go_at_call 17; refine (ROpen_any _ _ HL0.out).mono ?_; rw [HO.out]; rintro e w1 ⟨rfl, hb⟩)
            exact bodyPost_ret (v := .tuple #[.string (bs []), .int .i64 0, .int .i64 0, .bool false]) (by simp [results, Try.results22, go_sem]; rfl) rfl ⟨by rw [HF.out]; rfl, hb.alloc hb.size _⟩
      · have her : (er != 0) = true := by rw [bne_iff_ne]; exact e0
        clear e0
        go_wp2_with (go_at_call 17; refine (ROpen_any _ _ HL0.out).mono ?_; rw [HO.out]; rintro e w1 ⟨rfl, hb⟩)
        exact bodyPost_ret (v := .tuple #[.string (bs []), .int .i64 0, .int .i64 0, .bool false]) (by simp [results, Try.results22, go_sem]; rfl) rfl ⟨by rw [HF.out]; rfl, hb.alloc hb.size _⟩
end Go.Proofs.Ytnghdolpmmdknaa
