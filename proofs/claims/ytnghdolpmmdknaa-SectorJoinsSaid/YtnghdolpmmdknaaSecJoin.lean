/- What sector's Join returns. No conditions but the sizes of its strings. -/
import Derived.Test.YtnghdolpmmdknaaSecJoinP
import Derived.Deep.QuietTactic
import Derived.BigQuiet
namespace Go.Proofs.Ytnghdolpmmdknaa
open Go.RowKit

theorem bdrawN {B : Nat} {w W : World} (h : Below B w W) (n : Nat) : Below B w (W.drewN n) := h.trans ⟨rfl, rfl, rfl, Nat.le_refl _, fun _ _ => rfl⟩
/-- Join's own memory: the first sector's stamp -/
def JInv (w : World) (b1 : Nat) (g p q : Int) (W : World) : Prop := W.heap[b1]? = some (.cells #[.int .i64 g, .int .i64 p, .int .i64 q] 24 (0, 0)) ∧ w.heap.size ≤ b1 ∧ Below w.heap.size w W
theorem JInv.start {w w1 : World} (hb : Below w.heap.size w w1) (g p q : Int) : JInv w w1.heap.size g p q (w1.alloc (.cells #[.int .i64 g, .int .i64 p, .int .i64 q] 24)) :=
  ⟨heap_alloc_new w1 _, hb.size, hb.alloc hb.size _⟩
theorem JInv.call {w W W' : World} {b1 : Nat} {g p q : Int} (h : JInv w b1 g p q W) (hb : Below W.heap.size W W') : JInv w b1 g p q W' :=
  ⟨(hb.block _ (lt_of_heap h.1)).trans h.1, h.2.1, btrans h.2.2 h.2.2.size hb⟩
theorem JInv.alloc {w W : World} {b1 : Nat} {g p q : Int} (h : JInv w b1 g p q W) (o : Obj) : JInv w b1 g p q (W.alloc o) := h.call ((Below.refl _ _).alloc (Nat.le_refl _) _)
theorem JInv.cells {w W : World} {b1 : Nat} {g p q : Int} (h : JInv w b1 g p q W) : W.cell? ⟨b1, 0, none⟩ = some (.int .i64 g) ∧ W.cell? ⟨b1, 1, none⟩ = some (.int .i64 p) ∧ W.cell? ⟨b1, 2, none⟩ = some (.int .i64 q) := by
  have h1 := h.1
  refine ⟨?_, ?_, ?_⟩ <;> simp [World.cell?, h1]
set_option maxRecDepth 100000 in
set_option maxHeartbeats 6000000 in
theorem Join_any (v : Value) (L : List (List UInt8)) (least most : Int) (w : World) (hS : StrS w v L) (hL : ∀ s ∈ L, s.length ≤ 9223372036854775807) :
    Calls Try.prog 21 #[v, .int .i64 least, .int .i64 most] w fun e w' =>
      e = .returned (.tuple #[.string (bs (joinS L least most).1), .int .i64 (joinS L least most).2.1, .int .i64 (joinS L least most).2.2.1, .bool (joinS L least most).2.2.2]) ∧ Below w.heap.size w w' := by
  obtain ⟨a, cap, rfl, hcap, hcells⟩ := hS
  have hB0 := Below.refl w.heap.size w
  cases hLc : L with
  | nil =>
    have hfin : joinS [] least most = joinFail := rfl
    rw [hfin]
    go_enter Try.func21, Try.ntmps21
    go_wp2
    exact bodyPost_ret (v := .tuple #[.string (bs []), .int .i64 0, .int .i64 0, .bool false]) (by simp [results, Try.results21, go_sem]; rfl) rfl ⟨rfl, hB0⟩
  | cons s0 Lr =>
    rw [← hLc]
    have hlen : 0 < L.length := by rw [hLc]; simp
    obtain ⟨b, off, rfl, hcell⟩ := hcells (by rw [hLc]; simp)
    have hl0 : ((L.length : Int) == 0) = false := by rw [beq_eq_false_iff_ne]; omega
    have c0 := hcell 0 hlen
    rw [Nat.add_zero] at c0
    have hlen' : (0 : Int) < L.length := by omega
    unfold strV at c0
    obtain ⟨g, p, q, d, er, ho⟩ : ∃ g p q d er, openS L[0] = ((g, p, q), d, er) := ⟨_, _, _, _, _, rfl⟩
    have hj := join_first L hlen least most g p q d er ho
    have HJ := Lib.hid hj; clear hj
    have HO := Lib.hid ho; clear ho
    have HC := Lib.hid hcell; clear hcell hcells
    clear hLc
    have HL0 := Lib.hid (hL L[0] (List.getElem_mem hlen))
    have HLL := Lib.hid hL; clear hL
    by_cases hall : er = 0 ∧ least ≤ g ∧ g ≤ most ∧ q ≤ L.length
    · obtain ⟨rfl, hge, hle, hql⟩ := hall
      have hok := openS_ok (s := L[0]) (by rw [HO.out])
      have hst : stampB g p q = true ∧ d.length ≤ 40 := by
        obtain ⟨g', p', q', d', h1, h2, h3, _⟩ := hok
        rw [HO.out] at h1
        simp only [Prod.mk.injEq] at h1
        obtain ⟨⟨rfl, rfl, rfl⟩, rfl, _⟩ := h1
        exact ⟨h2, h3⟩
      have hb := (stampB_iff g p q).1 hst.1
      obtain ⟨n, rfl⟩ := Int.eq_ofNat_of_zero_le (show 0 ≤ q by omega)
      have hn1 : n ≤ 1024 := by omega
      have hn0 : 1 ≤ n := by omega
      have hnl : n ≤ L.length := by omega
      have HJ2 := Lib.hid (HJ.out.trans (if_pos ⟨rfl, hge, hle, hql⟩))
      have hd1 : decide (g < least) = false := by simp; omega
      have hd2 : decide (most < g) = false := by simp; omega
      have hd3 : decide (L.length < n) = false := by simp; omega
      clear hok hst hb HJ
      go_enter Try.func21, Try.ntmps21
      go_wp2_with (go_at_call 16; refine (Open_any _ _ HL0.out).mono ?_; rw [HO.out]; rintro e w1 ⟨rfl, hb⟩)
      have hI : JInv w w1.heap.size g p n (w1.alloc (.cells #[.int .i64 g, .int .i64 p, .int .i64 n] 24)) := JInv.start hb g p n
      clear hb
      go_loopw [13, 52] (fun r c wr => ∃ k : Nat, k ≤ n ∧ c = .int .i64 k ∧ r = .string (bs (cat L k)) ∧ JInv w w1.heap.size g p n wr ∧ (∀ i, i < k → goodAt g n L i)) (fun _ c _ => n - (intOf c).toNat)
      case atStart => exact ⟨0, Nat.zero_le _, rfl, rfl, hI, fun i hi => absurd hi (Nat.not_lt_zero _)⟩
      case round =>
        obtain ⟨k, hk, rfl, rfl, hI, hgood⟩ := hrel
        have HG := Lib.hid hgood; clear hgood
        obtain ⟨a0, a1, a2⟩ := hI.cells
        have hcl : (cat L k).length ≤ 40960 := by have := cat_len L k; omega
        by_cases hlt : k < n
        · have hkl : k < L.length := by omega
          have ck : wr.cell? ⟨b, off + k, none⟩ = some (.string (bs L[k])) := by
            have h1 := HC.out k hkl
            rw [(bcell hI.2.2).1 _ _ (World.block_lt_of_cell? w _ h1)]; exact h1
          have hkl' : (k : Int) < L.length := by omega
          have HLk := Lib.hid (HLL.out L[k] (List.getElem_mem hkl))
          obtain ⟨g', p', q', d', er', ho'⟩ : ∃ g' p' q' d' er', openS L[k] = ((g', p', q'), d', er') := ⟨_, _, _, _, _, rfl⟩
          have hdl : d'.length ≤ 40 := by have := openS_len L[k]; rw [ho'] at this; exact this
          have HOk := Lib.hid ho'; clear ho'
          by_cases hgd : goodAt g n L k
          · have hgs : er' = 0 ∧ g = g' ∧ (k : Int) = p' ∧ (n : Int) = q' ∧ ((k : Int) < n - 1 → d'.length = 40) ∧ (0 < k → d' ≠ []) := by
              obtain ⟨s, hs, h1, h2, h3, h4⟩ := hgd
              rw [List.getElem?_eq_getElem hkl] at hs
              simp only [Option.some.injEq] at hs
              subst hs
              rw [HOk.out] at h1 h2 h3 h4
              simp only [Prod.mk.injEq] at h2
              exact ⟨h1, h2.1.symm, h2.2.1.symm, h2.2.2.symm, h3, h4⟩
            have hG : ∀ i, i < k + 1 → goodAt g n L i := by
              intro i hi
              by_cases e : i = k
              · subst e; exact hgd
              · exact HG.out i (by omega)
            have HG2 := Lib.hid hG; clear hG hgd
            obtain ⟨rfl, rfl, rfl, rfl, h3, h4⟩ := hgs
            have H3 := Lib.hid h3; clear h3
            have H4 := Lib.hid h4; clear h4
            have hcs : cat L (k + 1) = cat L k ++ d' := by rw [cat_succ L k hkl, HOk.out]
            have HCS := Lib.hid hcs; clear hcs
            by_cases e4 : (k : Int) < (n : Int) - 1
            · have h40 : ((d'.length : Int) != 40) = false := by have := H3.out e4; rw [this]; rfl
              by_cases e6 : (0 : Int) < (k : Int)
              · have he : d'.isEmpty = false := by have := H4.out (by omega); simpa using this
                go_wp2_with (go_at_call 16; refine (Open_any _ _ HLk.out).mono ?_; rw [HOk.out]; rintro e w2 ⟨rfl, hb⟩; have hI2 := hI.call hb; clear hb hI a0 a1 a2; obtain ⟨a0, a1, a2⟩ := hI2.cells; have hz2 := lt_of_heap hI2.1)
                go_roundw
                case rel => exact ⟨k + 1, by omega, by go_num, by rw [HCS.out], hI2.alloc _, HG2.out⟩
                case measure => simp [intOf]; omega
              · go_wp2_with (go_at_call 16; refine (Open_any _ _ HLk.out).mono ?_; rw [HOk.out]; rintro e w2 ⟨rfl, hb⟩; have hI2 := hI.call hb; clear hb hI a0 a1 a2; obtain ⟨a0, a1, a2⟩ := hI2.cells; have hz2 := lt_of_heap hI2.1)
                go_roundw
                case rel => exact ⟨k + 1, by omega, by go_num, by rw [HCS.out], hI2.alloc _, HG2.out⟩
                case measure => simp [intOf]; omega
            · by_cases e6 : (0 : Int) < (k : Int)
              · have he : d'.isEmpty = false := by have := H4.out (by omega); simpa using this
                go_wp2_with (go_at_call 16; refine (Open_any _ _ HLk.out).mono ?_; rw [HOk.out]; rintro e w2 ⟨rfl, hb⟩; have hI2 := hI.call hb; clear hb hI a0 a1 a2; obtain ⟨a0, a1, a2⟩ := hI2.cells; have hz2 := lt_of_heap hI2.1)
                go_roundw
                case rel => exact ⟨k + 1, by omega, by go_num, by rw [HCS.out], hI2.alloc _, HG2.out⟩
                case measure => simp [intOf]; omega
              · go_wp2_with (go_at_call 16; refine (Open_any _ _ HLk.out).mono ?_; rw [HOk.out]; rintro e w2 ⟨rfl, hb⟩; have hI2 := hI.call hb; clear hb hI a0 a1 a2; obtain ⟨a0, a1, a2⟩ := hI2.cells; have hz2 := lt_of_heap hI2.1)
                go_roundw
                case rel => exact ⟨k + 1, by omega, by go_num, by rw [HCS.out], hI2.alloc _, HG2.out⟩
                case measure => simp [intOf]; omega
          · have hfin : joinS L least most = joinFail := by rw [HJ2.out, if_neg (join_bad L g n hnl k hlt hgd)]
            have HF := Lib.hid hfin; clear hfin
            have hbad : ¬ (er' = 0 ∧ g' = g ∧ p' = (k : Int) ∧ q' = (n : Int) ∧ ((k : Int) < n - 1 → d'.length = 40) ∧ (0 < k → d' ≠ [])) := by
              rintro ⟨h1, h2, h3, h4, h5, h6⟩
              exact hgd ⟨L[k], List.getElem?_eq_getElem hkl, by rw [HOk.out]; exact h1, by rw [HOk.out, h2, h3, h4], by rw [HOk.out]; exact h5, by rw [HOk.out]; exact h6⟩
            have HBAD := Lib.hid hbad; clear hbad hgd
            by_cases e0 : er' = 0
            · subst e0
              by_cases e1 : g' = g
              · subst e1
                by_cases e2 : p' = (k : Int)
                · subst e2
                  by_cases e3 : q' = (n : Int)
                  · subst e3
                    by_cases e4 : (k : Int) < (n : Int) - 1
                    · by_cases e5 : d'.length = 40
                      · have h40 : ((d'.length : Int) != 40) = false := by rw [e5]; rfl
                        have H5 := Lib.hid e5; clear e5
                        have e6 : (0 : Int) < (k : Int) ∧ d'.isEmpty = true := by
                          by_cases h0 : 0 < k ∧ d' = []
                          · rw [h0.2]; exact ⟨by omega, rfl⟩
                          · exact absurd ⟨rfl, rfl, rfl, rfl, fun _ => H5.out, fun h hd => h0 ⟨h, hd⟩⟩ HBAD.out
                        obtain ⟨e6, e7⟩ := e6
                        go_wp2_with (go_at_call 16; refine (Open_any _ _ HLk.out).mono ?_; rw [HOk.out]; rintro e w2 ⟨rfl, hb⟩; have hI2 := hI.call hb; clear hb hI a0 a1 a2; obtain ⟨a0, a1, a2⟩ := hI2.cells; have hz2 := lt_of_heap hI2.1)
                        exact bodyPost_ret (v := .tuple #[.string (bs []), .int .i64 0, .int .i64 0, .bool false]) (by simp [results, Try.results21, go_sem]; rfl) rfl ⟨by rw [HF.out]; rfl, (hI2.alloc _).2.2⟩
                      · have h40 : ((d'.length : Int) != 40) = true := by rw [bne_iff_ne]; omega
                        clear e5
                        go_wp2_with (go_at_call 16; refine (Open_any _ _ HLk.out).mono ?_; rw [HOk.out]; rintro e w2 ⟨rfl, hb⟩; have hI2 := hI.call hb; clear hb hI a0 a1 a2; obtain ⟨a0, a1, a2⟩ := hI2.cells; have hz2 := lt_of_heap hI2.1)
                        exact bodyPost_ret (v := .tuple #[.string (bs []), .int .i64 0, .int .i64 0, .bool false]) (by simp [results, Try.results21, go_sem]; rfl) rfl ⟨by rw [HF.out]; rfl, (hI2.alloc _).2.2⟩
                    · have e6 : (0 : Int) < (k : Int) ∧ d'.isEmpty = true := by
                        by_cases h0 : 0 < k ∧ d' = []
                        · rw [h0.2]; exact ⟨by omega, rfl⟩
                        · exact absurd ⟨rfl, rfl, rfl, rfl, fun h => absurd h e4, fun h hd => h0 ⟨h, hd⟩⟩ HBAD.out
                      obtain ⟨e6, e7⟩ := e6
                      go_wp2_with (go_at_call 16; refine (Open_any _ _ HLk.out).mono ?_; rw [HOk.out]; rintro e w2 ⟨rfl, hb⟩; have hI2 := hI.call hb; clear hb hI a0 a1 a2; obtain ⟨a0, a1, a2⟩ := hI2.cells; have hz2 := lt_of_heap hI2.1)
                      exact bodyPost_ret (v := .tuple #[.string (bs []), .int .i64 0, .int .i64 0, .bool false]) (by simp [results, Try.results21, go_sem]; rfl) rfl ⟨by rw [HF.out]; rfl, (hI2.alloc _).2.2⟩
                  · go_wp2_with (go_at_call 16; refine (Open_any _ _ HLk.out).mono ?_; rw [HOk.out]; rintro e w2 ⟨rfl, hb⟩; have hI2 := hI.call hb; clear hb hI a0 a1 a2; obtain ⟨a0, a1, a2⟩ := hI2.cells; have hz2 := lt_of_heap hI2.1)
                    exact bodyPost_ret (v := .tuple #[.string (bs []), .int .i64 0, .int .i64 0, .bool false]) (by simp [results, Try.results21, go_sem]; rfl) rfl ⟨by rw [HF.out]; rfl, (hI2.alloc _).2.2⟩
                · go_wp2_with (go_at_call 16; refine (Open_any _ _ HLk.out).mono ?_; rw [HOk.out]; rintro e w2 ⟨rfl, hb⟩; have hI2 := hI.call hb; clear hb hI a0 a1 a2; obtain ⟨a0, a1, a2⟩ := hI2.cells; have hz2 := lt_of_heap hI2.1)
                  exact bodyPost_ret (v := .tuple #[.string (bs []), .int .i64 0, .int .i64 0, .bool false]) (by simp [results, Try.results21, go_sem]; rfl) rfl ⟨by rw [HF.out]; rfl, (hI2.alloc _).2.2⟩
              · go_wp2_with (go_at_call 16; refine (Open_any _ _ HLk.out).mono ?_; rw [HOk.out]; rintro e w2 ⟨rfl, hb⟩; have hI2 := hI.call hb; clear hb hI a0 a1 a2; obtain ⟨a0, a1, a2⟩ := hI2.cells; have hz2 := lt_of_heap hI2.1)
                exact bodyPost_ret (v := .tuple #[.string (bs []), .int .i64 0, .int .i64 0, .bool false]) (by simp [results, Try.results21, go_sem]; rfl) rfl ⟨by rw [HF.out]; rfl, (hI2.alloc _).2.2⟩
            · have her : (er' != 0) = true := by rw [bne_iff_ne]; exact e0
              clear e0
              go_wp2_with (go_at_call 16; refine (Open_any _ _ HLk.out).mono ?_; rw [HOk.out]; rintro e w2 ⟨rfl, hb⟩; have hI2 := hI.call hb; clear hb hI a0 a1 a2; obtain ⟨a0, a1, a2⟩ := hI2.cells; have hz2 := lt_of_heap hI2.1)
              exact bodyPost_ret (v := .tuple #[.string (bs []), .int .i64 0, .int .i64 0, .bool false]) (by simp [results, Try.results21, go_sem]; rfl) rfl ⟨by rw [HF.out]; rfl, (hI2.alloc _).2.2⟩
        · have hkn : k = n := by omega
          have hfin : joinS L least most = (cat L n, g, (n : Int), true) := by rw [HJ2.out, if_pos (join_good L g n hn0 hnl (by subst hkn; exact HG.out))]; rfl
          have HF := Lib.hid hfin; clear hfin
          have HK := Lib.hid hkn; clear hkn
          go_wp2
          go_quiet (fail)
          go_wp2
          exact bodyPost_ret (v := .tuple #[.string (bs (cat L k)), .int .i64 g, .int .i64 n, .bool true]) (by simp [results, Try.results21, go_sem]) rfl ⟨by rw [HF.out, HK.out], bdrawN hI.2.2 _⟩
    · have hfin : joinS L least most = joinFail := by rw [HJ.out, if_neg hall]
      rw [hfin]
      have HALL := Lib.hid hall; clear hall hfin HJ
      go_enter Try.func21, Try.ntmps21
      by_cases e0 : er = 0
      · subst e0
        have h3 : g < least ∨ most < g ∨ (L.length : Int) < q := by have := HALL.out; omega
        clear HALL
        by_cases e1 : g < least
        · go_wp2_with (go_at_call 16; refine (Open_any _ _ HL0.out).mono ?_; rw [HO.out]; rintro e w1 ⟨rfl, hb⟩)
          exact bodyPost_ret (v := .tuple #[.string (bs []), .int .i64 0, .int .i64 0, .bool false]) (by simp [results, Try.results21, go_sem]; rfl) rfl ⟨rfl, hb.alloc hb.size _⟩
        · by_cases e2 : most < g
          · go_wp2_with (go_at_call 16; refine (Open_any _ _ HL0.out).mono ?_; rw [HO.out]; rintro e w1 ⟨rfl, hb⟩)
            exact bodyPost_ret (v := .tuple #[.string (bs []), .int .i64 0, .int .i64 0, .bool false]) (by simp [results, Try.results21, go_sem]; rfl) rfl ⟨rfl, hb.alloc hb.size _⟩
          · have e3 : (L.length : Int) < q := by omega
            clear h3
            go_wp2_with (go_at_call 16; refine (Open_any _ _ HL0.out).mono ?_; rw [HO.out]; rintro e w1 ⟨rfl, hb⟩)
            exact bodyPost_ret (v := .tuple #[.string (bs []), .int .i64 0, .int .i64 0, .bool false]) (by simp [results, Try.results21, go_sem]; rfl) rfl ⟨rfl, hb.alloc hb.size _⟩
      · have her : (er != 0) = true := by rw [bne_iff_ne]; exact e0
        clear e0
        go_wp2_with (go_at_call 16; refine (Open_any _ _ HL0.out).mono ?_; rw [HO.out]; rintro e w1 ⟨rfl, hb⟩)
        exact bodyPost_ret (v := .tuple #[.string (bs []), .int .i64 0, .int .i64 0, .bool false]) (by simp [results, Try.results21, go_sem]; rfl) rfl ⟨rfl, hb.alloc hb.size _⟩
end Go.Proofs.Ytnghdolpmmdknaa
