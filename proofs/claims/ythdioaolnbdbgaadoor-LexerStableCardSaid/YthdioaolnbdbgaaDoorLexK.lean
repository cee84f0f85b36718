/- The walks of layer 7's Join, of the reference's, and of LexerJoins. No conditions. -/
import Derived.Test.YthdioaolnbdbgaaDoorLexJ
import Derived.Test.YthdioaolnbdbgaaDoorLexE
import Derived.Lib.ItoaLen
namespace Go.Proofs.YthdioaolnbdbgaaDoor
open Go.RowKit

theorem take_one {α : Type} (M : List α) (k : Nat) (h : k < M.length) : M.take (k + 1) = M.take k ++ [M[k]] := by rw [List.take_add_one, List.getElem?_eq_getElem h]; rfl
theorem catT_snoc (x : Tk) : ∀ L : List Tk, L ≠ [] → catT (L ++ [x]) = catT L ++ 32 :: txtT x
  | [], h => absurd rfl h
  | [y], _ => rfl
  | y :: z :: r, _ => by
    have ih := catT_snoc x (z :: r) (by simp)
    show txtT y ++ 32 :: catT ((z :: r) ++ [x]) = _
    rw [ih]
    show _ = (txtT y ++ 32 :: catT (z :: r)) ++ 32 :: txtT x
    simp
theorem cat_step0 (M : List Tk) (h : 0 < M.length) : catT (M.take 1) = txtT M[0] := by
  cases M with
  | nil => simp at h
  | cons y r => rfl
theorem cat_step (M : List Tk) {k : Nat} (hk : k < M.length) (h0 : 0 < k) : catT (M.take (k + 1)) = (catT (M.take k) ++ [32]) ++ txtT M[k] := by
  rw [take_one M k hk, catT_snoc _ _ (by intro e; have := congrArg List.length e; rw [List.length_take, List.length_nil] at this; omega)]; simp
theorem cat_mono (M : List Tk) : ∀ k, k ≤ M.length → ∀ j, j ≤ k → (catT (M.take j)).length ≤ (catT (M.take k)).length := by
  intro k
  induction k with
  | zero => intro _ j hj; have : j = 0 := by omega
            subst this; exact Nat.le_refl _
  | succ k ih =>
    intro hk j hj
    rcases Nat.lt_or_eq_of_le hj with h | h
    · have h1 := ih (by omega) j (by omega)
      refine Nat.le_trans h1 ?_
      rcases Nat.eq_zero_or_pos k with h0 | h0
      · subst h0; exact Nat.zero_le _
      · rw [cat_step M hk h0]; simp only [List.length_append]; omega
    · subst h; exact Nat.le_refl _
theorem txt_len {x : Tk} (ht : x.t.length ≤ 1000) (h0 : -9223372036854775808 ≤ x.n) (h1 : x.n ≤ 9223372036854775807) : (txtT x).length ≤ 1000 := by
  unfold txtT
  split
  · have := Lib.itoa_length_le x.n h0 h1; omega
  · split
    · unfold quoL
      split
      · exact Nat.zero_le _
      · split
        · have := esc_len x.t
          show (quoS x.t).length ≤ 1000
          unfold quoS
          rw [List.length_cons, List.length_append, List.length_singleton]; omega
        · exact Nat.zero_le _
    · exact ht
def TkOk (x : Tk) : Prop := x.t.length ≤ 1000 ∧ -9223372036854775808 ≤ x.n ∧ x.n ≤ 9223372036854775807
theorem cat_len (M : List Tk) (h : ∀ x ∈ M, TkOk x) : ∀ k, k ≤ M.length → (catT (M.take k)).length ≤ 1001 * k := by
  intro k
  induction k with
  | zero => intro _; simp [catT]
  | succ k ih =>
    intro hk
    have hx := h M[k] (List.getElem_mem (by omega))
    have hl := txt_len hx.1 hx.2.1 hx.2.2
    rcases Nat.eq_zero_or_pos k with h0 | h0
    · subst h0; rw [cat_step0 M (by omega)]; omega
    · rw [cat_step M hk h0]; have := ih (by omega); simp only [List.length_append, List.length_singleton]; omega
theorem join_bad {M : List Tk} {k : Nat} (hk : k < M.length) (h : valT M[k] = false) : joinT M = ([], 1) := by
  unfold joinT; rw [if_neg]; intro e; rw [List.all_eq_true] at e; rw [e M[k] (List.getElem_mem hk)] at h; cases h
theorem join_long {M : List Tk} {k : Nat} (ha : M.all valT = true) (hk : k ≤ M.length) (h : 16384 < (catT (M.take k)).length) : joinT M = ([], 2) := by
  have := cat_mono M M.length (Nat.le_refl _) k hk
  rw [List.take_length] at this
  unfold joinT; rw [if_pos ha, if_pos (by omega)]
theorem join_ok {M : List Tk} (ha : M.all valT = true) (h : (catT M).length ≤ 16384) : joinT M = (catT M, 0) := by
  unfold joinT; rw [if_pos ha, if_neg (by omega)]
theorem all_step {M : List Tk} {k : Nat} (hk : k < M.length) (h : (M.take k).all valT = true) (hv : valT M[k] = true) : (M.take (k + 1)).all valT = true := by
  rw [take_one M k hk, List.all_append, h]; simp [hv]
theorem cat3 (A B : List UInt8) : bs A ++ { data := #[32] } ++ bs B = bs (A ++ [32] ++ B) := by show bs A ++ bs [32] ++ bs B = _; rw [bs_append, bs_append]
theorem cat2 (B : List UInt8) : ({ data := #[] } : ByteArray) ++ bs B = bs ([] ++ B) := by show bs [] ++ bs B = _; rw [bs_append]
theorem cat1 (B : List UInt8) : bs [] ++ bs B = bs ([] ++ B) := by rw [bs_append]
theorem txt_3 {x : Tk} (h : x.k = 3) : txtT x = Lib.itoa x.n := by unfold txtT; rw [if_pos h]
theorem txt_4 {x : Tk} (h : x.k = 4) : txtT x = (quoL x.t).1 := by unfold txtT; rw [if_neg (by omega), if_pos h]
theorem txt_e {x : Tk} (h3 : x.k ≠ 3) (h4 : x.k ≠ 4) : txtT x = x.t := by unfold txtT; rw [if_neg h3, if_neg h4]

set_option maxRecDepth 100000 in
set_option maxHeartbeats 16000000 in
theorem Join_any (va : Value) (M : List Tk) (w : World) (hA : CellsAt w va M.length (tkLs M)) (hM : M.length ≤ 100000) (hx : ∀ x ∈ M, TkOk x) (hL : Laid w) :
    Calls Tryd.prog 22 #[va] w fun e w' => e = .returned (.tuple #[.string (bs (joinT M).1), .int .i64 (joinT M).2]) ∧ Below w.heap.size w w' := by
  obtain ⟨aa, ca, rfl, -⟩ := id hA
  obtain ⟨T, re, hj⟩ : ∃ T re, joinT M = (T, re) := ⟨_, _, rfl⟩
  rw [hj]
  have HJ := Lib.hid hj; have HA := Lib.hid hA; have HX := Lib.hid hx; clear hj hA hx
  go_enter Tryd.func22, Tryd.ntmps22
  go_wp2
  go_loopw [13] (fun i wr => ∃ k : Nat, k ≤ M.length ∧ i = .int .i64 k ∧ Hid ((M.take k).all valT = true) ∧ Below w.heap.size w wr) (fun i _ => M.length - (intOf i).toNat)
  case atStart => exact ⟨0, Nat.zero_le _, rfl, Lib.hid rfl, Below.refl _ _⟩
  case round =>
    obtain ⟨k, hk, rfl, HQ, hB⟩ := hrel
    have HB := Lib.hid hB; clear hB
    by_cases hlt : k < M.length
    · have hlt' : (k : Int) < (M.length : Int) := by omega
      have hw1 : IntKind.i64.wrap ((k : Int) + 1) = (k : Int) + 1 := by rw [IntKind.wrap_i64]; omega
      obtain ⟨ba, oa, rfl, p0, p1, p2, p3⟩ := tok_cells (HA.out.below HB.out) hlt
      have hxk := HX.out M[k] (List.getElem_mem hlt)
      obtain ⟨⟨xk, xt, xn, xl⟩, hxe⟩ : ∃ x, M[k] = x := ⟨_, rfl⟩
      rw [hxe] at p0 p1 p2 p3 hxk
      obtain ⟨hx1, hx2, hx3⟩ := hxk
      simp only at p0 p1 p2 p3 hx1 hx2 hx3
      have hal := (Below.refl wr.heap.size wr).alloc (Nat.le_refl _) (.cells #[.int .i64 xk, .string (bs xt), .int .i64 xn, .int .i64 xl] 37)
      have HY := Lib.hid (Bx.new wr #[.int .i64 xk, .string (bs xt), .int .i64 xn, .int .i64 xl] 37); have HB := Lib.hid (btrans HB.out HB.out.size hal); clear hal
      obtain ⟨vb, hvb⟩ : ∃ vb, valT ⟨xk, xt, xn, xl⟩ = vb := ⟨_, rfl⟩
      have HV := Lib.hid hvb; have HXE := Lib.hid hxe; clear hvb hxe
      go_upto_region 4 with (fail)
      clear p0 p1 p2 p3
      generalize hW : wr.alloc (.cells #[.int .i64 xk, .string (bs xt), .int .i64 xn, .int .i64 xl] 37) = v1 at HY HB ⊢
      clear hW
      have y0 : v1.cell? ⟨wr.heap.size, 0, none⟩ = some (.int .i64 xk) := HY.out.cell 0
      have y1 : v1.cell? ⟨wr.heap.size, 1, none⟩ = some (.string (bs xt)) := HY.out.cell 1
      have y2 : v1.cell? ⟨wr.heap.size, 2, none⟩ = some (.int .i64 xn) := HY.out.cell 2
      have y3 : v1.cell? ⟨wr.heap.size, 3, none⟩ = some (.int .i64 xl) := HY.out.cell 3
      go_wp2_with fail
      have hcl := LValid_any ⟨xk, xt, xn, xl⟩ (by show xt.length ≤ 1000000; omega) v1
      simp only [tkV] at hcl
      refine hcl.mono ?_
      rw [HV.out]
      clear hcl
      rintro er w2 ⟨rfl, hb1⟩
      clear y0 y1 y2 y3
      have HB := Lib.hid (btrans HB.out HB.out.size hb1); clear hb1
      cases vb with
      | false =>
        have hj : (T, re) = ([], 1) := HJ.out.symm.trans (join_bad hlt (by rw [HXE.out]; exact HV.out))
        have h1 : T = [] := congrArg Prod.fst hj
        have h2 : re = 1 := congrArg Prod.snd hj
        have H1 := Lib.hid h1; have H2 := Lib.hid h2; clear hj h1 h2
        go_wp2
        go_ret2
        exact ⟨by rw [H1.out, H2.out] <;> rfl, HB.out⟩
      | true =>
        have HN := Lib.hid (all_step hlt HQ.out (by rw [HXE.out]; exact HV.out))
        go_wp2
        go_roundw
        case rel => exact ⟨k + 1, by omega, by go_num, HN, HB.out⟩
        case measure => simp [intOf]; omega
    · have hlt' : ¬ (k : Int) < (M.length : Int) := by omega
      have HALL := Lib.hid (show M.all valT = true by have h := HQ.out; rw [List.take_of_length_le (by omega)] at h; exact h)
      have hwb := HB.out.size
      have hal := (Below.refl wr.heap.size wr).alloc (Nat.le_refl _) (.cells #[.pointer none, .slice none 0 0] 42)
      have HD := Lib.hid (Bd.new wr); have HB := Lib.hid (btrans HB.out HB.out.size hal); clear hal
      clear hlt hk
      obtain ⟨b, hb⟩ : ∃ b, wr.heap.size = b := ⟨_, rfl⟩
      go_upto_region 8 with (fail)
      generalize hW : wr.alloc (.cells #[.pointer none, .slice none 0 0] 42) = v1 at HB HD ⊢
      clear hW
      rw [hb] at HD hwb
      (try rw [hb])
      clear hb
      go_wp2
      go_loopw [23] (fun i w2 => ∃ k : Nat, k ≤ M.length ∧ i = .int .i64 k ∧ Bd b (catT (M.take k)) w2 ∧ (catT (M.take k)).length ≤ 16384 ∧ Below w.heap.size w w2) (fun i _ => M.length - (intOf i).toNat)
      case atStart => exact ⟨0, Nat.zero_le _, rfl, HD.out, Nat.zero_le _, HB.out⟩
      case round =>
        obtain ⟨k, hk, rfl, hD, hl16, hB⟩ := hrel
        clear HB HD HQ
        have HD := Lib.hid hD; have HB := Lib.hid hB; clear hD hB
        by_cases hlt : k < M.length
        · have hlt' : (k : Int) < (M.length : Int) := by omega
          have hw1 : IntKind.i64.wrap ((k : Int) + 1) = (k : Int) + 1 := by rw [IntKind.wrap_i64]; omega
          have HC0 := Lib.hid (fun e : k = 0 => show catT (M.take k) = [] by rw [e]; rfl)
          have HC1 := Lib.hid (cat_step0 M (by omega))
          have HCS := Lib.hid (fun h => cat_step M hlt h)
          obtain ⟨L0, hL0⟩ : ∃ L0, catT (M.take k) = L0 := ⟨_, rfl⟩
          rw [hL0] at HD hl16 HCS HC0
          have HL0 := Lib.hid hL0; clear hL0
          obtain ⟨ba, oa, rfl, p0, p1, p2, p3⟩ := tok_cells (HA.out.below HB.out) hlt
          have hxk := HX.out M[k] (List.getElem_mem hlt)
          obtain ⟨⟨xk, xt, xn, xl⟩, hxe⟩ : ∃ x, M[k] = x := ⟨_, rfl⟩
          rw [hxe] at p0 p1 p2 p3 hxk
          obtain ⟨hx1, hx2, hx3⟩ := hxk
          simp only at p0 p1 p2 p3 hx1 hx2 hx3
          have HXE := Lib.hid hxe; clear hxe
          have hal := (Below.refl wr.heap.size wr).alloc (Nat.le_refl _) (.cells #[.int .i64 xk, .string (bs xt), .int .i64 xn, .int .i64 xl] 37)
          have HY := Lib.hid (Bx.new wr #[.int .i64 xk, .string (bs xt), .int .i64 xn, .int .i64 xl] 37); have HDB := Lib.hid (HD.out.before.below hal); have HB := Lib.hid (btrans HB.out HB.out.size hal)
          have hsz := hal.size
          clear HD hal
          go_upto_region 11 with (fail)
          clear p0 p1 p2 p3
          generalize hW : wr.alloc (.cells #[.int .i64 xk, .string (bs xt), .int .i64 xn, .int .i64 xl] 37) = v2 at HY HDB HB hsz ⊢
          clear hW
          by_cases h0 : 0 < k
          · have h0i : (0 : Int) < (k : Int) := by omega
            have HST := Lib.hid (HCS.out h0)
            go_wp2_with fail
            refine (WriteByte_kept b L0 wr.heap.size 32 _ HDB.out (by omega) hsz).mono ?_
            rintro er w3 ⟨rfl, hD3, hb1, hkp⟩
            have HY := Lib.hid (show Bx wr.heap.size #[.int .i64 xk, .string (bs xt), .int .i64 xn, .int .i64 xl] 37 w3 from (hkp wr.heap.size (Nat.le_refl _) HY.out.lt).trans HY.out); have HD := Lib.hid hD3; clear hD3 hkp
            have HB := Lib.hid (HB.out.trans (hb1.mono hwb)); clear hb1
            obtain ⟨L1, hL1⟩ : ∃ L1, L0 ++ [32] = L1 := ⟨_, rfl⟩
            rw [hL1] at HD HST
            have HL1 := Lib.hid (show L1.length ≤ 16385 by rw [← hL1, List.length_append]; show _ + 1 ≤ _; omega); clear hL1
            have y0 : w3.cell? ⟨wr.heap.size, 0, none⟩ = some (.int .i64 xk) := HY.out.cell 0
            have y1 : w3.cell? ⟨wr.heap.size, 1, none⟩ = some (.string (bs xt)) := HY.out.cell 1
            have y2 : w3.cell? ⟨wr.heap.size, 2, none⟩ = some (.int .i64 xn) := HY.out.cell 2
            have y3 : w3.cell? ⟨wr.heap.size, 3, none⟩ = some (.int .i64 xl) := HY.out.cell 3
            by_cases h3 : xk = 3
            · have t3 : (xk == 3) = true := by rw [h3]; rfl
              have HT := Lib.hid (show txtT M[k] = Lib.itoa xn by rw [HXE.out]; exact txt_3 h3)
              have H3 := Lib.hid h3; clear h3
              obtain ⟨F, hF⟩ : ∃ F, Lib.itoa xn = F := ⟨_, rfl⟩
              have hFl : F.length ≤ 1000 := by rw [← hF]; have := Lib.itoa_length_le xn hx2 hx3; omega
              rw [hF] at HT; have HF := Lib.hid hF; clear hF
              go_wp2_with fail
              refine (Format_any xn _ hx2 hx3 (hL.below HB.out)).mono ?_
              rw [HF.out]
              rintro er w4 ⟨rfl, hb1⟩
              clear y0 y1 y2 y3
              have HD := Lib.hid (HD.out.below hb1)
              have HB := Lib.hid (btrans HB.out HB.out.size hb1); clear hb1
              go_wp2_with fail
              refine (Bd.writeS b L1 (F) _ HD.out (by have := HL1.out; omega) (by omega)).mono ?_
              rintro er w5 ⟨rfl, hD5, hb1⟩
              have HD := Lib.hid hD5; clear hD5
              have HB := Lib.hid (HB.out.trans (hb1.mono hwb)); clear hb1
              obtain ⟨L2, hL2⟩ : ∃ L2, L1 ++ F = L2 := ⟨_, rfl⟩
              have HC := Lib.hid (show catT (M.take (k + 1)) = L2 by rw [← hL2]; exact by rw [HST.out, HT.out])
              have hl2 : L2.length ≤ 20000 := by rw [← hL2]; simp only [List.length_append]; have := HL1.out; omega
              rw [hL2] at HD
              have HL2 := Lib.hid hL2; clear hL2
              go_wp2_with fail
              refine (Bd.len b L2 _ HD.out).mono ?_
              rintro er w6 ⟨rfl, rfl⟩
              by_cases hlong : 16384 < L2.length
              · have hlong' : (16384 : Int) < (L2.length : Int) := by omega
                have hj : (T, re) = ([], 2) := HJ.out.symm.trans (join_long HALL.out (show k + 1 ≤ M.length from hlt) (by rw [HC.out]; exact hlong))
                have h1 : T = [] := congrArg Prod.fst hj
                have h2 : re = 2 := congrArg Prod.snd hj
                have H1 := Lib.hid h1; have H2 := Lib.hid h2; clear hj h1 h2
                go_wp2
                go_ret2
                exact ⟨by rw [H1.out, H2.out] <;> rfl, HB.out⟩
              have hlong' : ¬ (16384 : Int) < (L2.length : Int) := by omega
              go_wp2
              go_roundw
              case rel => exact ⟨k + 1, by omega, by go_num, by rw [HC.out]; exact HD.out, by rw [HC.out]; omega, HB.out⟩
              case measure => simp [intOf]; omega
            have t3 : (xk == 3) = false := by rw [beq_eq_false_iff_ne]; exact h3
            by_cases h4 : xk = 4
            · have t4 : (xk == 4) = true := by rw [h4]; rfl
              obtain ⟨⟨F, qe⟩, hF⟩ : ∃ r, quoL xt = r := ⟨_, rfl⟩
              have hFl : F.length ≤ 1000 := by have := txt_len (x := ⟨4, xt, xn, xl⟩) hx1 hx2 hx3; rw [txt_4 rfl] at this; rw [hF] at this; exact this
              have HT := Lib.hid (show txtT M[k] = F by rw [HXE.out, txt_4 (show (⟨xk, xt, xn, xl⟩ : Tk).k = 4 from h4)]; show (quoL xt).1 = F; rw [hF])
              have H3 := Lib.hid h3; have H4 := Lib.hid h4; have HF := Lib.hid hF; clear h3 h4 hF
              go_wp2_with fail
              refine (LQuote_any xt (by omega) _).mono ?_
              rw [HF.out]
              rintro er w4 ⟨rfl, hb1⟩
              clear y0 y1 y2 y3
              have HD := Lib.hid (HD.out.below hb1)
              have HB := Lib.hid (btrans HB.out HB.out.size hb1); clear hb1
              go_wp2_with fail
              refine (Bd.writeS b L1 (F) _ HD.out (by have := HL1.out; omega) (by omega)).mono ?_
              rintro er w5 ⟨rfl, hD5, hb1⟩
              have HD := Lib.hid hD5; clear hD5
              have HB := Lib.hid (HB.out.trans (hb1.mono hwb)); clear hb1
              obtain ⟨L2, hL2⟩ : ∃ L2, L1 ++ F = L2 := ⟨_, rfl⟩
              have HC := Lib.hid (show catT (M.take (k + 1)) = L2 by rw [← hL2]; exact by rw [HST.out, HT.out])
              have hl2 : L2.length ≤ 20000 := by rw [← hL2]; simp only [List.length_append]; have := HL1.out; omega
              rw [hL2] at HD
              have HL2 := Lib.hid hL2; clear hL2
              go_wp2_with fail
              refine (Bd.len b L2 _ HD.out).mono ?_
              rintro er w6 ⟨rfl, rfl⟩
              by_cases hlong : 16384 < L2.length
              · have hlong' : (16384 : Int) < (L2.length : Int) := by omega
                have hj : (T, re) = ([], 2) := HJ.out.symm.trans (join_long HALL.out (show k + 1 ≤ M.length from hlt) (by rw [HC.out]; exact hlong))
                have h1 : T = [] := congrArg Prod.fst hj
                have h2 : re = 2 := congrArg Prod.snd hj
                have H1 := Lib.hid h1; have H2 := Lib.hid h2; clear hj h1 h2
                go_wp2
                go_ret2
                exact ⟨by rw [H1.out, H2.out] <;> rfl, HB.out⟩
              have hlong' : ¬ (16384 : Int) < (L2.length : Int) := by omega
              go_wp2
              go_roundw
              case rel => exact ⟨k + 1, by omega, by go_num, by rw [HC.out]; exact HD.out, by rw [HC.out]; omega, HB.out⟩
              case measure => simp [intOf]; omega
            have t4 : (xk == 4) = false := by rw [beq_eq_false_iff_ne]; exact h4
            have HT := Lib.hid (show txtT M[k] = xt by rw [HXE.out]; exact txt_e h3 h4)
            have H3 := Lib.hid h3; have H4 := Lib.hid h4; clear h3 h4
            go_wp2_with fail
            refine (Bd.writeS b L1 (xt) _ HD.out (by have := HL1.out; omega) (by omega)).mono ?_
            rintro er w5 ⟨rfl, hD5, hb1⟩
            have HD := Lib.hid hD5; clear hD5
            have HB := Lib.hid (HB.out.trans (hb1.mono hwb)); clear hb1
            clear y0 y1 y2 y3
            obtain ⟨L2, hL2⟩ : ∃ L2, L1 ++ xt = L2 := ⟨_, rfl⟩
            have HC := Lib.hid (show catT (M.take (k + 1)) = L2 by rw [← hL2]; exact by rw [HST.out, HT.out])
            have hl2 : L2.length ≤ 20000 := by rw [← hL2]; simp only [List.length_append]; have := HL1.out; omega
            rw [hL2] at HD
            have HL2 := Lib.hid hL2; clear hL2
            go_wp2_with fail
            refine (Bd.len b L2 _ HD.out).mono ?_
            rintro er w6 ⟨rfl, rfl⟩
            by_cases hlong : 16384 < L2.length
            · have hlong' : (16384 : Int) < (L2.length : Int) := by omega
              have hj : (T, re) = ([], 2) := HJ.out.symm.trans (join_long HALL.out (show k + 1 ≤ M.length from hlt) (by rw [HC.out]; exact hlong))
              have h1 : T = [] := congrArg Prod.fst hj
              have h2 : re = 2 := congrArg Prod.snd hj
              have H1 := Lib.hid h1; have H2 := Lib.hid h2; clear hj h1 h2
              go_wp2
              go_ret2
              exact ⟨by rw [H1.out, H2.out] <;> rfl, HB.out⟩
            have hlong' : ¬ (16384 : Int) < (L2.length : Int) := by omega
            go_wp2
            go_roundw
            case rel => exact ⟨k + 1, by omega, by go_num, by rw [HC.out]; exact HD.out, by rw [HC.out]; omega, HB.out⟩
            case measure => simp [intOf]; omega
          have h0i : ¬ (0 : Int) < (k : Int) := by omega
          have hk0 : k = 0 := by omega
          have hL00 := HC0.out hk0
          have HK0 := Lib.hid hk0; clear hk0
          have HD := Lib.hid (show Bd b [] v2 by rw [← hL00]; exact HDB.out.2.1)
          have HL1 := Lib.hid (show ([] : List UInt8).length ≤ 16385 from Nat.zero_le _)
          have HST := Lib.hid (show catT (M.take (k + 1)) = txtT M[k] by have := HK0.out; subst this; exact HC1.out)
          clear hL00
          have y0 : v2.cell? ⟨wr.heap.size, 0, none⟩ = some (.int .i64 xk) := HY.out.cell 0
          have y1 : v2.cell? ⟨wr.heap.size, 1, none⟩ = some (.string (bs xt)) := HY.out.cell 1
          have y2 : v2.cell? ⟨wr.heap.size, 2, none⟩ = some (.int .i64 xn) := HY.out.cell 2
          have y3 : v2.cell? ⟨wr.heap.size, 3, none⟩ = some (.int .i64 xl) := HY.out.cell 3
          by_cases h3 : xk = 3
          · have t3 : (xk == 3) = true := by rw [h3]; rfl
            have HT := Lib.hid (show txtT M[k] = Lib.itoa xn by rw [HXE.out]; exact txt_3 h3)
            have H3 := Lib.hid h3; clear h3
            obtain ⟨F, hF⟩ : ∃ F, Lib.itoa xn = F := ⟨_, rfl⟩
            have hFl : F.length ≤ 1000 := by rw [← hF]; have := Lib.itoa_length_le xn hx2 hx3; omega
            rw [hF] at HT; have HF := Lib.hid hF; clear hF
            go_wp2_with fail
            refine (Format_any xn _ hx2 hx3 (hL.below HB.out)).mono ?_
            rw [HF.out]
            rintro er w4 ⟨rfl, hb1⟩
            clear y0 y1 y2 y3
            have HD := Lib.hid (HD.out.below hb1)
            have HB := Lib.hid (btrans HB.out HB.out.size hb1); clear hb1
            go_wp2_with fail
            refine (Bd.writeS b ([] : List UInt8) (F) _ HD.out (by have := HL1.out; omega) (by omega)).mono ?_
            rintro er w5 ⟨rfl, hD5, hb1⟩
            have HD := Lib.hid hD5; clear hD5
            have HB := Lib.hid (HB.out.trans (hb1.mono hwb)); clear hb1
            obtain ⟨L2, hL2⟩ : ∃ L2, ([] : List UInt8) ++ F = L2 := ⟨_, rfl⟩
            have HC := Lib.hid (show catT (M.take (k + 1)) = L2 by rw [← hL2]; exact by rw [HST.out, HT.out]; rfl)
            have hl2 : L2.length ≤ 20000 := by rw [← hL2]; simp only [List.length_append]; have := HL1.out; omega
            rw [hL2] at HD
            have HL2 := Lib.hid hL2; clear hL2
            go_wp2_with fail
            refine (Bd.len b L2 _ HD.out).mono ?_
            rintro er w6 ⟨rfl, rfl⟩
            by_cases hlong : 16384 < L2.length
            · have hlong' : (16384 : Int) < (L2.length : Int) := by omega
              have hj : (T, re) = ([], 2) := HJ.out.symm.trans (join_long HALL.out (show k + 1 ≤ M.length from hlt) (by rw [HC.out]; exact hlong))
              have h1 : T = [] := congrArg Prod.fst hj
              have h2 : re = 2 := congrArg Prod.snd hj
              have H1 := Lib.hid h1; have H2 := Lib.hid h2; clear hj h1 h2
              go_wp2
              go_ret2
              exact ⟨by rw [H1.out, H2.out] <;> rfl, HB.out⟩
            have hlong' : ¬ (16384 : Int) < (L2.length : Int) := by omega
            go_wp2
            go_roundw
            case rel => exact ⟨k + 1, by omega, by go_num, by rw [HC.out]; exact HD.out, by rw [HC.out]; omega, HB.out⟩
            case measure => simp [intOf]; omega
          have t3 : (xk == 3) = false := by rw [beq_eq_false_iff_ne]; exact h3
          by_cases h4 : xk = 4
          · have t4 : (xk == 4) = true := by rw [h4]; rfl
            obtain ⟨⟨F, qe⟩, hF⟩ : ∃ r, quoL xt = r := ⟨_, rfl⟩
            have hFl : F.length ≤ 1000 := by have := txt_len (x := ⟨4, xt, xn, xl⟩) hx1 hx2 hx3; rw [txt_4 rfl] at this; rw [hF] at this; exact this
            have HT := Lib.hid (show txtT M[k] = F by rw [HXE.out, txt_4 (show (⟨xk, xt, xn, xl⟩ : Tk).k = 4 from h4)]; show (quoL xt).1 = F; rw [hF])
            have H3 := Lib.hid h3; have H4 := Lib.hid h4; have HF := Lib.hid hF; clear h3 h4 hF
            go_wp2_with fail
            refine (LQuote_any xt (by omega) _).mono ?_
            rw [HF.out]
            rintro er w4 ⟨rfl, hb1⟩
            clear y0 y1 y2 y3
            have HD := Lib.hid (HD.out.below hb1)
            have HB := Lib.hid (btrans HB.out HB.out.size hb1); clear hb1
            go_wp2_with fail
            refine (Bd.writeS b ([] : List UInt8) (F) _ HD.out (by have := HL1.out; omega) (by omega)).mono ?_
            rintro er w5 ⟨rfl, hD5, hb1⟩
            have HD := Lib.hid hD5; clear hD5
            have HB := Lib.hid (HB.out.trans (hb1.mono hwb)); clear hb1
            obtain ⟨L2, hL2⟩ : ∃ L2, ([] : List UInt8) ++ F = L2 := ⟨_, rfl⟩
            have HC := Lib.hid (show catT (M.take (k + 1)) = L2 by rw [← hL2]; exact by rw [HST.out, HT.out]; rfl)
            have hl2 : L2.length ≤ 20000 := by rw [← hL2]; simp only [List.length_append]; have := HL1.out; omega
            rw [hL2] at HD
            have HL2 := Lib.hid hL2; clear hL2
            go_wp2_with fail
            refine (Bd.len b L2 _ HD.out).mono ?_
            rintro er w6 ⟨rfl, rfl⟩
            by_cases hlong : 16384 < L2.length
            · have hlong' : (16384 : Int) < (L2.length : Int) := by omega
              have hj : (T, re) = ([], 2) := HJ.out.symm.trans (join_long HALL.out (show k + 1 ≤ M.length from hlt) (by rw [HC.out]; exact hlong))
              have h1 : T = [] := congrArg Prod.fst hj
              have h2 : re = 2 := congrArg Prod.snd hj
              have H1 := Lib.hid h1; have H2 := Lib.hid h2; clear hj h1 h2
              go_wp2
              go_ret2
              exact ⟨by rw [H1.out, H2.out] <;> rfl, HB.out⟩
            have hlong' : ¬ (16384 : Int) < (L2.length : Int) := by omega
            go_wp2
            go_roundw
            case rel => exact ⟨k + 1, by omega, by go_num, by rw [HC.out]; exact HD.out, by rw [HC.out]; omega, HB.out⟩
            case measure => simp [intOf]; omega
          have t4 : (xk == 4) = false := by rw [beq_eq_false_iff_ne]; exact h4
          have HT := Lib.hid (show txtT M[k] = xt by rw [HXE.out]; exact txt_e h3 h4)
          have H3 := Lib.hid h3; have H4 := Lib.hid h4; clear h3 h4
          go_wp2_with fail
          refine (Bd.writeS b ([] : List UInt8) (xt) _ HD.out (by have := HL1.out; omega) (by omega)).mono ?_
          rintro er w5 ⟨rfl, hD5, hb1⟩
          have HD := Lib.hid hD5; clear hD5
          have HB := Lib.hid (HB.out.trans (hb1.mono hwb)); clear hb1
          clear y0 y1 y2 y3
          obtain ⟨L2, hL2⟩ : ∃ L2, ([] : List UInt8) ++ xt = L2 := ⟨_, rfl⟩
          have HC := Lib.hid (show catT (M.take (k + 1)) = L2 by rw [← hL2]; exact by rw [HST.out, HT.out]; rfl)
          have hl2 : L2.length ≤ 20000 := by rw [← hL2]; simp only [List.length_append]; have := HL1.out; omega
          rw [hL2] at HD
          have HL2 := Lib.hid hL2; clear hL2
          go_wp2_with fail
          refine (Bd.len b L2 _ HD.out).mono ?_
          rintro er w6 ⟨rfl, rfl⟩
          by_cases hlong : 16384 < L2.length
          · have hlong' : (16384 : Int) < (L2.length : Int) := by omega
            have hj : (T, re) = ([], 2) := HJ.out.symm.trans (join_long HALL.out (show k + 1 ≤ M.length from hlt) (by rw [HC.out]; exact hlong))
            have h1 : T = [] := congrArg Prod.fst hj
            have h2 : re = 2 := congrArg Prod.snd hj
            have H1 := Lib.hid h1; have H2 := Lib.hid h2; clear hj h1 h2
            go_wp2
            go_ret2
            exact ⟨by rw [H1.out, H2.out] <;> rfl, HB.out⟩
          have hlong' : ¬ (16384 : Int) < (L2.length : Int) := by omega
          go_wp2
          go_roundw
          case rel => exact ⟨k + 1, by omega, by go_num, by rw [HC.out]; exact HD.out, by rw [HC.out]; omega, HB.out⟩
          case measure => simp [intOf]; omega
        · have hlt' : ¬ (k : Int) < (M.length : Int) := by omega
          have hkl : M.take k = M := List.take_of_length_le (by omega)
          rw [hkl] at HD hl16
          have HK := Lib.hid hkl; clear hkl
          obtain ⟨C, hC⟩ : ∃ C, catT M = C := ⟨_, rfl⟩
          rw [hC] at HD hl16
          have HC := Lib.hid hC; clear hC
          have hj : (T, re) = (catT M, 0) := HJ.out.symm.trans (join_ok HALL.out (by rw [HC.out]; exact hl16))
          have h1 : T = catT M := congrArg Prod.fst hj
          have h2 : re = 0 := congrArg Prod.snd hj
          have H1 := Lib.hid h1; have H2 := Lib.hid h2; clear hj h1 h2
          go_wp2_with fail
          refine (Bd.string b C _ HD.out (by have := HD.out.lt; omega)).mono ?_
          rintro er w5 ⟨rfl, hb1⟩
          have HB := Lib.hid (HB.out.trans (hb1.mono hwb)); clear hb1
          go_wp2
          go_ret2
          exact ⟨by rw [H1.out, H2.out, HC.out] <;> rfl, HB.out⟩
set_option maxRecDepth 100000 in
set_option maxHeartbeats 16000000 in
theorem RJoin_any (va : Value) (M : List Tk) (w : World) (hA : CellsAt w va M.length (tkLs M)) (hM : M.length ≤ 100000) (hx : ∀ x ∈ M, TkOk x) :
    Calls Tryd.prog 23 #[va] w fun e w' => e = .returned (.tuple #[.string (bs (joinT M).1), .int .i64 (joinT M).2]) ∧ Below w.heap.size w w' := by
  obtain ⟨aa, ca, rfl, -⟩ := id hA
  obtain ⟨T, re, hj⟩ : ∃ T re, joinT M = (T, re) := ⟨_, _, rfl⟩
  rw [hj]
  have HJ := Lib.hid hj; have HLEN := Lib.hid (fun k h => cat_len M hx k h); have HA := Lib.hid hA; have HX := Lib.hid hx; clear hj hA hx
  go_enter Tryd.func23, Tryd.ntmps23
  go_wp2
  go_loopw [5] (fun i wr => ∃ k : Nat, k ≤ M.length ∧ i = .int .i64 k ∧ Hid ((M.take k).all valT = true) ∧ Below w.heap.size w wr) (fun i _ => M.length - (intOf i).toNat)
  case atStart => exact ⟨0, Nat.zero_le _, rfl, Lib.hid rfl, Below.refl _ _⟩
  case round =>
    obtain ⟨k, hk, rfl, HQ, hB⟩ := hrel
    have HB := Lib.hid hB; clear hB
    by_cases hlt : k < M.length
    · have hlt' : (k : Int) < (M.length : Int) := by omega
      have hw1 : IntKind.i64.wrap ((k : Int) + 1) = (k : Int) + 1 := by rw [IntKind.wrap_i64]; omega
      obtain ⟨ba, oa, rfl, p0, p1, p2, p3⟩ := tok_cells (HA.out.below HB.out) hlt
      have hxk := HX.out M[k] (List.getElem_mem hlt)
      obtain ⟨⟨xk, xt, xn, xl⟩, hxe⟩ : ∃ x, M[k] = x := ⟨_, rfl⟩
      rw [hxe] at p0 p1 p2 p3 hxk
      obtain ⟨hx1, hx2, hx3⟩ := hxk
      simp only at p0 p1 p2 p3 hx1 hx2 hx3
      obtain ⟨vb, hvb⟩ : ∃ vb, valT ⟨xk, xt, xn, xl⟩ = vb := ⟨_, rfl⟩
      have HV := Lib.hid hvb; have HXE := Lib.hid hxe; clear hvb hxe
      go_wp2_with fail
      have hcl := RLValid_any ⟨xk, xt, xn, xl⟩ (by show xt.length ≤ 1000000; omega) wr
      simp only [tkV] at hcl
      refine hcl.mono ?_
      rw [HV.out]
      clear hcl
      rintro er w2 ⟨rfl, hb1⟩
      clear p0 p1 p2 p3
      have HB := Lib.hid (btrans HB.out HB.out.size hb1); clear hb1
      cases vb with
      | false =>
        have hj : (T, re) = ([], 1) := HJ.out.symm.trans (join_bad hlt (by rw [HXE.out]; exact HV.out))
        have h1 : T = [] := congrArg Prod.fst hj
        have h2 : re = 1 := congrArg Prod.snd hj
        have H1 := Lib.hid h1; have H2 := Lib.hid h2; clear hj h1 h2
        go_wp2
        go_ret2
        exact ⟨by rw [H1.out, H2.out] <;> rfl, HB.out⟩
      | true =>
        have HN := Lib.hid (all_step hlt HQ.out (by rw [HXE.out]; exact HV.out))
        go_wp2
        go_roundw
        case rel => exact ⟨k + 1, by omega, by go_num, HN, HB.out⟩
        case measure => simp [intOf]; omega
    · have hlt' : ¬ (k : Int) < (M.length : Int) := by omega
      have HALL := Lib.hid (show M.all valT = true by have h := HQ.out; rw [List.take_of_length_le (by omega)] at h; exact h)
      clear hlt hk
      go_wp2
      go_loopw [4, 6] (fun s i w2 => ∃ k : Nat, k ≤ M.length ∧ i = .int .i64 k ∧ s = .string (bs (catT (M.take k))) ∧ Below w.heap.size w w2) (fun _ i _ => M.length - (intOf i).toNat)
      case atStart => exact ⟨0, Nat.zero_le _, rfl, rfl, HB.out⟩
      case round =>
        obtain ⟨k, hk, rfl, hs, hB⟩ := hrel
        clear HB HQ
        have HB := Lib.hid hB; clear hB
        have hll := HLEN.out k hk
        by_cases hlt : k < M.length
        · have hlt' : (k : Int) < (M.length : Int) := by omega
          have hw1 : IntKind.i64.wrap ((k : Int) + 1) = (k : Int) + 1 := by rw [IntKind.wrap_i64]; omega
          have HC0 := Lib.hid (fun e : k = 0 => show catT (M.take k) = [] by rw [e]; rfl)
          have HC1 := Lib.hid (cat_step0 M (by omega))
          have HCS := Lib.hid (fun h => cat_step M hlt h)
          obtain ⟨L0, hL0⟩ : ∃ L0, catT (M.take k) = L0 := ⟨_, rfl⟩
          rw [hL0] at hs hll HCS HC0
          subst hs
          have HL0 := Lib.hid hL0; clear hL0
          obtain ⟨ba, oa, rfl, p0, p1, p2, p3⟩ := tok_cells (HA.out.below HB.out) hlt
          have hxk := HX.out M[k] (List.getElem_mem hlt)
          obtain ⟨⟨xk, xt, xn, xl⟩, hxe⟩ : ∃ x, M[k] = x := ⟨_, rfl⟩
          rw [hxe] at p0 p1 p2 p3 hxk
          obtain ⟨hx1, hx2, hx3⟩ := hxk
          simp only at p0 p1 p2 p3 hx1 hx2 hx3
          have HXE := Lib.hid hxe; clear hxe
          by_cases h0 : 0 < k
          · have h0i : (0 : Int) < (k : Int) := by omega
            have HST := Lib.hid (HCS.out h0)
            have HL1 := Lib.hid (show (L0 ++ [32]).length ≤ 1000000000 by rw [List.length_append]; show _ + 1 ≤ _; omega)
            have hsz1 : ¬ 9223372036854775807 < L0.length + 1 := by omega
            by_cases h3 : xk = 3
            · have t3 : (xk == 3) = true := by rw [h3]; rfl
              have HT := Lib.hid (show txtT M[k] = Lib.itoa xn by rw [HXE.out]; exact txt_3 h3)
              have H3 := Lib.hid h3; clear h3
              obtain ⟨F, hF⟩ : ∃ F, Lib.itoa xn = F := ⟨_, rfl⟩
              have hFl : F.length ≤ 1000 := by rw [← hF]; have := Lib.itoa_length_le xn hx2 hx3; omega
              have hsz : ¬ 9223372036854775807 < ((L0 ++ [32])).length + F.length := by have := HL1.out; omega
              rw [hF] at HT; have HF := Lib.hid hF; clear hF
              go_wp2_with fail
              refine (RFormat_any xn _ hx2 hx3).mono ?_
              rw [HF.out]
              rintro er w4 ⟨rfl, hb1⟩
              clear p0 p1 p2 p3
              have HB := Lib.hid (btrans HB.out HB.out.size hb1); clear hb1
              have HC := Lib.hid (show catT (M.take (k + 1)) = (L0 ++ [32]) ++ F from by rw [HST.out, HT.out])
              go_wp2
              go_roundw
              case rel => exact ⟨k + 1, by omega, by go_num, by rw [HC.out]; first | exact congrArg Value.string (cat3 _ _) | exact congrArg Value.string (cat1 _) | exact congrArg Value.string (cat2 _) | simp [bs], HB.out⟩
              case measure => simp [intOf]; omega
            have t3 : (xk == 3) = false := by rw [beq_eq_false_iff_ne]; exact h3
            by_cases h4 : xk = 4
            · have t4 : (xk == 4) = true := by rw [h4]; rfl
              obtain ⟨⟨F, qe⟩, hF⟩ : ∃ r, quoL xt = r := ⟨_, rfl⟩
              have hFl : F.length ≤ 1000 := by have := txt_len (x := ⟨4, xt, xn, xl⟩) hx1 hx2 hx3; rw [txt_4 rfl] at this; rw [hF] at this; exact this
              have hsz : ¬ 9223372036854775807 < ((L0 ++ [32])).length + F.length := by have := HL1.out; omega
              have HT := Lib.hid (show txtT M[k] = F by rw [HXE.out, txt_4 (show (⟨xk, xt, xn, xl⟩ : Tk).k = 4 from h4)]; show (quoL xt).1 = F; rw [hF])
              have H3 := Lib.hid h3; have H4 := Lib.hid h4; have HF := Lib.hid hF; clear h3 h4 hF
              go_wp2_with fail
              refine (RLQuote_any xt (by omega) _).mono ?_
              rw [HF.out]
              rintro er w4 ⟨rfl, hb1⟩
              clear p0 p1 p2 p3
              have HB := Lib.hid (btrans HB.out HB.out.size hb1); clear hb1
              have HC := Lib.hid (show catT (M.take (k + 1)) = (L0 ++ [32]) ++ F from by rw [HST.out, HT.out])
              go_wp2
              go_roundw
              case rel => exact ⟨k + 1, by omega, by go_num, by rw [HC.out]; first | exact congrArg Value.string (cat3 _ _) | exact congrArg Value.string (cat1 _) | exact congrArg Value.string (cat2 _) | simp [bs], HB.out⟩
              case measure => simp [intOf]; omega
            have t4 : (xk == 4) = false := by rw [beq_eq_false_iff_ne]; exact h4
            have hsz : ¬ 9223372036854775807 < ((L0 ++ [32])).length + xt.length := by have := HL1.out; omega
            have HT := Lib.hid (show txtT M[k] = xt by rw [HXE.out]; exact txt_e h3 h4)
            have H3 := Lib.hid h3; have H4 := Lib.hid h4; clear h3 h4
            have HC := Lib.hid (show catT (M.take (k + 1)) = (L0 ++ [32]) ++ xt from by rw [HST.out, HT.out])
            go_wp2
            go_roundw
            case rel => exact ⟨k + 1, by omega, by go_num, by rw [HC.out]; first | exact congrArg Value.string (cat3 _ _) | exact congrArg Value.string (cat1 _) | exact congrArg Value.string (cat2 _) | simp [bs], HB.out⟩
            case measure => simp [intOf]; omega
          have h0i : ¬ (0 : Int) < (k : Int) := by omega
          have hk0 : k = 0 := by omega
          have hL00 := HC0.out hk0
          have HK0 := Lib.hid hk0; clear hk0
          subst hL00
          have HL1 := Lib.hid (show ([] : List UInt8).length ≤ 1000000000 from Nat.zero_le _)
          have HST := Lib.hid (show catT (M.take (k + 1)) = txtT M[k] by have := HK0.out; subst this; exact HC1.out)
          by_cases h3 : xk = 3
          · have t3 : (xk == 3) = true := by rw [h3]; rfl
            have HT := Lib.hid (show txtT M[k] = Lib.itoa xn by rw [HXE.out]; exact txt_3 h3)
            have H3 := Lib.hid h3; clear h3
            obtain ⟨F, hF⟩ : ∃ F, Lib.itoa xn = F := ⟨_, rfl⟩
            have hFl : F.length ≤ 1000 := by rw [← hF]; have := Lib.itoa_length_le xn hx2 hx3; omega
            have hsz : ¬ 9223372036854775807 < (([] : List UInt8)).length + F.length := by have := HL1.out; omega
            rw [hF] at HT; have HF := Lib.hid hF; clear hF
            go_wp2_with fail
            refine (RFormat_any xn _ hx2 hx3).mono ?_
            rw [HF.out]
            rintro er w4 ⟨rfl, hb1⟩
            clear p0 p1 p2 p3
            have HB := Lib.hid (btrans HB.out HB.out.size hb1); clear hb1
            have HC := Lib.hid (show catT (M.take (k + 1)) = ([] : List UInt8) ++ F from by rw [HST.out, HT.out]; rfl)
            go_wp2
            go_roundw
            case rel => exact ⟨k + 1, by omega, by go_num, by rw [HC.out]; first | exact congrArg Value.string (cat3 _ _) | exact congrArg Value.string (cat1 _) | exact congrArg Value.string (cat2 _) | simp [bs], HB.out⟩
            case measure => simp [intOf]; omega
          have t3 : (xk == 3) = false := by rw [beq_eq_false_iff_ne]; exact h3
          by_cases h4 : xk = 4
          · have t4 : (xk == 4) = true := by rw [h4]; rfl
            obtain ⟨⟨F, qe⟩, hF⟩ : ∃ r, quoL xt = r := ⟨_, rfl⟩
            have hFl : F.length ≤ 1000 := by have := txt_len (x := ⟨4, xt, xn, xl⟩) hx1 hx2 hx3; rw [txt_4 rfl] at this; rw [hF] at this; exact this
            have hsz : ¬ 9223372036854775807 < (([] : List UInt8)).length + F.length := by have := HL1.out; omega
            have HT := Lib.hid (show txtT M[k] = F by rw [HXE.out, txt_4 (show (⟨xk, xt, xn, xl⟩ : Tk).k = 4 from h4)]; show (quoL xt).1 = F; rw [hF])
            have H3 := Lib.hid h3; have H4 := Lib.hid h4; have HF := Lib.hid hF; clear h3 h4 hF
            go_wp2_with fail
            refine (RLQuote_any xt (by omega) _).mono ?_
            rw [HF.out]
            rintro er w4 ⟨rfl, hb1⟩
            clear p0 p1 p2 p3
            have HB := Lib.hid (btrans HB.out HB.out.size hb1); clear hb1
            have HC := Lib.hid (show catT (M.take (k + 1)) = ([] : List UInt8) ++ F from by rw [HST.out, HT.out]; rfl)
            go_wp2
            go_roundw
            case rel => exact ⟨k + 1, by omega, by go_num, by rw [HC.out]; first | exact congrArg Value.string (cat3 _ _) | exact congrArg Value.string (cat1 _) | exact congrArg Value.string (cat2 _) | simp [bs], HB.out⟩
            case measure => simp [intOf]; omega
          have t4 : (xk == 4) = false := by rw [beq_eq_false_iff_ne]; exact h4
          have hsz : ¬ 9223372036854775807 < (([] : List UInt8)).length + xt.length := by have := HL1.out; omega
          have HT := Lib.hid (show txtT M[k] = xt by rw [HXE.out]; exact txt_e h3 h4)
          have H3 := Lib.hid h3; have H4 := Lib.hid h4; clear h3 h4
          have HC := Lib.hid (show catT (M.take (k + 1)) = ([] : List UInt8) ++ xt from by rw [HST.out, HT.out]; rfl)
          go_wp2
          go_roundw
          case rel => exact ⟨k + 1, by omega, by go_num, by rw [HC.out]; first | exact congrArg Value.string (cat3 _ _) | exact congrArg Value.string (cat1 _) | exact congrArg Value.string (cat2 _) | simp [bs], HB.out⟩
          case measure => simp [intOf]; omega
        · have hlt' : ¬ (k : Int) < (M.length : Int) := by omega
          have hkl : M.take k = M := List.take_of_length_le (by omega)
          obtain ⟨C, hC⟩ : ∃ C, catT M = C := ⟨_, rfl⟩
          rw [hkl, hC] at hs
          subst hs
          have HK := Lib.hid hkl; have HC := Lib.hid hC; clear hkl hll hC
          by_cases hlong : 16384 < C.length
          · have hlong' : (16384 : Int) < (C.length : Int) := by omega
            have hj : (T, re) = ([], 2) := HJ.out.symm.trans (join_long HALL.out (Nat.le_refl _) (by rw [List.take_length, HC.out]; exact hlong))
            have h1 : T = [] := congrArg Prod.fst hj
            have h2 : re = 2 := congrArg Prod.snd hj
            have H1 := Lib.hid h1; have H2 := Lib.hid h2; clear hj h1 h2
            go_wp2
            go_ret2
            exact ⟨by rw [H1.out, H2.out] <;> rfl, HB.out⟩
          · have hlong' : ¬ (16384 : Int) < (C.length : Int) := by omega
            have hj : (T, re) = (catT M, 0) := HJ.out.symm.trans (join_ok HALL.out (by rw [HC.out]; omega))
            have h1 : T = catT M := congrArg Prod.fst hj
            have h2 : re = 0 := congrArg Prod.snd hj
            have H1 := Lib.hid h1; have H2 := Lib.hid h2; clear hj h1 h2
            go_wp2
            go_ret2
            exact ⟨by rw [H1.out, H2.out, HC.out] <;> rfl, HB.out⟩
end Go.Proofs.YthdioaolnbdbgaaDoor
