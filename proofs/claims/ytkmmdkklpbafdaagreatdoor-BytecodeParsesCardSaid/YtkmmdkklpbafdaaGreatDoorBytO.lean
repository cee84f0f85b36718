/- The walk of layer 16's Parse. No conditions. -/
import Derived.Test.YtkmmdkklpbafdaaGreatDoorBytN
namespace Go.Proofs.YtkmmdkklpbafdaaGreatDoor
open Go.RowKit

theorem cellsAt_ins (w : World) (x : Ins) : CellsAt (w.alloc (.cells (insV x) 39)) (.slice (some ⟨w.heap.size, 0, none⟩) 1 1) 1 (insL x) := by
  refine ⟨_, _, rfl, fun _ => ⟨_, _, rfl, fun j y hj => ?_⟩⟩
  rw [Nat.zero_add]
  have h := (Bx.new w (insV x) 39).cell j
  rw [h]
  rcases j with _ | _ | _ | _ | _ | j
  · exact hj
  · exact hj
  · exact hj
  · exact hj
  · exact hj
  · simp [insL] at hj
/-- 'v = append(v, y)', v a slice of tokens of the call's own -/
theorem wpList_append_ins {w1 : World} {ops : Array Oper} {rest : List Oper} {o : Oper} {a : Act} {Q : Exit → Act → World → Prop} (hgd : o.guard = none) (s x : Operand)
    (ho : o.op = .call { callee := .builtin .append, args := #[s, x], argTypes := #[23, 23] }) (B : Nat) (v : Value) (L : List Ins) (y : Ins) (hown : w1.ownsRow B 39 5 v L.length (insLs L))
    (hs : a.eval s = v) (hx : a.eval x = .slice (some ⟨w1.heap.size, 0, none⟩) 1 1) (hlen : L.length ≤ 1000000) (W0 : World) (B0 : Nat) (hbel : Below B0 W0 w1) (hB : B ≤ w1.heap.size) (hB0 : B0 ≤ B)
    (h : ∀ v' w', w'.ownsRow B 39 5 v' (L ++ [y]).length (insLs (L ++ [y])) → Below B0 W0 w' → w1.grownBy w' v.ownBlock → wpList Tryz.prog ops Q rest (a.put o.dst v') w') :
    wpList Tryz.prog ops Q (o :: rest) a (w1.alloc (.cells (insV y) 39)) := by
  obtain ⟨i0, hi, hz0, hz1, hz2⟩ := info_parts infoIns
  refine wpList_append_any hgd s x 23 ho B 39 i0 (.agg #[.int .i64 0, .int .i64 0, .int .i64 0, .int .i64 0, .string ⟨#[]⟩]) 5 48 Tryz.underlying23 hi hz0 hz1 hz2 rfl (by decide) v _ L.length 1 (insLs L) (insL y) hs (hown.alloc _) hx (cellsAt_ins w1 y) rfl
    (by intro u hu; simp only [insL, List.mem_cons, List.not_mem_nil, or_false] at hu; rcases hu with rfl | rfl | rfl | rfl | rfl <;> rfl) (by unfold maxLen; omega) (by omega) W0 B0 (hbel.alloc (Nat.le_trans hB0 hB) _) (by simp; omega) hB0 ?_
  intro v2 w2 hown2 hb2 hgrow
  refine h v2 w2 (by rw [insLs_snoc, List.length_append]; exact hown2) hb2 ?_
  exact ⟨hgrow.os, hgrow.tape, hgrow.output, Nat.le_trans (by simp) hgrow.size, fun k hk hne => (hgrow.block k (by simp; omega) hne).trans ((World.grownBy_alloc w1 (.cells (insV y) 39) none).block k hk (by simp))⟩
theorem own_insAt {W : World} {B : Nat} {v : Value} {L : List Ins} (h : W.ownsRow B 39 5 v L.length (insLs L)) : CellsAt W v L.length (insLs L) := by
  rcases own_form h with ⟨rfl, h0⟩ | ⟨g, cap, rfl, hc, _⟩
  · have : L = [] := List.eq_nil_of_length_eq_zero h0
    subst this
    exact ⟨none, 0, rfl, fun hne => absurd rfl hne⟩
  · refine ⟨_, cap, rfl, fun _ => ⟨g, 0, rfl, fun j u hj => ?_⟩⟩
    have h1 := h.cells (g := g) rfl j u hj
    have e : (⟨g, 0, none⟩ : Addr).add j = ⟨g, 0 + j, none⟩ := by unfold Addr.add; split <;> simp_all
    rw [e] at h1; exact h1
/-- a row of another type stands, whatever is appended -/
theorem own_grown {W W' : World} {B B' k k' n m : Nat} {e e' : TypeId} {v u : Value} {xs ys : List Value} (h : W.ownsRow B e k v n xs) (hg : W.grownBy W' u.ownBlock) (hu : W.ownsRow B' e' k' u m ys) (he : e ≠ e') : W'.ownsRow B e k v n xs := by
  refine h.kept hg ?_
  cases hv : v.ownBlock with
  | none => exact .inl rfl
  | some g2 =>
    refine .inr (fun q => ?_)
    rcases own_form hu with ⟨rfl, _⟩ | ⟨g, cap, rfl, _, _⟩
    · simp [Value.ownBlock] at q
    · have hgg : g2 = g := by simpa [Value.ownBlock] using q
      rcases h.2 with ⟨h1, _⟩ | ⟨g3, c2, cur, h1, _, h3, _⟩
      · rw [h1] at hv; simp [Value.ownBlock] at hv
      · rw [h1] at hv
        have e3 : g3 = g2 := by simpa [Value.ownBlock] using hv
        have := own_other hu h3 he
        omega
theorem Bx.st3_0 {b : Nat} {T : TypeId} {W : World} {z0 z1 z2 : Value} (h : Bx b #[z0, z1, z2] T W) (u : Value) : Bx b #[u, z1, z2] T (W.setCell ⟨b, 0, none⟩ u) := by have := h.set 0 u; simpa using this
theorem Bx.st3_1 {b : Nat} {T : TypeId} {W : World} {z0 z1 z2 : Value} (h : Bx b #[z0, z1, z2] T W) (u : Value) : Bx b #[z0, u, z2] T (W.setCell ⟨b, 1, none⟩ u) := by have := h.set 1 u; simpa using this
theorem Bx.st3_2 {b : Nat} {T : TypeId} {W : World} {z0 z1 z2 : Value} (h : Bx b #[z0, z1, z2] T W) (u : Value) : Bx b #[z0, z1, u] T (W.setCell ⟨b, 2, none⟩ u) := by have := h.set 2 u; simpa using this
theorem chop_spec {L : List (List UInt8)} {n : Nat} (hn : L.length = n + 1) : ∃ tail, L = chop L ++ tail ∧ (L.getD n [] = [] → (chop L).length = n) ∧ (L.getD n [] ≠ [] → (chop L).length = n + 1) := by
  have hne : L ≠ [] := by intro e; rw [e] at hn; simp at hn
  have hl : L.getLastD [] = L.getD n [] := by
    rw [List.getLastD_eq_getLast?, List.getLast?_eq_getElem?, show L.length - 1 = n by omega, List.getD_eq_getElem?_getD]
  unfold chop
  rw [hl]
  by_cases e : L.getD n [] = []
  · rw [if_pos e]
    refine ⟨[L.getLast hne], (List.dropLast_concat_getLast hne).symm, fun _ => by rw [List.length_dropLast, hn]; rfl, fun h => absurd e h⟩
  · rw [if_neg e]
    exact ⟨[], by simp, fun h => absurd h e, fun _ => hn⟩
theorem parL_p {p : List UInt8} {r : List (List UInt8)} (h : (parP p).2 = false) : parL (p :: r) = (cd0, 1, 5) := by show (if (parP p).2 = false then _ else _) = _; rw [if_pos h]
theorem parL_1 {p : List UInt8} (h : (parP p).2 = true) : parL [p] = (cd0, 2, 5) := by show (if (parP p).2 = false then _ else _) = _; rw [if_neg (by simp [h])]
theorem parL_s {p q : List UInt8} {t : List (List UInt8)} (h : (parP p).2 = true) (h2 : ¬ ([115, 108, 111, 116, 115, 32].isPrefixOf q = true ∧ (parseS (q.drop 6)).2 = 0)) : parL (p :: q :: t) = (cd0, 2, 5) := by show (if (parP p).2 = false then _ else if [115, 108, 111, 116, 115, 32].isPrefixOf q = true ∧ (parseS (q.drop 6)).2 = 0 then _ else _) = _; rw [if_neg (by simp [h]), if_neg h2]
theorem parL_l {p q : List UInt8} {t : List (List UInt8)} {i : Nat} (h : (parP p).2 = true) (h2 : [115, 108, 111, 116, 115, 32].isPrefixOf q = true) (h3 : (parseS (q.drop 6)).2 = 0) (h4 : (linG [] 0 t).2 = some i) : parL (p :: q :: t) = (cd0, (i : Int) + 3, 5) := by show (if (parP p).2 = false then _ else if [115, 108, 111, 116, 115, 32].isPrefixOf q = true ∧ (parseS (q.drop 6)).2 = 0 then _ else _) = _; rw [if_neg (by simp [h]), if_pos ⟨h2, h3⟩, h4]
theorem parL_v {p q : List UInt8} {t : List (List UInt8)} {P : List Int} {sl : Int} {A : List Ins} {V : Int} (h : parP p = (P, true)) (h2 : [115, 108, 111, 116, 115, 32].isPrefixOf q = true) (h3 : parseS (q.drop 6) = (sl, 0)) (h4 : linG [] 0 t = (A, none)) (hV : valC ⟨P, sl, A⟩ = V) : parL (p :: q :: t) = if V = 0 then (⟨P, sl, A⟩, 0, 0) else (cd0, 0, V) := by
  show (if (parP p).2 = false then _ else if [115, 108, 111, 116, 115, 32].isPrefixOf q = true ∧ (parseS (q.drop 6)).2 = 0 then _ else _) = _; rw [if_neg (by simp [h]), if_pos ⟨h2, by rw [h3]⟩]; simp only [h4, h, h3, hV]
theorem linG_no {A : List Ins} {k : Nat} {t : List (List UInt8)} (hk : k < t.length) (h : insP k t[k] = none) : linG A k (t.drop k) = ([], some k) := by rw [List.drop_eq_getElem_cons hk]; unfold linG; rw [h]
theorem linG_go {A : List Ins} {k : Nat} {t : List (List UInt8)} {x : Ins} (hk : k < t.length) (h : insP k t[k] = some x) : linG A k (t.drop k) = linG (A ++ [x]) (k + 1) (t.drop (k + 1)) := by rw [List.drop_eq_getElem_cons hk]; show (match insP k t[k] with | none => _ | some x => _) = _; rw [h]
theorem linG_end {A : List Ins} {k : Nat} {t : List (List UInt8)} (hk : ¬ k < t.length) : linG A k (t.drop k) = (A, none) := by rw [List.drop_of_length_le (by omega)]; rfl
theorem litS_len (s : List UInt8) (hs : s.length ≤ 100000) : (litS s).1.length ≤ 100000 := by
  obtain ⟨⟨T, ln, e⟩, ht⟩ : ∃ R, tokenS s = R := ⟨_, rfl⟩
  have h2 := token_txt ht hs
  unfold litS
  rw [ht]
  rcases T with _ | ⟨x, _ | ⟨y, r⟩⟩
  · exact Nat.zero_le _
  · simp only
    split
    · exact h2 x (by simp)
    · exact Nat.zero_le _
  · exact Nat.zero_le _
theorem layN_s {op : Int} {N : List Int} {x : Ins} (h : layN op N = some x) : x.s = [] := by
  unfold layN at h
  split at h <;> cases h <;> rfl
theorem insP_len {i : Nat} {s : List UInt8} {x : Ins} (hs : s.length ≤ 100000) (h : insP i s = some x) : x.s.length ≤ 100000 := by
  unfold insP at h
  split at h
  · simp only at h
    split at h
    · split at h
      · split at h
        · cases h; exact Nat.zero_le _
        · cases h
      · split at h
        · split at h
          · cases h
            refine litS_len _ (Nat.le_trans (cutX_snd_len _) ?_)
            rw [List.length_drop]; omega
          · cases h
        · split at h
          · split at h
            · cases h; exact Nat.zero_le _
            · cases h
          · unfold numsI at h
            split at h
            · rw [layN_s h]; exact Nat.zero_le _
            · cases h
    · cases h
  · cases h

set_option maxRecDepth 100000 in
set_option maxHeartbeats 32000000 in
theorem CParse_any (s : List UInt8) (w : World) (hs : s.length ≤ 90000) (hB : LaidB w) :
    Calls Tryz.prog 14 #[.string (bs s)] w fun e w' => ∃ pa pc ia ic, e = .returned (.tuple #[.agg #[.slice pa (parC s).1.p.length pc, .int .i64 (parC s).1.sl, .slice ia (parC s).1.l.length ic], .int .i64 (parC s).2.1, .int .i64 (parC s).2.2]) ∧ CellsAt w' (.slice pa (parC s).1.p.length pc) (parC s).1.p.length (intsL (parC s).1.p) ∧ CellsAt w' (.slice ia (parC s).1.l.length ic) (parC s).1.l.length (insLs (parC s).1.l) ∧ Below w.heap.size w w' := by
  obtain ⟨L, hL⟩ : ∃ L, splX 10 s = L := ⟨_, rfl⟩
  have hll := splX_len 10 s
  have hlm := splX_mem_len 10 s
  have hne := splX_ne 10 s
  rw [hL] at hll hlm hne
  obtain ⟨n, hn⟩ : ∃ n, L.length = n + 1 := ⟨L.length - 1, by have := List.length_pos_iff.2 hne; omega⟩
  obtain ⟨tail, hT, hc1, hc2⟩ := chop_spec hn
  have hPC : parC s = parL (chop L) := by unfold parC; rw [hL]
  obtain ⟨⟨RC, RN, RE⟩, hR⟩ : ∃ R, parL (chop L) = R := ⟨_, rfl⟩
  rw [hPC, hR]
  obtain ⟨C, hC⟩ : ∃ C, chop L = C := ⟨_, rfl⟩
  rw [hC] at hR hT hc1 hc2
  obtain ⟨lw, hlw⟩ : ∃ lw, L.getD n [] = lw := ⟨_, rfl⟩
  rw [hlw] at hc1 hc2
  have hml : ∀ q ∈ C, q.length ≤ 90000 := fun q hq => Nat.le_trans (hlm q (by rw [hT]; exact List.mem_append_left _ hq)) hs
  have HL := Lib.hid hL; have HN := Lib.hid hn; have HT := Lib.hid hT; have HC1 := Lib.hid hc1; have HC2 := Lib.hid hc2; have HR := Lib.hid hR; have HLW := Lib.hid hlw; have HML := Lib.hid hml; have HLB := Lib.hid hB; clear hL hT hc1 hc2 hR hC hPC hlw hml hlm hne hB
  have hnn : n ≤ 90000 := by omega
  clear hn hll
  obtain ⟨v0, hW0, hb0, hr0⟩ := boxes1 w #[.slice none 0 0, .int .i64 0, .slice none 0 0] 25
  have HW := Lib.hid hW0; have HB := Lib.hid hb0; have HRB := Lib.hid hr0; clear hW0 hb0 hr0
  go_enter Tryz.func14, Tryz.ntmps14
  go_upto_region 1 with (fail)
  rw [HW.out]
  clear HW
  go_wp2_with fail
  refine (Split_any s 10 _ (by omega) (HLB.out.below HB.out)).mono ?_
  rw [HL.out, HN.out]
  rintro er w1 ⟨rfl, rfl⟩
  have hal := (Below.refl v0.heap.size v0).alloc (Nat.le_refl _) (.cells (L.map strV).toArray 9)
  have HY := Lib.hid (Bx.new v0 (L.map strV).toArray 9)
  have HRB := Lib.hid (HRB.out.call hal); have HB := Lib.hid (btrans HB.out HB.out.size hal); clear hal
  obtain ⟨lb, hlb⟩ : ∃ b, v0.heap.size = b := ⟨_, rfl⟩
  generalize hW : v0.alloc (.cells (L.map strV).toArray 9) = v1 at HY HRB HB ⊢
  clear hW
  rw [hlb] at HY ⊢
  clear hlb
  have p0 : v1.cell? ⟨lb, n, none⟩ = some (.string (bs lw)) := by rw [HY.out.cell n, strs_at (by rw [HN.out]; omega), HLW.out]
  have hwn : IntKind.i64.wrap ((n : Int) + 1 - 1) = (n : Int) := by rw [IntKind.wrap_i64]; omega
  have hwn2 : IntKind.i64.wrap (((n + 1 : Nat) : Int) - 1) = (n : Int) := by rw [IntKind.wrap_i64]; omega
  have hwn3 : IntKind.i64.wrap (n : Int) = (n : Int) := by rw [IntKind.wrap_i64]; omega
  have hi1 : (n : Int) < (n : Int) + 1 := by omega
  have hi2 : (n : Int) ≤ (n : Int) + 1 := by omega
  obtain ⟨tb, htb⟩ : ∃ t, (lw == []) = t := ⟨_, rfl⟩
  go_upto_if 25 with (fail)
  go_cut [5] from 26 to 104 (fun s5 W => s5 = .slice (some ⟨lb, 0, none⟩) C.length (n + 1) ∧ W = v1)
  case first =>
    cases tb with
    | true =>
      have e : C.length = n := HC1.out (by simpa using htb)
      have HE := Lib.hid e; clear e htb
      go_wp2_with fail
      go_meet
      exact ⟨by rw [HE.out], rfl⟩
    | false =>
      have e : C.length = n + 1 := HC2.out (by simpa using htb)
      have HE := Lib.hid e; clear e htb
      go_wp2_with fail
      go_meet
      exact ⟨by rw [HE.out], rfl⟩
  case rest =>
    obtain ⟨rfl, rfl⟩ := hcut
    clear p0 hwn hwn2 hwn3 hi1 hi2 htb
    have HT2 := Lib.hid (show L.length = C.length + tail.length by rw [HT.out]; simp)
    have hcl : C.length ≤ n + 1 := by have := HT2.out; have := HN.out; omega
    rcases C with _ | ⟨p, C2⟩
    · have t0 : (((([] : List (List UInt8)).length : Nat) : Int) == 0) = true := rfl
      simp only [List.length_nil] at t0 ⊢
      have hF : (cd0, (1 : Int), (5 : Int)) = (RC, RN, RE) := ((rfl : parL [] = (cd0, 1, 5))).symm.trans HR.out
      have hf1 : RC = cd0 := (congrArg Prod.fst hF).symm
      have hf2 : RN = 1 := (congrArg (fun x => x.2.1) hF).symm
      have hf3 : RE = 5 := (congrArg (fun x => x.2.2) hF).symm
      have HF1 := Lib.hid hf1; have HF2 := Lib.hid hf2; have HF3 := Lib.hid hf3; clear hF hf1 hf2 hf3
      have r0 : wc.cell? ⟨w.heap.size, 0, none⟩ = some (.slice none 0 0) := HRB.out.cell 0
      have r1 : wc.cell? ⟨w.heap.size, 1, none⟩ = some (.int .i64 0) := HRB.out.cell 1
      have r2 : wc.cell? ⟨w.heap.size, 2, none⟩ = some (.slice none 0 0) := HRB.out.cell 2
      have f0 := HRB.out.free 0
      have f1 := HRB.out.free 1
      have f2 := HRB.out.free 2
      have HK := Lib.hid (HRB.out.sets3 (.slice none 0 0) (.int .i64 0) (.slice none 0 0))
      go_wp2
      have k0 := HK.out.cell 0
      have k1 := HK.out.cell 1
      have k2 := HK.out.cell 2
      simp only [List.getElem?_toArray, List.getElem?_cons_zero, List.getElem?_cons_succ] at k0 k1 k2
      refine bodyPost_ret (v := .tuple #[.agg #[.slice none 0 0, .int .i64 0, .slice none 0 0], .int .i64 (1), .int .i64 (5)]) (by simp [results, Tryz.results14, go_sem, k0, k1, k2] <;> rfl) rfl ⟨none, 0, none, 0, ?_⟩
      refine ⟨by rw [HF1.out, HF2.out, HF3.out] <;> rfl, by rw [HF1.out]; exact ⟨none, 0, rfl, fun h => absurd rfl h⟩, by rw [HF1.out]; exact ⟨none, 0, rfl, fun h => absurd rfl h⟩, below_sets3 HB.out w.heap.size (Nat.le_refl _) _ _ _⟩
    have t0 : (((C2.length : Int) + 1) == 0) = false := by rw [beq_eq_false_iff_ne]; omega
    simp only [List.length_cons] at hcl ⊢
    have hpos : (0 : Int) < (C2.length : Int) + 1 := by omega
    go_upto_region 6 with (fail)
    have hrb := HRB.out.lt
    have hlbl := HY.out.lt
    have hal := (Below.refl wc.heap.size wc).alloc (Nat.le_refl _) (.cells #[.slice none 0 0, .int .i64 0, .slice none 0 0] 25)
    have HCB := Lib.hid (Bx.new wc #[.slice none 0 0, .int .i64 0, .slice none 0 0] 25); have HRB := Lib.hid (HRB.out.call hal); have HY := Lib.hid (HY.out.call hal); have HB := Lib.hid (btrans HB.out HB.out.size hal); clear hal
    obtain ⟨cb, hcb⟩ : ∃ b, wc.heap.size = b := ⟨_, rfl⟩
    go_upto_region 7 with (fail)
    generalize hW : wc.alloc (.cells #[.slice none 0 0, .int .i64 0, .slice none 0 0] 25) = v2 at HCB HRB HY HB ⊢
    clear hW
    rw [hcb] at HCB hrb hlbl
    (try rw [hcb])
    clear hcb
    have p0 := strs_cell HY.out (k := 0) (by rw [HN.out]; omega)
    have hp : L[0]'(by rw [HN.out]; omega) = p := by have := HT.out; subst this; rfl
    rw [hp] at p0
    have HP := Lib.hid hp; clear hp
    have hpl := HML.out p (by simp)
    obtain ⟨⟨P, pk⟩, hpp⟩ : ∃ R, parP p = R := ⟨_, rfl⟩
    have HPP := Lib.hid hpp; clear hpp
    go_wp2_with fail
    refine (params_any p _ (by omega) (HLB.out.below HB.out)).mono ?_
    rw [HPP.out]
    rintro er w3 ⟨pv, rfl, hop, hpn, hb3⟩
    simp only at hop hpn
    clear p0
    have HOP := Lib.hid (own_mono hop (base' := cb + 1) HCB.out.lt); have HCB := Lib.hid (HCB.out.call hb3); have HRB := Lib.hid (HRB.out.call hb3); have HY := Lib.hid (HY.out.call hb3); have HB := Lib.hid (btrans HB.out HB.out.size hb3); clear hb3 hop
    obtain ⟨pa, pc, rfl⟩ := own_sl HOP.out
    have c0 : w3.cell? ⟨cb, 0, none⟩ = some (.slice none 0 0) := HCB.out.cell 0
    have c1 : w3.cell? ⟨cb, 1, none⟩ = some (.int .i64 0) := HCB.out.cell 1
    have c2 : w3.cell? ⟨cb, 2, none⟩ = some (.slice none 0 0) := HCB.out.cell 2
    have z0 := HCB.out.free 0
    go_upto_region 9 with (fail)
    have HCB2 := Lib.hid (HCB.out.st3_0 (.slice pa P.length pc)); have HB2 := Lib.hid (below_set HB.out cb 0 (by omega) (.slice pa P.length pc)); have HR2 := Lib.hid (HRB.out.other (c := cb) (i := 0) (by omega) (.slice pa P.length pc)); have HY2 := Lib.hid (HY.out.other (c := cb) (i := 0) (by omega) (.slice pa P.length pc)); have HOP2 := Lib.hid (own_set HOP.out cb 0 (by omega) (.slice pa P.length pc))
    clear c0 c1 c2 z0 HCB HB HRB HY HOP
    generalize hWE : w3.setCell ⟨cb, 0, none⟩ (.slice pa P.length pc) = v3 at HCB2 HB2 HR2 HY2 HOP2 ⊢
    clear hWE
    have HCB := HCB2; have HB := HB2; have HRB := HR2; have HY := HY2; have HOP := HOP2; clear HCB2 HB2 HR2 HY2 HOP2
    cases pk with
    | false =>
      have hF : (cd0, (1 : Int), (5 : Int)) = (RC, RN, RE) := (parL_p (by rw [HPP.out])).symm.trans HR.out
      have hf1 : RC = cd0 := (congrArg Prod.fst hF).symm
      have hf2 : RN = 1 := (congrArg (fun x => x.2.1) hF).symm
      have hf3 : RE = 5 := (congrArg (fun x => x.2.2) hF).symm
      have HF1 := Lib.hid hf1; have HF2 := Lib.hid hf2; have HF3 := Lib.hid hf3; clear hF hf1 hf2 hf3
      have r0 : v3.cell? ⟨w.heap.size, 0, none⟩ = some (.slice none 0 0) := HRB.out.cell 0
      have r1 : v3.cell? ⟨w.heap.size, 1, none⟩ = some (.int .i64 0) := HRB.out.cell 1
      have r2 : v3.cell? ⟨w.heap.size, 2, none⟩ = some (.slice none 0 0) := HRB.out.cell 2
      have f0 := HRB.out.free 0
      have f1 := HRB.out.free 1
      have f2 := HRB.out.free 2
      have HK := Lib.hid (HRB.out.sets3 (.slice none 0 0) (.int .i64 0) (.slice none 0 0))
      go_wp2
      have k0 := HK.out.cell 0
      have k1 := HK.out.cell 1
      have k2 := HK.out.cell 2
      simp only [List.getElem?_toArray, List.getElem?_cons_zero, List.getElem?_cons_succ] at k0 k1 k2
      refine bodyPost_ret (v := .tuple #[.agg #[.slice none 0 0, .int .i64 0, .slice none 0 0], .int .i64 (1), .int .i64 (5)]) (by simp [results, Tryz.results14, go_sem, k0, k1, k2] <;> rfl) rfl ⟨none, 0, none, 0, ?_⟩
      refine ⟨by rw [HF1.out, HF2.out, HF3.out] <;> rfl, by rw [HF1.out]; exact ⟨none, 0, rfl, fun h => absurd rfl h⟩, by rw [HF1.out]; exact ⟨none, 0, rfl, fun h => absurd rfl h⟩, below_sets3 HB.out w.heap.size (Nat.le_refl _) _ _ _⟩
    | true =>
      rcases C2 with _ | ⟨q, t⟩
      · have t1 : (((([] : List (List UInt8)).length : Int) + 1) == 1) = true := rfl
        simp only [List.length_nil] at t0 t1 hcl ⊢
        have hF : (cd0, (2 : Int), (5 : Int)) = (RC, RN, RE) := (parL_1 (by rw [HPP.out])).symm.trans HR.out
        have hf1 : RC = cd0 := (congrArg Prod.fst hF).symm
        have hf2 : RN = 2 := (congrArg (fun x => x.2.1) hF).symm
        have hf3 : RE = 5 := (congrArg (fun x => x.2.2) hF).symm
        have HF1 := Lib.hid hf1; have HF2 := Lib.hid hf2; have HF3 := Lib.hid hf3; clear hF hf1 hf2 hf3
        have r0 : v3.cell? ⟨w.heap.size, 0, none⟩ = some (.slice none 0 0) := HRB.out.cell 0
        have r1 : v3.cell? ⟨w.heap.size, 1, none⟩ = some (.int .i64 0) := HRB.out.cell 1
        have r2 : v3.cell? ⟨w.heap.size, 2, none⟩ = some (.slice none 0 0) := HRB.out.cell 2
        have f0 := HRB.out.free 0
        have f1 := HRB.out.free 1
        have f2 := HRB.out.free 2
        have HK := Lib.hid (HRB.out.sets3 (.slice none 0 0) (.int .i64 0) (.slice none 0 0))
        go_wp2
        have k0 := HK.out.cell 0
        have k1 := HK.out.cell 1
        have k2 := HK.out.cell 2
        simp only [List.getElem?_toArray, List.getElem?_cons_zero, List.getElem?_cons_succ] at k0 k1 k2
        refine bodyPost_ret (v := .tuple #[.agg #[.slice none 0 0, .int .i64 0, .slice none 0 0], .int .i64 (2), .int .i64 (5)]) (by simp [results, Tryz.results14, go_sem, k0, k1, k2] <;> rfl) rfl ⟨none, 0, none, 0, ?_⟩
        refine ⟨by rw [HF1.out, HF2.out, HF3.out] <;> rfl, by rw [HF1.out]; exact ⟨none, 0, rfl, fun h => absurd rfl h⟩, by rw [HF1.out]; exact ⟨none, 0, rfl, fun h => absurd rfl h⟩, below_sets3 HB.out w.heap.size (Nat.le_refl _) _ _ _⟩
      have t1 : (((t.length : Int) + 1 + 1) == 1) = false := by rw [beq_eq_false_iff_ne]; omega
      simp only [List.length_cons] at t0 hcl ⊢
      have hpos1 : (1 : Int) < (t.length : Int) + 1 + 1 := by omega
      have p1 := strs_cell HY.out (k := 1) (by rw [HN.out]; omega)
      have hq : L[1]'(by rw [HN.out]; omega) = q := by have := HT.out; subst this; rfl
      rw [hq] at p1
      have HQ := Lib.hid hq; clear hq
      have hql := HML.out q (by simp)
      obtain ⟨ib, hib⟩ : ∃ b, [115, 108, 111, 116, 115, 32].isPrefixOf q = b := ⟨_, rfl⟩
      have HIB := Lib.hid hib; clear hib
      go_wp2_with fail
      refine (CutPrefix_any q [115, 108, 111, 116, 115, 32] _).mono ?_
      rw [HIB.out]
      rintro er w4 ⟨rfl, rfl⟩
      clear p1
      cases ib with
      | false =>
        simp only [Bool.false_eq_true, if_false]
        obtain ⟨⟨sv, se⟩, hse⟩ : ∃ r, parseS q = r := ⟨_, rfl⟩
        have HSE := Lib.hid hse; clear hse
        go_wp2_with fail
        refine (Parse_any q _ (by omega) (HLB.out.below HB.out).1).mono ?_
        rw [HSE.out]
        rintro er w5 ⟨rfl, hb5⟩
        have HRB := Lib.hid (HRB.out.call hb5); have HB := Lib.hid (btrans HB.out HB.out.size hb5); clear hb5
        have hF : (cd0, (2 : Int), (5 : Int)) = (RC, RN, RE) := (parL_s (by rw [HPP.out]) (fun h => by rw [HIB.out] at h; exact absurd h.1 (by simp))).symm.trans HR.out
        have hf1 : RC = cd0 := (congrArg Prod.fst hF).symm
        have hf2 : RN = 2 := (congrArg (fun x => x.2.1) hF).symm
        have hf3 : RE = 5 := (congrArg (fun x => x.2.2) hF).symm
        have HF1 := Lib.hid hf1; have HF2 := Lib.hid hf2; have HF3 := Lib.hid hf3; clear hF hf1 hf2 hf3
        have r0 : w5.cell? ⟨w.heap.size, 0, none⟩ = some (.slice none 0 0) := HRB.out.cell 0
        have r1 : w5.cell? ⟨w.heap.size, 1, none⟩ = some (.int .i64 0) := HRB.out.cell 1
        have r2 : w5.cell? ⟨w.heap.size, 2, none⟩ = some (.slice none 0 0) := HRB.out.cell 2
        have f0 := HRB.out.free 0
        have f1 := HRB.out.free 1
        have f2 := HRB.out.free 2
        have HK := Lib.hid (HRB.out.sets3 (.slice none 0 0) (.int .i64 0) (.slice none 0 0))
        go_wp2
        have k0 := HK.out.cell 0
        have k1 := HK.out.cell 1
        have k2 := HK.out.cell 2
        simp only [List.getElem?_toArray, List.getElem?_cons_zero, List.getElem?_cons_succ] at k0 k1 k2
        refine bodyPost_ret (v := .tuple #[.agg #[.slice none 0 0, .int .i64 0, .slice none 0 0], .int .i64 (2), .int .i64 (5)]) (by simp [results, Tryz.results14, go_sem, k0, k1, k2] <;> rfl) rfl ⟨none, 0, none, 0, ?_⟩
        refine ⟨by rw [HF1.out, HF2.out, HF3.out] <;> rfl, by rw [HF1.out]; exact ⟨none, 0, rfl, fun h => absurd rfl h⟩, by rw [HF1.out]; exact ⟨none, 0, rfl, fun h => absurd rfl h⟩, below_sets3 HB.out w.heap.size (Nat.le_refl _) _ _ _⟩
      | true =>
        simp only [if_true]
        obtain ⟨wd, hwd⟩ : ∃ r, q.drop ([115, 108, 111, 116, 115, 32] : List UInt8).length = r := ⟨_, rfl⟩
        have hwl : wd.length ≤ 90000 := by rw [← hwd, List.length_drop]; omega
        have hwd6 : q.drop 6 = wd := hwd
        rw [hwd]
        have HWD := Lib.hid (show q.drop 6 = wd from hwd); clear hwd hwd6
        obtain ⟨⟨sv, se⟩, hse⟩ : ∃ r, parseS wd = r := ⟨_, rfl⟩
        have HSE := Lib.hid hse; clear hse
        go_wp2_with fail
        refine (Parse_any wd _ (by omega) (HLB.out.below HB.out).1).mono ?_
        rw [HSE.out]
        rintro er w5 ⟨rfl, hb5⟩
        have HOP := Lib.hid (own_below HOP.out hb5); have HCB := Lib.hid (HCB.out.call hb5); have HRB := Lib.hid (HRB.out.call hb5); have HY := Lib.hid (HY.out.call hb5); have HB := Lib.hid (btrans HB.out HB.out.size hb5); clear hb5
        by_cases e0 : se = 0
        rotate_left
        · have t2 : (se != 0) = true := by rw [bne_iff_ne]; exact e0
          have E0 := Lib.hid e0; clear e0
          have hF : (cd0, (2 : Int), (5 : Int)) = (RC, RN, RE) := (parL_s (by rw [HPP.out]) (fun h => E0.out (by have := h.2; rw [HWD.out, HSE.out] at this; exact this))).symm.trans HR.out
          have hf1 : RC = cd0 := (congrArg Prod.fst hF).symm
          have hf2 : RN = 2 := (congrArg (fun x => x.2.1) hF).symm
          have hf3 : RE = 5 := (congrArg (fun x => x.2.2) hF).symm
          have HF1 := Lib.hid hf1; have HF2 := Lib.hid hf2; have HF3 := Lib.hid hf3; clear hF hf1 hf2 hf3
          have r0 : w5.cell? ⟨w.heap.size, 0, none⟩ = some (.slice none 0 0) := HRB.out.cell 0
          have r1 : w5.cell? ⟨w.heap.size, 1, none⟩ = some (.int .i64 0) := HRB.out.cell 1
          have r2 : w5.cell? ⟨w.heap.size, 2, none⟩ = some (.slice none 0 0) := HRB.out.cell 2
          have f0 := HRB.out.free 0
          have f1 := HRB.out.free 1
          have f2 := HRB.out.free 2
          have HK := Lib.hid (HRB.out.sets3 (.slice none 0 0) (.int .i64 0) (.slice none 0 0))
          go_wp2
          have k0 := HK.out.cell 0
          have k1 := HK.out.cell 1
          have k2 := HK.out.cell 2
          simp only [List.getElem?_toArray, List.getElem?_cons_zero, List.getElem?_cons_succ] at k0 k1 k2
          refine bodyPost_ret (v := .tuple #[.agg #[.slice none 0 0, .int .i64 0, .slice none 0 0], .int .i64 (2), .int .i64 (5)]) (by simp [results, Tryz.results14, go_sem, k0, k1, k2] <;> rfl) rfl ⟨none, 0, none, 0, ?_⟩
          refine ⟨by rw [HF1.out, HF2.out, HF3.out] <;> rfl, by rw [HF1.out]; exact ⟨none, 0, rfl, fun h => absurd rfl h⟩, by rw [HF1.out]; exact ⟨none, 0, rfl, fun h => absurd rfl h⟩, below_sets3 HB.out w.heap.size (Nat.le_refl _) _ _ _⟩
        have t2 : (se != 0) = false := by rw [e0]; rfl
        have HSE := Lib.hid (show parseS (q.drop 6) = (sv, 0) by rw [HWD.out, HSE.out, e0])
        clear e0
        have c0 : w5.cell? ⟨cb, 0, none⟩ = some (.slice pa P.length pc) := HCB.out.cell 0
        have c1 : w5.cell? ⟨cb, 1, none⟩ = some (.int .i64 0) := HCB.out.cell 1
        have c2 : w5.cell? ⟨cb, 2, none⟩ = some (.slice none 0 0) := HCB.out.cell 2
        have z1 := HCB.out.free 1
        go_upto_region 18 with (fail)
        have HCB2 := Lib.hid (HCB.out.st3_1 (.int .i64 sv)); have HB2 := Lib.hid (below_set HB.out cb 1 (by omega) (.int .i64 sv)); have HR2 := Lib.hid (HRB.out.other (c := cb) (i := 1) (by omega) (.int .i64 sv)); have HY2 := Lib.hid (HY.out.other (c := cb) (i := 1) (by omega) (.int .i64 sv)); have HOP2 := Lib.hid (own_set HOP.out cb 1 (by omega) (.int .i64 sv))
        clear c0 c1 c2 z1 HCB HB HRB HY HOP
        generalize hWE : w5.setCell ⟨cb, 1, none⟩ (.int .i64 sv) = v5 at HCB2 HB2 HR2 HY2 HOP2 ⊢
        clear hWE
        have HCB := HCB2; have HB := HB2; have HRB := HR2; have HY := HY2; have HOP := HOP2; clear HCB2 HB2 HR2 HY2 HOP2
        obtain ⟨⟨D, g⟩, hg⟩ : ∃ R, linG [] 0 t = R := ⟨_, rfl⟩
        have HQ0 := Lib.hid (show linG [] 0 (t.drop 0) = (D, g) from hg); have HG := Lib.hid hg; clear hg
        have HZ := Lib.hid (own_nil v5 (cb + 1) 39 5)
        have HA0 := Lib.hid (show ∀ x ∈ ([] : List Ins), x.s.length ≤ 100000 from fun x hx => by simp at hx)
        have h2le : (2 : Int) ≤ (t.length : Int) + 1 + 1 := by omega
        have hPl : P.length ≤ 90000 := by omega
        clear t0 t1 t2 hpos hpos1 hpl hql hwl hpn
        by_cases hcap : n - 1 = 0
        · have hcap2 : n + 1 - 2 = 0 := by omega
          have htz : t.length = 0 := by omega
          go_wp2
          go_loopw [74] (fun i wr => ∃ (k : Nat) (A : List Ins) (iv : Value), k ≤ t.length ∧ i = .int .i64 k ∧ A.length = k ∧ Hid (linG A k (t.drop k) = (D, g)) ∧ Hid (∀ x ∈ A, x.s.length ≤ 100000) ∧ Hid (Bx cb #[.slice pa P.length pc, .int .i64 sv, iv] 25 wr) ∧ Hid (Bx w.heap.size #[.slice none 0 0, .int .i64 0, .slice none 0 0] 25 wr) ∧ Hid (Bx lb (L.map strV).toArray 9 wr) ∧ Hid (wr.ownsRow (cb + 1) 3 1 (.slice pa P.length pc) P.length (intsL P)) ∧ Hid (wr.ownsRow (cb + 1) 39 5 iv A.length (insLs A)) ∧ Below w.heap.size w wr) (fun i _ => t.length - (intOf i).toNat)
          case atStart => exact ⟨0, [], _, Nat.zero_le _, rfl, rfl, HQ0, HA0, HCB, HRB, HY, HOP, HZ, HB.out⟩
          case round =>
            clear HQ0 HA0 HCB HRB HY HOP HZ HB
            obtain ⟨k, A, iv, hk, rfl, hAk, HQ, HA, HCB, HRB, HY, HOP, HO, hB2⟩ := hrel
            have HB := Lib.hid hB2; clear hB2
            have hAl : A.length ≤ 90000 := by omega
            have HAK := Lib.hid hAk; clear hAk
            by_cases hlt : k < t.length
            · omega
            · have hlt' : ¬ (k : Int) < (t.length : Int) := by omega
              have hlt0 : ¬ (k : Int) < 0 := by omega
              have hT2 : (A, none) = (D, g) := (linG_end (A := A) hlt).symm.trans HQ.out
              have h1 : D = A := (congrArg Prod.fst hT2).symm
              have h2 : g = none := (congrArg Prod.snd hT2).symm
              have HGA := Lib.hid (show linG [] 0 t = (A, none) by rw [HG.out, h1, h2])
              clear hT2 h1 h2 HQ
              obtain ⟨ia, ic, rfl⟩ := own_sl HO.out
              obtain ⟨V, hV⟩ : ∃ V, valC ⟨P, sv, A⟩ = V := ⟨_, rfl⟩
              have HV := Lib.hid hV; clear hV
              obtain ⟨c0, c1, c2⟩ := HCB.out.c3
              go_wp2_with fail
              refine (Validate_any pa ia pc ic P sv A _ (own_intAt HOP.out) (own_insAt HO.out) (by omega) (fun x hx => (by have := HA.out x hx; omega)) (HLB.out.below HB.out)).mono ?_
              rw [HV.out]
              rintro er w8 ⟨rfl, hb8⟩
              clear c0 c1 c2
              have HCB := Lib.hid (HCB.out.call hb8); have HRB := Lib.hid (HRB.out.call hb8); have HOP := Lib.hid (own_below HOP.out hb8); have HO := Lib.hid (own_below HO.out hb8); have HB := Lib.hid (btrans HB.out HB.out.size hb8); clear hb8
              have HPV := Lib.hid (parL_v (t := t) HPP.out HIB.out HSE.out HGA.out HV.out)
              by_cases e0 : V = 0
              rotate_left
              · have t0 : (V != 0) = true := by rw [bne_iff_ne]; exact e0
                have HPV := Lib.hid (HPV.out.trans (if_neg e0))
                clear e0
                have hF : (cd0, (0 : Int), (V : Int)) = (RC, RN, RE) := (HPV.out).symm.trans HR.out
                have hf1 : RC = cd0 := (congrArg Prod.fst hF).symm
                have hf2 : RN = 0 := (congrArg (fun x => x.2.1) hF).symm
                have hf3 : RE = V := (congrArg (fun x => x.2.2) hF).symm
                have HF1 := Lib.hid hf1; have HF2 := Lib.hid hf2; have HF3 := Lib.hid hf3; clear hF hf1 hf2 hf3
                have r0 : w8.cell? ⟨w.heap.size, 0, none⟩ = some (.slice none 0 0) := HRB.out.cell 0
                have r1 : w8.cell? ⟨w.heap.size, 1, none⟩ = some (.int .i64 0) := HRB.out.cell 1
                have r2 : w8.cell? ⟨w.heap.size, 2, none⟩ = some (.slice none 0 0) := HRB.out.cell 2
                have f0 := HRB.out.free 0
                have f1 := HRB.out.free 1
                have f2 := HRB.out.free 2
                have HK := Lib.hid (HRB.out.sets3 (.slice none 0 0) (.int .i64 0) (.slice none 0 0))
                go_wp2
                have k0 := HK.out.cell 0
                have k1 := HK.out.cell 1
                have k2 := HK.out.cell 2
                simp only [List.getElem?_toArray, List.getElem?_cons_zero, List.getElem?_cons_succ] at k0 k1 k2
                refine bodyPost_ret (v := .tuple #[.agg #[.slice none 0 0, .int .i64 0, .slice none 0 0], .int .i64 (0), .int .i64 (V)]) (by simp [results, Tryz.results14, go_sem, k0, k1, k2] <;> rfl) rfl ⟨none, 0, none, 0, ?_⟩
                refine ⟨by rw [HF1.out, HF2.out, HF3.out] <;> rfl, by rw [HF1.out]; exact ⟨none, 0, rfl, fun h => absurd rfl h⟩, by rw [HF1.out]; exact ⟨none, 0, rfl, fun h => absurd rfl h⟩, below_sets3 HB.out w.heap.size (Nat.le_refl _) _ _ _⟩
              have t0 : (V != 0) = false := by rw [e0]; rfl
              have HPV := Lib.hid (HPV.out.trans (if_pos e0))
              clear e0
              obtain ⟨c0, c1, c2⟩ := HCB.out.c3
              have hF : ((⟨P, sv, A⟩ : Cd), (0 : Int), (0 : Int)) = (RC, RN, RE) := (HPV.out).symm.trans HR.out
              have hf1 : RC = (⟨P, sv, A⟩ : Cd) := (congrArg Prod.fst hF).symm
              have hf2 : RN = 0 := (congrArg (fun x => x.2.1) hF).symm
              have hf3 : RE = 0 := (congrArg (fun x => x.2.2) hF).symm
              have HF1 := Lib.hid hf1; have HF2 := Lib.hid hf2; have HF3 := Lib.hid hf3; clear hF hf1 hf2 hf3
              have r0 : w8.cell? ⟨w.heap.size, 0, none⟩ = some (.slice none 0 0) := HRB.out.cell 0
              have r1 : w8.cell? ⟨w.heap.size, 1, none⟩ = some (.int .i64 0) := HRB.out.cell 1
              have r2 : w8.cell? ⟨w.heap.size, 2, none⟩ = some (.slice none 0 0) := HRB.out.cell 2
              have f0 := HRB.out.free 0
              have f1 := HRB.out.free 1
              have f2 := HRB.out.free 2
              have HK := Lib.hid (HRB.out.sets3 (.slice pa P.length pc) (.int .i64 sv) (.slice ia A.length ic))
              go_wp2
              have k0 := HK.out.cell 0
              have k1 := HK.out.cell 1
              have k2 := HK.out.cell 2
              simp only [List.getElem?_toArray, List.getElem?_cons_zero, List.getElem?_cons_succ] at k0 k1 k2
              refine bodyPost_ret (v := .tuple #[.agg #[.slice pa P.length pc, .int .i64 sv, .slice ia A.length ic], .int .i64 (0), .int .i64 (0)]) (by simp [results, Tryz.results14, go_sem, k0, k1, k2] <;> rfl) rfl ⟨pa, pc, ia, ic, ?_⟩
              refine ⟨by rw [HF1.out, HF2.out, HF3.out] <;> rfl, by rw [HF1.out]; exact own_intAt (own_set (own_set (own_set HOP.out w.heap.size 0 (by omega) _) w.heap.size 1 (by omega) _) w.heap.size 2 (by omega) _), by rw [HF1.out]; exact own_insAt (own_set (own_set (own_set HO.out w.heap.size 0 (by omega) _) w.heap.size 1 (by omega) _) w.heap.size 2 (by omega) _), below_sets3 HB.out w.heap.size (Nat.le_refl _) _ _ _⟩
        have hcap2 : ¬ n + 1 - 2 = 0 := by omega
        go_wp2
        go_loopw [74] (fun i wr => ∃ (k : Nat) (A : List Ins) (iv : Value), k ≤ t.length ∧ i = .int .i64 k ∧ A.length = k ∧ Hid (linG A k (t.drop k) = (D, g)) ∧ Hid (∀ x ∈ A, x.s.length ≤ 100000) ∧ Hid (Bx cb #[.slice pa P.length pc, .int .i64 sv, iv] 25 wr) ∧ Hid (Bx w.heap.size #[.slice none 0 0, .int .i64 0, .slice none 0 0] 25 wr) ∧ Hid (Bx lb (L.map strV).toArray 9 wr) ∧ Hid (wr.ownsRow (cb + 1) 3 1 (.slice pa P.length pc) P.length (intsL P)) ∧ Hid (wr.ownsRow (cb + 1) 39 5 iv A.length (insLs A)) ∧ Below w.heap.size w wr) (fun i _ => t.length - (intOf i).toNat)
        case atStart => exact ⟨0, [], _, Nat.zero_le _, rfl, rfl, HQ0, HA0, HCB, HRB, HY, HOP, HZ, HB.out⟩
        case round =>
          clear HQ0 HA0 HCB HRB HY HOP HZ HB
          obtain ⟨k, A, iv, hk, rfl, hAk, HQ, HA, HCB, HRB, HY, HOP, HO, hB2⟩ := hrel
          have HB := Lib.hid hB2; clear hB2
          have hAl : A.length ≤ 90000 := by omega
          have HAK := Lib.hid hAk; clear hAk
          by_cases hlt : k < t.length
          · have hlt' : (k : Int) < (t.length : Int) := by omega
            have hw1 : IntKind.i64.wrap ((k : Int) + 1) = (k : Int) + 1 := by rw [IntKind.wrap_i64]; omega
            have hw3 : IntKind.i64.wrap ((k : Int) + 3) = (k : Int) + 3 := by rw [IntKind.wrap_i64]; omega
            have p2 := strs_cell HY.out (k := 2 + k) (by rw [HN.out]; omega)
            have hq2 : L[2 + k]'(by rw [HN.out]; omega) = t[k] := by have := HT.out; subst this; rw [List.getElem_append_left (by simp; omega)]; simp only [Nat.add_comm 2 k]; rfl
            rw [hq2] at p2
            obtain ⟨ln, hln⟩ : ∃ x, t[k] = x := ⟨_, rfl⟩
            have hlnl := HML.out t[k] (List.mem_cons_of_mem _ (List.mem_cons_of_mem _ (List.getElem_mem hlt)))
            rw [hln] at p2 hlnl
            have HLN := Lib.hid hln; clear hln hq2
            obtain ⟨R2, hR2⟩ : ∃ r, insP k ln = r := ⟨_, rfl⟩
            have HR2 := Lib.hid hR2; clear hR2
            go_wp2_with fail
            refine (instr_any k ln _ (by omega) (by omega) (HLB.out.below HB.out)).mono ?_
            rw [HR2.out]
            rintro er w6 ⟨⟨xop, xa, xb, xn, xs⟩, rfl, hXX, hb6⟩
            simp only [insV]
            clear p2
            have HXX := Lib.hid hXX; have HCB := Lib.hid (HCB.out.call hb6); have HRB := Lib.hid (HRB.out.call hb6); have HY := Lib.hid (HY.out.call hb6); have HOP := Lib.hid (own_below HOP.out hb6); have HO := Lib.hid (own_below HO.out hb6); have HB := Lib.hid (btrans HB.out HB.out.size hb6); clear hb6 hXX
            have hal := (Below.refl w6.heap.size w6).alloc (Nat.le_refl _) (.cells #[.int .i64 xop, .int .i64 xa, .int .i64 xb, .int .i64 xn, .string (bs xs)] 39)
            have HX := Lib.hid (Bx.new w6 #[.int .i64 xop, .int .i64 xa, .int .i64 xb, .int .i64 xn, .string (bs xs)] 39)
            have HCB := Lib.hid (HCB.out.call hal); have HRB := Lib.hid (HRB.out.call hal); have HY := Lib.hid (HY.out.call hal); have HOP := Lib.hid (own_below HOP.out hal); have HO := Lib.hid (own_below HO.out hal); have HB := Lib.hid (btrans HB.out HB.out.size hal); clear hal
            go_upto_region 22 with (fail)
            generalize hW : w6.alloc (.cells #[.int .i64 xop, .int .i64 xa, .int .i64 xb, .int .i64 xn, .string (bs xs)] 39) = v6 at HX HCB HRB HY HOP HO HB ⊢
            clear hW
            cases R2 with
            | none =>
              simp only [Option.isSome_none]
              have hgk : g = some k := (congrArg Prod.snd ((linG_no (A := A) hlt (by rw [HLN.out]; exact HR2.out)).symm.trans HQ.out)).symm
              have HGK := Lib.hid hgk; clear hgk
              have hF : (cd0, ((k : Int) + 3 : Int), (5 : Int)) = (RC, RN, RE) := (parL_l (by rw [HPP.out]) HIB.out (by rw [HSE.out]) (by rw [HG.out]; exact HGK.out)).symm.trans HR.out
              have hf1 : RC = cd0 := (congrArg Prod.fst hF).symm
              have hf2 : RN = (k : Int) + 3 := (congrArg (fun x => x.2.1) hF).symm
              have hf3 : RE = 5 := (congrArg (fun x => x.2.2) hF).symm
              have HF1 := Lib.hid hf1; have HF2 := Lib.hid hf2; have HF3 := Lib.hid hf3; clear hF hf1 hf2 hf3
              have r0 : v6.cell? ⟨w.heap.size, 0, none⟩ = some (.slice none 0 0) := HRB.out.cell 0
              have r1 : v6.cell? ⟨w.heap.size, 1, none⟩ = some (.int .i64 0) := HRB.out.cell 1
              have r2 : v6.cell? ⟨w.heap.size, 2, none⟩ = some (.slice none 0 0) := HRB.out.cell 2
              have f0 := HRB.out.free 0
              have f1 := HRB.out.free 1
              have f2 := HRB.out.free 2
              have HK := Lib.hid (HRB.out.sets3 (.slice none 0 0) (.int .i64 0) (.slice none 0 0))
              go_wp2
              have k0 := HK.out.cell 0
              have k1 := HK.out.cell 1
              have k2 := HK.out.cell 2
              simp only [List.getElem?_toArray, List.getElem?_cons_zero, List.getElem?_cons_succ] at k0 k1 k2
              refine bodyPost_ret (v := .tuple #[.agg #[.slice none 0 0, .int .i64 0, .slice none 0 0], .int .i64 ((k : Int) + 3), .int .i64 (5)]) (by simp [results, Tryz.results14, go_sem, k0, k1, k2] <;> rfl) rfl ⟨none, 0, none, 0, ?_⟩
              refine ⟨by rw [HF1.out, HF2.out, HF3.out] <;> rfl, by rw [HF1.out]; exact ⟨none, 0, rfl, fun h => absurd rfl h⟩, by rw [HF1.out]; exact ⟨none, 0, rfl, fun h => absurd rfl h⟩, below_sets3 HB.out w.heap.size (Nat.le_refl _) _ _ _⟩
            | some y =>
              simp only [Option.isSome_some]
              have hxy := HXX.out y rfl
              have HN2 := Lib.hid ((linG_go (A := A) hlt (by rw [HLN.out]; exact HR2.out)).symm.trans HQ.out)
              have HYL := Lib.hid (insP_len (by omega) HR2.out)
              have HA2 := Lib.hid (show ∀ x ∈ A ++ [y], x.s.length ≤ 100000 from fun x hx => by
                rcases List.mem_append.1 hx with hx | hx
                · exact HA.out x hx
                · rw [List.mem_singleton] at hx; rw [hx]; exact HYL.out)
              have HXY := Lib.hid hxy; clear hxy
              obtain ⟨x0, x1, x2, x3, x4⟩ := HX.out.c5
              obtain ⟨c0, c1, c2⟩ := HCB.out.c3
              have hcv := HCB.out.lt
              go_wp2_with (at_builtin; refine wpList_append_ins rfl _ _ rfl (cb + 1) _ A ⟨xop, xa, xb, xn, xs⟩ HO.out rfl rfl (by omega) w w.heap.size HB.out (by omega) (by omega) ?_; intro v5 w7 hown5 hb5 hg5; obtain ⟨va, vc, rfl⟩ := own_sl hown5; have HCB := Lib.hid (HCB.out.grown hg5 HO.out (by decide)); have HRB := Lib.hid (HRB.out.grown hg5 HO.out (by decide)); have HY := Lib.hid (HY.out.grown hg5 HO.out (by decide)); have HOP := Lib.hid (own_grown HOP.out hg5 HO.out (by decide)); have HB := Lib.hid hb5; have HO := Lib.hid hown5; clear hg5 hb5 hown5 c0 c1 c2 x0 x1 x2 x3 x4; have c0 : w7.cell? ⟨cb, 0, none⟩ = some (.slice pa P.length pc) := HCB.out.cell 0; have c1 : w7.cell? ⟨cb, 1, none⟩ = some (.int .i64 sv) := HCB.out.cell 1; have c2 : w7.cell? ⟨cb, 2, none⟩ = some iv := HCB.out.cell 2; have z2 := HCB.out.free 2)
              go_roundw
              case rel => exact ⟨k + 1, A ++ [y], _, by omega, by go_num, by rw [List.length_append, HAK.out]; rfl, HN2, HA2, Lib.hid (HCB.out.st3_2 _), Lib.hid (HRB.out.other (by omega) _), Lib.hid (HY.out.other (by omega) _), Lib.hid (own_set HOP.out cb 2 (by omega) _), Lib.hid (by rw [← HXY.out]; have h := own_set HO.out cb 2 (by omega) (.slice va (A.length + 1) vc); rw [List.length_append] at h ⊢; exact h), below_set HB.out cb 2 (by omega) _⟩
              case measure => simp [intOf]; omega
          · have hlt' : ¬ (k : Int) < (t.length : Int) := by omega
            have hlt0 : ¬ (k : Int) < 0 := by omega
            have hT2 : (A, none) = (D, g) := (linG_end (A := A) hlt).symm.trans HQ.out
            have h1 : D = A := (congrArg Prod.fst hT2).symm
            have h2 : g = none := (congrArg Prod.snd hT2).symm
            have HGA := Lib.hid (show linG [] 0 t = (A, none) by rw [HG.out, h1, h2])
            clear hT2 h1 h2 HQ
            obtain ⟨ia, ic, rfl⟩ := own_sl HO.out
            obtain ⟨V, hV⟩ : ∃ V, valC ⟨P, sv, A⟩ = V := ⟨_, rfl⟩
            have HV := Lib.hid hV; clear hV
            obtain ⟨c0, c1, c2⟩ := HCB.out.c3
            go_wp2_with fail
            refine (Validate_any pa ia pc ic P sv A _ (own_intAt HOP.out) (own_insAt HO.out) (by omega) (fun x hx => (by have := HA.out x hx; omega)) (HLB.out.below HB.out)).mono ?_
            rw [HV.out]
            rintro er w8 ⟨rfl, hb8⟩
            clear c0 c1 c2
            have HCB := Lib.hid (HCB.out.call hb8); have HRB := Lib.hid (HRB.out.call hb8); have HOP := Lib.hid (own_below HOP.out hb8); have HO := Lib.hid (own_below HO.out hb8); have HB := Lib.hid (btrans HB.out HB.out.size hb8); clear hb8
            have HPV := Lib.hid (parL_v (t := t) HPP.out HIB.out HSE.out HGA.out HV.out)
            by_cases e0 : V = 0
            rotate_left
            · have t0 : (V != 0) = true := by rw [bne_iff_ne]; exact e0
              have HPV := Lib.hid (HPV.out.trans (if_neg e0))
              clear e0
              have hF : (cd0, (0 : Int), (V : Int)) = (RC, RN, RE) := (HPV.out).symm.trans HR.out
              have hf1 : RC = cd0 := (congrArg Prod.fst hF).symm
              have hf2 : RN = 0 := (congrArg (fun x => x.2.1) hF).symm
              have hf3 : RE = V := (congrArg (fun x => x.2.2) hF).symm
              have HF1 := Lib.hid hf1; have HF2 := Lib.hid hf2; have HF3 := Lib.hid hf3; clear hF hf1 hf2 hf3
              have r0 : w8.cell? ⟨w.heap.size, 0, none⟩ = some (.slice none 0 0) := HRB.out.cell 0
              have r1 : w8.cell? ⟨w.heap.size, 1, none⟩ = some (.int .i64 0) := HRB.out.cell 1
              have r2 : w8.cell? ⟨w.heap.size, 2, none⟩ = some (.slice none 0 0) := HRB.out.cell 2
              have f0 := HRB.out.free 0
              have f1 := HRB.out.free 1
              have f2 := HRB.out.free 2
              have HK := Lib.hid (HRB.out.sets3 (.slice none 0 0) (.int .i64 0) (.slice none 0 0))
              go_wp2
              have k0 := HK.out.cell 0
              have k1 := HK.out.cell 1
              have k2 := HK.out.cell 2
              simp only [List.getElem?_toArray, List.getElem?_cons_zero, List.getElem?_cons_succ] at k0 k1 k2
              refine bodyPost_ret (v := .tuple #[.agg #[.slice none 0 0, .int .i64 0, .slice none 0 0], .int .i64 (0), .int .i64 (V)]) (by simp [results, Tryz.results14, go_sem, k0, k1, k2] <;> rfl) rfl ⟨none, 0, none, 0, ?_⟩
              refine ⟨by rw [HF1.out, HF2.out, HF3.out] <;> rfl, by rw [HF1.out]; exact ⟨none, 0, rfl, fun h => absurd rfl h⟩, by rw [HF1.out]; exact ⟨none, 0, rfl, fun h => absurd rfl h⟩, below_sets3 HB.out w.heap.size (Nat.le_refl _) _ _ _⟩
            have t0 : (V != 0) = false := by rw [e0]; rfl
            have HPV := Lib.hid (HPV.out.trans (if_pos e0))
            clear e0
            obtain ⟨c0, c1, c2⟩ := HCB.out.c3
            have hF : ((⟨P, sv, A⟩ : Cd), (0 : Int), (0 : Int)) = (RC, RN, RE) := (HPV.out).symm.trans HR.out
            have hf1 : RC = (⟨P, sv, A⟩ : Cd) := (congrArg Prod.fst hF).symm
            have hf2 : RN = 0 := (congrArg (fun x => x.2.1) hF).symm
            have hf3 : RE = 0 := (congrArg (fun x => x.2.2) hF).symm
            have HF1 := Lib.hid hf1; have HF2 := Lib.hid hf2; have HF3 := Lib.hid hf3; clear hF hf1 hf2 hf3
            have r0 : w8.cell? ⟨w.heap.size, 0, none⟩ = some (.slice none 0 0) := HRB.out.cell 0
            have r1 : w8.cell? ⟨w.heap.size, 1, none⟩ = some (.int .i64 0) := HRB.out.cell 1
            have r2 : w8.cell? ⟨w.heap.size, 2, none⟩ = some (.slice none 0 0) := HRB.out.cell 2
            have f0 := HRB.out.free 0
            have f1 := HRB.out.free 1
            have f2 := HRB.out.free 2
            have HK := Lib.hid (HRB.out.sets3 (.slice pa P.length pc) (.int .i64 sv) (.slice ia A.length ic))
            go_wp2
            have k0 := HK.out.cell 0
            have k1 := HK.out.cell 1
            have k2 := HK.out.cell 2
            simp only [List.getElem?_toArray, List.getElem?_cons_zero, List.getElem?_cons_succ] at k0 k1 k2
            refine bodyPost_ret (v := .tuple #[.agg #[.slice pa P.length pc, .int .i64 sv, .slice ia A.length ic], .int .i64 (0), .int .i64 (0)]) (by simp [results, Tryz.results14, go_sem, k0, k1, k2] <;> rfl) rfl ⟨pa, pc, ia, ic, ?_⟩
            refine ⟨by rw [HF1.out, HF2.out, HF3.out] <;> rfl, by rw [HF1.out]; exact own_intAt (own_set (own_set (own_set HOP.out w.heap.size 0 (by omega) _) w.heap.size 1 (by omega) _) w.heap.size 2 (by omega) _), by rw [HF1.out]; exact own_insAt (own_set (own_set (own_set HO.out w.heap.size 0 (by omega) _) w.heap.size 1 (by omega) _) w.heap.size 2 (by omega) _), below_sets3 HB.out w.heap.size (Nat.le_refl _) _ _ _⟩
end Go.Proofs.YtkmmdkklpbafdaaGreatDoor
