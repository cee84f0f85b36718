/- The walks of strings.Builder's methods that Join needs, and of layer 7's valid. No conditions. -/
import Derived.Test.YthdioaolnbdbgaaDoorLexG
import Derived.Lib.AppendStr
namespace Go.Proofs.YthdioaolnbdbgaaDoor
open Go.RowKit

/-- the builder in block b holds the bytes l; its own row lies in a block before S -/
def BdB (b : Nat) (l : List UInt8) (S : Nat) (w : World) : Prop := b < S ∧ Bd b l w ∧ ∀ p v, w.heap[b]? = some (.cells #[p, v] 42 (0, 0)) → ∀ g, v.ownBlock = some g → g < S
theorem Bd.lt {b : Nat} {l : List UInt8} {w : World} (h : Bd b l w) : b < w.heap.size := by
  rcases h with ⟨_, v, hb, _⟩ | ⟨_, v, hb, _⟩ <;> exact lt_heap hb
theorem Bd.before {b : Nat} {l : List UInt8} {w : World} (h : Bd b l w) : BdB b l w.heap.size w := by
  refine ⟨h.lt, h, ?_⟩
  intro p v hb g hg
  rcases h with ⟨_, v2, hb2, hown, _⟩ | ⟨_, v2, hb2, hown, _⟩
  · rw [hb] at hb2; injection hb2 with e; injection e with e _ _; injection e with e; injection e with _ e; injection e with e _; subst e; exact (hown.lt g hg).2
  · rw [hb] at hb2; injection hb2 with e; injection e with e _ _; injection e with e; injection e with _ e; injection e with e _; subst e; exact (hown.lt g hg).2
theorem Bd.below {b : Nat} {l : List UInt8} {w w' : World} (h : Bd b l w) (hb : Below w.heap.size w w') : Bd b l w' := by
  have hlt := h.lt
  rcases h with ⟨h0, v, h1, h2, h3⟩ | ⟨h0, v, h1, h2, h3⟩
  · exact .inl ⟨h0, v, (hb.block b hlt).trans h1, own_below h2 hb, h3⟩
  · exact .inr ⟨h0, v, (hb.block b hlt).trans h1, own_below h2 hb, h3⟩
theorem BdB.below {b : Nat} {l : List UInt8} {S : Nat} {w w' : World} (h : BdB b l S w) (hb : Below w.heap.size w w') : BdB b l S w' := by
  refine ⟨h.1, h.2.1.below hb, ?_⟩
  intro p v hbk g hg
  exact h.2.2 p v ((hb.block b h.2.1.lt).symm.trans hbk) g hg
set_option maxHeartbeats 2000000 in
set_option maxRecDepth 100000 in
theorem copyCheck2 (b : Nat) (l : List UInt8) (w : World) (h : Bd b l w) :
    Calls Tryd.prog 46 #[.pointer (some ⟨b, 0, none⟩)] w fun e w' => e = .returned (.tuple #[]) ∧ (∃ p v, w.heap[b]? = some (.cells #[p, v] 42 (0, 0)) ∧ w'.heap[b]? = some (.cells #[.pointer (some ⟨b, 0, none⟩), v] 42 (0, 0)) ∧ w'.ownsRow b 5 1 v (Lib.byteCells l).length (Lib.byteCells l) ∧ v.ownBlock ≠ some b) ∧ Below b w w' ∧ w'.heap.size = w.heap.size ∧ ∀ k, k ≠ b → w'.heap[k]? = w.heap[k]? := by
  rcases h with h | h
  · refine (copyCheck_fresh b w h.cell0 h.shape h.frozen0).mono ?_
    rintro e w' ⟨rfl, rfl⟩
    obtain ⟨h0, v, h1, h2, h3⟩ := h
    have hg := grown_set w ⟨b, 0, none⟩ (.pointer (some ⟨b, 0, none⟩))
    have hx : Bx b #[.pointer none, v] 42 w := h1
    have hx2 := hx.set 0 (.pointer (some ⟨b, 0, none⟩))
    refine ⟨rfl, ⟨.pointer none, v, h1, by show Bx b _ _ _; simpa using hx2, ?_, h3⟩, (Below.refl b w).setCell (p := ⟨b, 0, none⟩) (Nat.le_refl _) _, by simp, ?_⟩
    · exact (Lib.BuilderAt.used (T := 42) (e := 5) ⟨h0, v, h1, h2, h3⟩ _).2.elim (fun v2 q => by
        have e : v2 = v := by
          have e1 := q.1
          rw [hx2] at e1
          simp at e1
          exact e1.symm
        rw [← e]; exact q.2.1)
    · intro k hk
      rcases Nat.lt_or_ge k w.heap.size with h' | h'
      · exact hg.block k h' (by simpa using hk)
      · rw [Array.getElem?_eq_none h', Array.getElem?_eq_none (by simpa using h')]
  · refine (copyCheck_used b w h.cell0).mono ?_
    rintro e w' ⟨rfl, rfl⟩
    obtain ⟨h0, v, h1, h2, h3⟩ := h
    exact ⟨rfl, ⟨_, v, h1, h1, h2, h3⟩, Below.refl b _, rfl, fun k hk => rfl⟩
set_option maxHeartbeats 2000000 in
set_option maxRecDepth 100000 in
theorem WriteByte_kept (b : Nat) (l : List UInt8) (S : Nat) (c : UInt8) (w : World) (h : BdB b l S w) (hlen : l.length ≤ 1000000) (_ : S ≤ w.heap.size) :
    Calls Tryd.prog 26 #[.pointer (some ⟨b, 0, none⟩), .int .u8 (c.toNat : Int)] w fun e w' => e = .returned .nilIface ∧ Bd b (l ++ [c]) w' ∧ Below b w w' ∧ ∀ k, S ≤ k → k < w.heap.size → w'.heap[k]? = w.heap[k]? := by
  obtain ⟨i0, hi, hz0, hz1, hz2⟩ := info_parts Tryd.infoByte
  go_enter Tryd.func26, Tryd.ntmps26
  go_wp2_with fail
  refine (copyCheck2 b l _ h.2.1).mono ?_
  rintro e w1 ⟨rfl, ⟨p0, v, hb0, hbk, hown, hne⟩, hb1, hsz1, hk1⟩
  have hgS := h.2.2 p0 v hb0
  have hbS := h.1
  have c0 : w1.cell? ⟨b, 0, none⟩ = some (.pointer (some ⟨b, 0, none⟩)) := by rw [Lib.cell_of_heap hbk]; rfl
  have c1 : w1.cell? ⟨b, 1, none⟩ = some v := by rw [Lib.cell_of_heap hbk]; rfl
  have hlt : b < w1.heap.size := lt_heap hbk
  have HBL := Lib.hid (Lib.byteCells_length l)
  have HSZ := Lib.hid hsz1; clear hsz1
  go_wp2_with (at_builtin; refine wpList_append_own _ rfl _ _ 40 rfl b 5 i0 (.int .u8 0) 1 1 Tryd.underlying40 hi hz0 hz1 hz2 rfl (by decide) _ _ _ rfl (hown.alloc _) ⟨w1.heap.size, 0, none⟩ 1 1 [.int .u8 (c.toNat : Int)] rfl rfl ?c1 ?c2 ?c3 ?c4 ?c5 ?_)
  case c1 =>
    intro j u hj
    match j, hj with
    | 0, hj => simp at hj; subst hj; simp [Addr.add]
  case c2 => intro u hu; simp at hu; subst hu; rfl
  case c3 => have := HBL.out; unfold maxLen; omega
  case c4 => have := HBL.out; omega
  case c5 => have := HSZ.out; simp; omega
  intro v' w2 hown' hgrow _
  have hsz1 := HSZ.out
  have hb2 : w2.heap[b]? = some (.cells #[.pointer (some ⟨b, 0, none⟩), v] 42 (0, 0)) := by
    rw [hgrow.block b (by simp; omega) (fun e => hne e.symm), Lib.alloc_old w1 _ b hlt]
    exact hbk
  have hkeep : ∀ k, S ≤ k → k < w.heap.size → w2.heap[k]? = w.heap[k]? := by
    intro k h1 h2
    rw [hgrow.block k (by simp; omega) (fun e => by have := hgS k e.symm; omega), Lib.alloc_old w1 _ k (by omega)]
    exact hk1 k (by omega)
  have hszk : w.heap.size ≤ w2.heap.size := by have := hgrow.size; simp at this; omega
  have d0 : w2.cell? ⟨b, 0, none⟩ = some (.pointer (some ⟨b, 0, none⟩)) := by rw [Lib.cell_of_heap hb2]; rfl
  have d1 : w2.cell? ⟨b, 1, none⟩ = some v := by rw [Lib.cell_of_heap hb2]; rfl
  have f1 : w2.frozen? ⟨b, 1, none⟩ = false := Lib.frozen_of_heap hb2 1
  obtain ⟨g, cap, rfl⟩ : ∃ g cap, v' = .slice (some ⟨g, 0, none⟩) ((Lib.byteCells l).length + 1) cap := by
    rcases hown'.2 with ⟨_, h0⟩ | ⟨g, cap, cur, hv, _⟩
    · omega
    · exact ⟨g, cap, hv⟩
  clear hsz1
  have HKP := Lib.hid hkeep; clear hkeep
  have HGS := Lib.hid hgS; clear hgS
  go_wp2
  go_ret
  refine ⟨rfl, ?_, ?_, ?_⟩
  · have := Lib.BuilderAt.put (T := 42) (e := 5) (Nat.le_refl b) hb2 (bs' := Lib.byteCells l ++ [.int .u8 (c.toNat : Int)]) (by simpa using hown') (by decide)
    rw [bc_snoc] at this
    exact .inr this
  · have hsz1 := HSZ.out
    exact ((hb1.alloc (by omega) _).grown hgrow (by simp; omega) (fun k hk => (hown.lt k hk).1)).setCell (p := ⟨b, 1, none⟩) (Nat.le_refl _) _
  · intro k h1 h2
    rw [← HKP.out k h1 h2]
    exact (grown_set w2 ⟨b, 1, none⟩ _).block k (by omega) (by simp; omega)
set_option maxHeartbeats 2000000 in
set_option maxRecDepth 100000 in
theorem Bd.writeS (b : Nat) (l : List UInt8) (s : List UInt8) (w : World) (h : Bd b l w) (hlen : l.length ≤ 1000000) (hs : s.length ≤ 1000000) :
    Calls Tryd.prog 41 #[.pointer (some ⟨b, 0, none⟩), .string (bs s)] w fun e w' => e = .returned (.tuple #[.int .i64 (s.length : Int), .nilIface]) ∧ Bd b (l ++ s) w' ∧ Below b w w' := by
  obtain ⟨i0, hi, hz0, hz1, hz2⟩ := info_parts Tryd.infoByte
  have hsc : Lib.strCells (bs s) = Lib.byteCells s := by simp [Lib.strCells, Lib.byteCells, bs]
  have hca : Lib.byteCells l ++ Lib.byteCells s = Lib.byteCells (l ++ s) := by simp [Lib.byteCells]
  have HSC := Lib.hid hsc; have HCA := Lib.hid hca; clear hsc hca
  go_enter Tryd.func41, Tryd.ntmps41
  go_wp2_with fail
  refine (copyCheck2 b l _ h).mono ?_
  rintro e w1 ⟨rfl, ⟨p0, v, hb0, hbk, hown, hne⟩, hb1, hsz1, hk1⟩
  clear hk1
  have HSZ := Lib.hid hsz1; clear hsz1
  have c0 : w1.cell? ⟨b, 0, none⟩ = some (.pointer (some ⟨b, 0, none⟩)) := by rw [Lib.cell_of_heap hbk]; rfl
  have c1 : w1.cell? ⟨b, 1, none⟩ = some v := by rw [Lib.cell_of_heap hbk]; rfl
  have hlt : b < w1.heap.size := lt_heap hbk
  have HBL := Lib.hid (Lib.byteCells_length l)
  have HBZ := Lib.hid (bs_size s)
  go_wp2_with (at_builtin; refine Lib.wpList_append_own_string _ rfl _ _ 40 9 rfl b 5 i0 Tryd.underlying40 Tryd.underlying9 hi hz0 hz1 hz2 _ _ _ rfl hown (bs s) rfl ?c3 ?c4 ?c5 ?_)
  case c3 => have := HBL.out; have := HBZ.out; unfold maxLen; omega
  case c4 => have := HBL.out; have := HBZ.out; omega
  case c5 => have := HSZ.out; omega
  intro v' w2 hown' hgrow _
  have hb2 : w2.heap[b]? = some (.cells #[.pointer (some ⟨b, 0, none⟩), v] 42 (0, 0)) := by
    rw [hgrow.block b (by omega) (fun e => hne e.symm)]
    exact hbk
  have d0 : w2.cell? ⟨b, 0, none⟩ = some (.pointer (some ⟨b, 0, none⟩)) := by rw [Lib.cell_of_heap hb2]; rfl
  have d1 : w2.cell? ⟨b, 1, none⟩ = some v := by rw [Lib.cell_of_heap hb2]; rfl
  have f1 : w2.frozen? ⟨b, 1, none⟩ = false := Lib.frozen_of_heap hb2 1
  rw [HSC.out, HCA.out] at hown'
  have ho2 : w2.ownsRow b 5 1 v' (Lib.byteCells (l ++ s)).length (Lib.byteCells (l ++ s)) := by
    have e : (Lib.byteCells l).length + (bs s).size = (Lib.byteCells (l ++ s)).length := by rw [HBZ.out, HBL.out, Lib.byteCells_length, List.length_append]
    rw [← e]; exact hown'
  have hone : v'.oneCell' = true := by
    rcases own_form ho2 with ⟨rfl, _⟩ | ⟨g, cap, rfl, _⟩ <;> rfl
  obtain ⟨sa, sc, rfl⟩ := own_sl ho2
  have HO2 := Lib.hid ho2; clear hown' ho2
  go_wp2
  go_ret2
  refine ⟨rfl, ?_, ?_⟩
  · exact .inr (Lib.BuilderAt.put (T := 42) (e := 5) (Nat.le_refl b) hb2 (bs' := Lib.byteCells (l ++ s)) HO2.out (by decide))
  · exact (hb1.grown hgrow (by omega) (fun k hk => (hown.lt k hk).1)).setCell (p := ⟨b, 1, none⟩) (Nat.le_refl _) _
theorem Bd.len (b : Nat) (l : List UInt8) (w : World) (h : Bd b l w) :
    Calls Tryd.prog 43 #[.pointer (some ⟨b, 0, none⟩)] w fun e w' => e = .returned (.int .i64 (l.length : Int)) ∧ w = w' := by
  refine (Tryd.Builder_Len b b (Lib.byteCells l) w h).mono ?_
  rintro e w' ⟨rfl, rfl⟩
  exact ⟨by rw [Lib.byteCells_length], rfl⟩

theorem mk_self (t : List UInt8) : t ∈ MK ↔ (t ≠ [] ∧ mkS t = t) := by
  constructor
  · intro h
    have := (by decide : ∀ m ∈ MK, m ≠ [] ∧ mkS m = m)
    exact this t h
  · rintro ⟨h1, h2⟩
    rw [← h2]; exact mkS_mem (by rw [h2]; exact h1)
theorem val_1 {t : List UInt8} {n ln : Int} : valT ⟨1, t, n, ln⟩ = (isNm t && decide (n = 0)) := rfl
theorem val_2 {t : List UInt8} {n ln : Int} : valT ⟨2, t, n, ln⟩ = (isKw t && decide (n = 0)) := rfl
theorem val_3 {t : List UInt8} {n ln : Int} : valT ⟨3, t, n, ln⟩ = ((t == []) && decide (0 ≤ n)) := rfl
theorem val_4 {t : List UInt8} {n ln : Int} : valT ⟨4, t, n, ln⟩ = (decide (t.length ≤ 64) && (t.all okc && decide (n = 0))) := rfl
theorem val_5 {t : List UInt8} {n ln : Int} : valT ⟨5, t, n, ln⟩ = (decide (t ∈ MK) && decide (n = 0)) := rfl
theorem val_6 {k : Int} {t : List UInt8} {n ln : Int} (h1 : k ≠ 1) (h2 : k ≠ 2) (h3 : k ≠ 3) (h4 : k ≠ 4) (h5 : k ≠ 5) : valT ⟨k, t, n, ln⟩ = false := by
  unfold valT; simp only; rw [if_neg h1, if_neg h2, if_neg h3, if_neg h4, if_neg h5]

set_option maxRecDepth 100000 in
set_option maxHeartbeats 16000000 in
theorem LValid_any (x : Tk) (hl : x.t.length ≤ 1000000) (w : World) :
    Calls Tryd.prog 40 #[.agg (tkV x)] w fun e w' => e = .returned (.bool (valT x)) ∧ Below w.heap.size w w' := by
  obtain ⟨k, t, n, ln⟩ := x
  simp only at hl
  simp only [tkV]
  obtain ⟨q, hq⟩ : ∃ q, decide (n = 0) = q := ⟨_, rfl⟩
  have tq : (n == 0) = q := hq
  by_cases h1 : k = 1
  · subst h1
    rw [val_1, hq]
    have HQ := Lib.hid hq; clear hq
    cases hb : isNm t with
    | true =>
      rw [Bool.true_and]
      have HV := Lib.hid hb; clear hb
      have hb0 := ((Below.refl w.heap.size w).alloc (Nat.le_refl _) (.cells #[.int .i64 1, .string (bs t), .int .i64 n, .int .i64 ln] 37))
      have h_HX := (Bx.new w #[.int .i64 1, .string (bs t), .int .i64 n, .int .i64 ln] 37)
      have HB := Lib.hid hb0; have HX := Lib.hid h_HX
      clear hb0 h_HX
      go_enter Tryd.func40, Tryd.ntmps40
      go_upto_region 1 with (fail)
      generalize hW0 : w.alloc (.cells #[.int .i64 1, .string (bs t), .int .i64 n, .int .i64 ln] 37) = v0 at HB HX ⊢
      clear hW0
      have x0 : v0.cell? ⟨w.heap.size, 0, none⟩ = some (.int .i64 1) := HX.out.cell 0
      have x1 : v0.cell? ⟨w.heap.size, 1, none⟩ = some (.string (bs t)) := HX.out.cell 1
      have x2 : v0.cell? ⟨w.heap.size, 2, none⟩ = some (.int .i64 n) := HX.out.cell 2
      have x3 : v0.cell? ⟨w.heap.size, 3, none⟩ = some (.int .i64 ln) := HX.out.cell 3
      go_wp2_with fail
      refine (IsName_any t hl _).mono ?_
      rw [HV.out]
      rintro er w1 ⟨rfl, hb1⟩
      clear x0 x1 x2 x3
      have HX := Lib.hid (HX.out.call hb1); have HB := Lib.hid (btrans HB.out HB.out.size hb1); clear hb1
      have x0 : w1.cell? ⟨w.heap.size, 0, none⟩ = some (.int .i64 1) := HX.out.cell 0
      have x1 : w1.cell? ⟨w.heap.size, 1, none⟩ = some (.string (bs t)) := HX.out.cell 1
      have x2 : w1.cell? ⟨w.heap.size, 2, none⟩ = some (.int .i64 n) := HX.out.cell 2
      have x3 : w1.cell? ⟨w.heap.size, 3, none⟩ = some (.int .i64 ln) := HX.out.cell 3
      go_wp2
      go_ret
      exact ⟨rfl, HB.out⟩
    | false =>
      rw [Bool.false_and]
      have HV := Lib.hid hb; clear hb
      have hb0 := ((Below.refl w.heap.size w).alloc (Nat.le_refl _) (.cells #[.int .i64 1, .string (bs t), .int .i64 n, .int .i64 ln] 37))
      have h_HX := (Bx.new w #[.int .i64 1, .string (bs t), .int .i64 n, .int .i64 ln] 37)
      have HB := Lib.hid hb0; have HX := Lib.hid h_HX
      clear hb0 h_HX
      go_enter Tryd.func40, Tryd.ntmps40
      go_upto_region 1 with (fail)
      generalize hW0 : w.alloc (.cells #[.int .i64 1, .string (bs t), .int .i64 n, .int .i64 ln] 37) = v0 at HB HX ⊢
      clear hW0
      have x0 : v0.cell? ⟨w.heap.size, 0, none⟩ = some (.int .i64 1) := HX.out.cell 0
      have x1 : v0.cell? ⟨w.heap.size, 1, none⟩ = some (.string (bs t)) := HX.out.cell 1
      have x2 : v0.cell? ⟨w.heap.size, 2, none⟩ = some (.int .i64 n) := HX.out.cell 2
      have x3 : v0.cell? ⟨w.heap.size, 3, none⟩ = some (.int .i64 ln) := HX.out.cell 3
      go_wp2_with fail
      refine (IsName_any t hl _).mono ?_
      rw [HV.out]
      rintro er w1 ⟨rfl, hb1⟩
      clear x0 x1 x2 x3
      have HX := Lib.hid (HX.out.call hb1); have HB := Lib.hid (btrans HB.out HB.out.size hb1); clear hb1
      have x0 : w1.cell? ⟨w.heap.size, 0, none⟩ = some (.int .i64 1) := HX.out.cell 0
      have x1 : w1.cell? ⟨w.heap.size, 1, none⟩ = some (.string (bs t)) := HX.out.cell 1
      have x2 : w1.cell? ⟨w.heap.size, 2, none⟩ = some (.int .i64 n) := HX.out.cell 2
      have x3 : w1.cell? ⟨w.heap.size, 3, none⟩ = some (.int .i64 ln) := HX.out.cell 3
      go_wp2
      go_ret
      exact ⟨rfl, HB.out⟩
  by_cases h2 : k = 2
  · subst h2
    rw [val_2, hq]
    have HQ := Lib.hid hq; clear hq
    cases hb : isKw t with
    | true =>
      rw [Bool.true_and]
      have HV := Lib.hid hb; clear hb
      have hb0 := ((Below.refl w.heap.size w).alloc (Nat.le_refl _) (.cells #[.int .i64 2, .string (bs t), .int .i64 n, .int .i64 ln] 37))
      have h_HX := (Bx.new w #[.int .i64 2, .string (bs t), .int .i64 n, .int .i64 ln] 37)
      have HB := Lib.hid hb0; have HX := Lib.hid h_HX
      clear hb0 h_HX
      go_enter Tryd.func40, Tryd.ntmps40
      go_upto_region 1 with (fail)
      generalize hW0 : w.alloc (.cells #[.int .i64 2, .string (bs t), .int .i64 n, .int .i64 ln] 37) = v0 at HB HX ⊢
      clear hW0
      have x0 : v0.cell? ⟨w.heap.size, 0, none⟩ = some (.int .i64 2) := HX.out.cell 0
      have x1 : v0.cell? ⟨w.heap.size, 1, none⟩ = some (.string (bs t)) := HX.out.cell 1
      have x2 : v0.cell? ⟨w.heap.size, 2, none⟩ = some (.int .i64 n) := HX.out.cell 2
      have x3 : v0.cell? ⟨w.heap.size, 3, none⟩ = some (.int .i64 ln) := HX.out.cell 3
      go_wp2_with fail
      refine (IsKeyword_any t _).mono ?_
      rw [HV.out]
      rintro er w1 ⟨rfl, rfl⟩
      go_wp2
      go_ret
      exact ⟨rfl, HB.out⟩
    | false =>
      rw [Bool.false_and]
      have HV := Lib.hid hb; clear hb
      have hb0 := ((Below.refl w.heap.size w).alloc (Nat.le_refl _) (.cells #[.int .i64 2, .string (bs t), .int .i64 n, .int .i64 ln] 37))
      have h_HX := (Bx.new w #[.int .i64 2, .string (bs t), .int .i64 n, .int .i64 ln] 37)
      have HB := Lib.hid hb0; have HX := Lib.hid h_HX
      clear hb0 h_HX
      go_enter Tryd.func40, Tryd.ntmps40
      go_upto_region 1 with (fail)
      generalize hW0 : w.alloc (.cells #[.int .i64 2, .string (bs t), .int .i64 n, .int .i64 ln] 37) = v0 at HB HX ⊢
      clear hW0
      have x0 : v0.cell? ⟨w.heap.size, 0, none⟩ = some (.int .i64 2) := HX.out.cell 0
      have x1 : v0.cell? ⟨w.heap.size, 1, none⟩ = some (.string (bs t)) := HX.out.cell 1
      have x2 : v0.cell? ⟨w.heap.size, 2, none⟩ = some (.int .i64 n) := HX.out.cell 2
      have x3 : v0.cell? ⟨w.heap.size, 3, none⟩ = some (.int .i64 ln) := HX.out.cell 3
      go_wp2_with fail
      refine (IsKeyword_any t _).mono ?_
      rw [HV.out]
      rintro er w1 ⟨rfl, rfl⟩
      go_wp2
      go_ret
      exact ⟨rfl, HB.out⟩
  by_cases h3 : k = 3
  · subst h3
    rw [val_3]
    obtain ⟨p, hp⟩ : ∃ p, decide (0 ≤ n) = p := ⟨_, rfl⟩
    rw [hp]
    by_cases ht : t = []
    · subst ht
      have hr : (([] : List UInt8) == []) = true := rfl
      rw [hr, Bool.true_and]
      have hb0 := ((Below.refl w.heap.size w).alloc (Nat.le_refl _) (.cells #[.int .i64 3, .string (bs []), .int .i64 n, .int .i64 ln] 37))
      have h_HX := (Bx.new w #[.int .i64 3, .string (bs []), .int .i64 n, .int .i64 ln] 37)
      have HB := Lib.hid hb0; have HX := Lib.hid h_HX
      clear hb0 h_HX
      go_enter Tryd.func40, Tryd.ntmps40
      go_upto_region 1 with (fail)
      generalize hW0 : w.alloc (.cells #[.int .i64 3, .string (bs []), .int .i64 n, .int .i64 ln] 37) = v0 at HB HX ⊢
      clear hW0
      have x0 : v0.cell? ⟨w.heap.size, 0, none⟩ = some (.int .i64 3) := HX.out.cell 0
      have x1 : v0.cell? ⟨w.heap.size, 1, none⟩ = some (.string (bs [])) := HX.out.cell 1
      have x2 : v0.cell? ⟨w.heap.size, 2, none⟩ = some (.int .i64 n) := HX.out.cell 2
      have x3 : v0.cell? ⟨w.heap.size, 3, none⟩ = some (.int .i64 ln) := HX.out.cell 3
      go_wp2
      go_ret
      exact ⟨rfl, HB.out⟩
    · have hr : (t == []) = false := by rw [beq_eq_false_iff_ne]; exact ht
      have hr2 : t.isEmpty = false := by cases t with | nil => exact absurd rfl ht | cons c r => rfl
      rw [hr, Bool.false_and]
      have HT := Lib.hid ht; clear ht
      have hb0 := ((Below.refl w.heap.size w).alloc (Nat.le_refl _) (.cells #[.int .i64 3, .string (bs t), .int .i64 n, .int .i64 ln] 37))
      have h_HX := (Bx.new w #[.int .i64 3, .string (bs t), .int .i64 n, .int .i64 ln] 37)
      have HB := Lib.hid hb0; have HX := Lib.hid h_HX
      clear hb0 h_HX
      go_enter Tryd.func40, Tryd.ntmps40
      go_upto_region 1 with (fail)
      generalize hW0 : w.alloc (.cells #[.int .i64 3, .string (bs t), .int .i64 n, .int .i64 ln] 37) = v0 at HB HX ⊢
      clear hW0
      have x0 : v0.cell? ⟨w.heap.size, 0, none⟩ = some (.int .i64 3) := HX.out.cell 0
      have x1 : v0.cell? ⟨w.heap.size, 1, none⟩ = some (.string (bs t)) := HX.out.cell 1
      have x2 : v0.cell? ⟨w.heap.size, 2, none⟩ = some (.int .i64 n) := HX.out.cell 2
      have x3 : v0.cell? ⟨w.heap.size, 3, none⟩ = some (.int .i64 ln) := HX.out.cell 3
      go_wp2
      go_ret
      exact ⟨rfl, HB.out⟩
  by_cases h4 : k = 4
  · subst h4
    rw [val_4, hq]
    have HQ := Lib.hid hq; clear hq
    by_cases h64 : t.length ≤ 64
    rotate_left
    · have h64' : ¬ (t.length : Int) ≤ 64 := by omega
      rw [decide_eq_false h64, Bool.false_and]
      have hb0 := ((Below.refl w.heap.size w).alloc (Nat.le_refl _) (.cells #[.int .i64 4, .string (bs t), .int .i64 n, .int .i64 ln] 37))
      have h_HX := (Bx.new w #[.int .i64 4, .string (bs t), .int .i64 n, .int .i64 ln] 37)
      have HB := Lib.hid hb0; have HX := Lib.hid h_HX
      clear hb0 h_HX
      go_enter Tryd.func40, Tryd.ntmps40
      go_upto_region 1 with (fail)
      generalize hW0 : w.alloc (.cells #[.int .i64 4, .string (bs t), .int .i64 n, .int .i64 ln] 37) = v0 at HB HX ⊢
      clear hW0
      have x0 : v0.cell? ⟨w.heap.size, 0, none⟩ = some (.int .i64 4) := HX.out.cell 0
      have x1 : v0.cell? ⟨w.heap.size, 1, none⟩ = some (.string (bs t)) := HX.out.cell 1
      have x2 : v0.cell? ⟨w.heap.size, 2, none⟩ = some (.int .i64 n) := HX.out.cell 2
      have x3 : v0.cell? ⟨w.heap.size, 3, none⟩ = some (.int .i64 ln) := HX.out.cell 3
      go_wp2
      go_ret
      exact ⟨rfl, HB.out⟩
    have h64' : (t.length : Int) ≤ 64 := by omega
    rw [decide_eq_true h64, Bool.true_and]
    cases hb : t.all okc with
    | true =>
      rw [Bool.true_and]
      have HV := Lib.hid hb; clear hb
      have hb0 := ((Below.refl w.heap.size w).alloc (Nat.le_refl _) (.cells #[.int .i64 4, .string (bs t), .int .i64 n, .int .i64 ln] 37))
      have h_HX := (Bx.new w #[.int .i64 4, .string (bs t), .int .i64 n, .int .i64 ln] 37)
      have HB := Lib.hid hb0; have HX := Lib.hid h_HX
      clear hb0 h_HX
      go_enter Tryd.func40, Tryd.ntmps40
      go_upto_region 1 with (fail)
      generalize hW0 : w.alloc (.cells #[.int .i64 4, .string (bs t), .int .i64 n, .int .i64 ln] 37) = v0 at HB HX ⊢
      clear hW0
      have x0 : v0.cell? ⟨w.heap.size, 0, none⟩ = some (.int .i64 4) := HX.out.cell 0
      have x1 : v0.cell? ⟨w.heap.size, 1, none⟩ = some (.string (bs t)) := HX.out.cell 1
      have x2 : v0.cell? ⟨w.heap.size, 2, none⟩ = some (.int .i64 n) := HX.out.cell 2
      have x3 : v0.cell? ⟨w.heap.size, 3, none⟩ = some (.int .i64 ln) := HX.out.cell 3
      go_wp2_with fail
      refine (plain_any t (by omega) _).mono ?_
      rw [HV.out]
      rintro er w1 ⟨rfl, rfl⟩
      go_wp2
      go_ret
      exact ⟨rfl, HB.out⟩
    | false =>
      rw [Bool.false_and]
      have HV := Lib.hid hb; clear hb
      have hb0 := ((Below.refl w.heap.size w).alloc (Nat.le_refl _) (.cells #[.int .i64 4, .string (bs t), .int .i64 n, .int .i64 ln] 37))
      have h_HX := (Bx.new w #[.int .i64 4, .string (bs t), .int .i64 n, .int .i64 ln] 37)
      have HB := Lib.hid hb0; have HX := Lib.hid h_HX
      clear hb0 h_HX
      go_enter Tryd.func40, Tryd.ntmps40
      go_upto_region 1 with (fail)
      generalize hW0 : w.alloc (.cells #[.int .i64 4, .string (bs t), .int .i64 n, .int .i64 ln] 37) = v0 at HB HX ⊢
      clear hW0
      have x0 : v0.cell? ⟨w.heap.size, 0, none⟩ = some (.int .i64 4) := HX.out.cell 0
      have x1 : v0.cell? ⟨w.heap.size, 1, none⟩ = some (.string (bs t)) := HX.out.cell 1
      have x2 : v0.cell? ⟨w.heap.size, 2, none⟩ = some (.int .i64 n) := HX.out.cell 2
      have x3 : v0.cell? ⟨w.heap.size, 3, none⟩ = some (.int .i64 ln) := HX.out.cell 3
      go_wp2_with fail
      refine (plain_any t (by omega) _).mono ?_
      rw [HV.out]
      rintro er w1 ⟨rfl, rfl⟩
      go_wp2
      go_ret
      exact ⟨rfl, HB.out⟩
  by_cases h5 : k = 5
  rotate_left
  · rw [val_6 h1 h2 h3 h4 h5]
    have t1 : (k == 1) = false := by rw [beq_eq_false_iff_ne]; exact h1
    have t2 : (k == 2) = false := by rw [beq_eq_false_iff_ne]; exact h2
    have t3 : (k == 3) = false := by rw [beq_eq_false_iff_ne]; exact h3
    have t4 : (k == 4) = false := by rw [beq_eq_false_iff_ne]; exact h4
    have t5 : (k == 5) = false := by rw [beq_eq_false_iff_ne]; exact h5
    clear h1 h2 h3 h4 h5
    have hb0 := ((Below.refl w.heap.size w).alloc (Nat.le_refl _) (.cells #[.int .i64 k, .string (bs t), .int .i64 n, .int .i64 ln] 37))
    have h_HX := (Bx.new w #[.int .i64 k, .string (bs t), .int .i64 n, .int .i64 ln] 37)
    have HB := Lib.hid hb0; have HX := Lib.hid h_HX
    clear hb0 h_HX
    go_enter Tryd.func40, Tryd.ntmps40
    go_upto_region 1 with (fail)
    generalize hW0 : w.alloc (.cells #[.int .i64 k, .string (bs t), .int .i64 n, .int .i64 ln] 37) = v0 at HB HX ⊢
    clear hW0
    have x0 : v0.cell? ⟨w.heap.size, 0, none⟩ = some (.int .i64 k) := HX.out.cell 0
    have x1 : v0.cell? ⟨w.heap.size, 1, none⟩ = some (.string (bs t)) := HX.out.cell 1
    have x2 : v0.cell? ⟨w.heap.size, 2, none⟩ = some (.int .i64 n) := HX.out.cell 2
    have x3 : v0.cell? ⟨w.heap.size, 3, none⟩ = some (.int .i64 ln) := HX.out.cell 3
    go_wp2
    go_ret
    exact ⟨rfl, HB.out⟩
  subst h5
  rw [val_5, hq]
  have HQ := Lib.hid hq; clear hq
  by_cases ht : t = []
  · have e1 : t.isEmpty = true := by rw [ht]; rfl
    have e2 : (t == []) = true := by rw [ht]; rfl
    have hr : decide (t ∈ MK) = false := by rw [ht]; decide
    rw [hr, Bool.false_and]
    have HT := Lib.hid ht; clear ht hr
    have hb0 := ((Below.refl w.heap.size w).alloc (Nat.le_refl _) (.cells #[.int .i64 5, .string (bs t), .int .i64 n, .int .i64 ln] 37))
    have h_HX := (Bx.new w #[.int .i64 5, .string (bs t), .int .i64 n, .int .i64 ln] 37)
    have HB := Lib.hid hb0; have HX := Lib.hid h_HX
    clear hb0 h_HX
    go_enter Tryd.func40, Tryd.ntmps40
    go_upto_region 1 with (fail)
    generalize hW0 : w.alloc (.cells #[.int .i64 5, .string (bs t), .int .i64 n, .int .i64 ln] 37) = v0 at HB HX ⊢
    clear hW0
    have x0 : v0.cell? ⟨w.heap.size, 0, none⟩ = some (.int .i64 5) := HX.out.cell 0
    have x1 : v0.cell? ⟨w.heap.size, 1, none⟩ = some (.string (bs t)) := HX.out.cell 1
    have x2 : v0.cell? ⟨w.heap.size, 2, none⟩ = some (.int .i64 n) := HX.out.cell 2
    have x3 : v0.cell? ⟨w.heap.size, 3, none⟩ = some (.int .i64 ln) := HX.out.cell 3
    go_upto_region 11 with (fail)
    have hs0 : Bx w.heap.size #[.int .i64 5, .string (bs t), .int .i64 n, .int .i64 ln] 37 v0.drew := HX.out
    have HS0 := Lib.hid hs0; clear hs0
    clear x0 x1 x2 x3
    go_wp2_with fail
    refine wp_region_held_drew (S := (fun w' => Bx w.heap.size #[.int .i64 5, .string (bs t), .int .i64 n, .int .i64 ln] 37 w')) (by kernel_rfl) ?_ (fun hHeld => ?_)
    · exact HS0.out
    refine takeH (i := 0) (v := ?vv1) 53 rfl rfl (by kernel_rfl) (by kernel_rfl) (by kernel_rfl) (fun _ _ _ h => h) (Or.inl ⟨by kernel_rfl, ?yy1⟩) (by assumption) ?_
    case yy1 => intro w hSw; (try dsimp only at hSw); go_simp; (try with_reducible rfl)
    simp only [List.setIfInBounds_toArray, List.set_cons_zero, List.set_cons_succ]
    refine takeH (i := 1) (v := ?vv2) 54 rfl rfl (by kernel_rfl) (by kernel_rfl) (by kernel_rfl) (fun _ _ _ h => h) (Or.inl ⟨by kernel_rfl, ?yy2⟩) (by assumption) ?_
    case yy2 =>
      intro wq hSw
      have c0_0 : wq.cell? ⟨w.heap.size, 0, none⟩ = some (.int .i64 5) := (hSw).cell 0
      have c0_1 : wq.cell? ⟨w.heap.size, 1, none⟩ = some (.string (bs t)) := (hSw).cell 1
      have c0_2 : wq.cell? ⟨w.heap.size, 2, none⟩ = some (.int .i64 n) := (hSw).cell 2
      have c0_3 : wq.cell? ⟨w.heap.size, 3, none⟩ = some (.int .i64 ln) := (hSw).cell 3
      clear hSw
      go_simp
      (try with_reducible rfl)
    simp only [List.setIfInBounds_toArray, List.set_cons_zero, List.set_cons_succ]
    refine takeH (i := 2) (v := ?vv3) 55 rfl rfl (by kernel_rfl) (by kernel_rfl) (by kernel_rfl) (fun _ _ _ h => h) (Or.inl ⟨by kernel_rfl, ?yy3⟩) (by assumption) ?_
    case yy3 => intro w hSw; (try dsimp only at hSw); go_simp; (try with_reducible rfl)
    simp only [List.setIfInBounds_toArray, List.set_cons_zero, List.set_cons_succ]
    refine takeH (i := 3) (v := ?vv4) 56 rfl rfl (by kernel_rfl) (by kernel_rfl) (by kernel_rfl) (fun _ _ _ h => h) (Or.inl ⟨by kernel_rfl, ?yy4⟩) (by assumption) ?_
    case yy4 => intro w hSw; (try dsimp only at hSw); go_simp; (try with_reducible rfl)
    simp only [List.setIfInBounds_toArray, List.set_cons_zero, List.set_cons_succ]
    refine takeH (i := 4) (v := undef) 57 rfl rfl (by kernel_rfl) (by kernel_rfl) (by kernel_rfl) (fun _ _ _ h => h) (Or.inr ⟨by kernel_rfl, rfl⟩) (by assumption) ?_
    simp only [List.setIfInBounds_toArray, List.set_cons_zero, List.set_cons_succ]
    refine takeH (i := 5) (v := undef) 58 rfl rfl (by kernel_rfl) (by kernel_rfl) (by kernel_rfl) (fun _ _ _ h => h) (Or.inr ⟨by kernel_rfl, rfl⟩) (by assumption) ?_
    simp only [List.setIfInBounds_toArray, List.set_cons_zero, List.set_cons_succ]
    refine takeH (i := 6) (v := undef) 59 rfl rfl (by kernel_rfl) (by kernel_rfl) (by kernel_rfl) (fun _ _ _ h => h) (Or.inr ⟨by kernel_rfl, rfl⟩) (by assumption) ?_
    simp only [List.setIfInBounds_toArray, List.set_cons_zero, List.set_cons_succ]
    refine takeH (i := 7) (v := undef) 60 rfl rfl (by kernel_rfl) (by kernel_rfl) (by kernel_rfl) (fun _ _ _ h => h) (Or.inr ⟨by kernel_rfl, rfl⟩) (by assumption) ?_
    simp only [List.setIfInBounds_toArray, List.set_cons_zero, List.set_cons_succ]
    refine takeH (i := 8) (v := undef) 61 rfl rfl (by kernel_rfl) (by kernel_rfl) (by kernel_rfl) (fun _ _ _ h => h) (Or.inr ⟨by kernel_rfl, rfl⟩) (by assumption) ?_
    simp only [List.setIfInBounds_toArray, List.set_cons_zero, List.set_cons_succ]
    refine takeH (i := 9) (v := undef) 62 rfl rfl (by kernel_rfl) (by kernel_rfl) (by kernel_rfl) (fun _ _ _ h => h) (Or.inr ⟨by kernel_rfl, rfl⟩) (by assumption) ?_
    simp only [List.setIfInBounds_toArray, List.set_cons_zero, List.set_cons_succ]
    refine takeH (i := 10) (v := ?vv5) 63 rfl rfl (by kernel_rfl) (by kernel_rfl) (by kernel_rfl) (fun _ _ _ h => h) (Or.inl ⟨by kernel_rfl, ?yy5⟩) (by assumption) ?_
    case yy5 => intro w hSw; (try dsimp only at hSw); go_simp; (try with_reducible rfl)
    simp only [List.setIfInBounds_toArray, List.set_cons_zero, List.set_cons_succ]
    refine takeH (i := 11) (v := ?vv6) 64 rfl rfl (by kernel_rfl) (by kernel_rfl) (by kernel_rfl) (fun _ _ _ h => h) (Or.inl ⟨by kernel_rfl, ?yy6⟩) (by assumption) ?_
    case yy6 => intro w hSw; (try dsimp only at hSw); go_simp; (try with_reducible rfl)
    simp only [List.setIfInBounds_toArray, List.set_cons_zero, List.set_cons_succ]
    refine takeH (i := 12) (v := undef) 65 rfl rfl (by kernel_rfl) (by kernel_rfl) (by kernel_rfl) (fun _ _ _ h => h) (Or.inr ⟨by kernel_rfl, rfl⟩) (by assumption) ?_
    simp only [List.setIfInBounds_toArray, List.set_cons_zero, List.set_cons_succ]
    refine takeH (i := 13) (v := undef) 66 rfl rfl (by kernel_rfl) (by kernel_rfl) (by kernel_rfl) (fun _ _ _ h => h) (Or.inr ⟨by kernel_rfl, rfl⟩) (by assumption) ?_
    simp only [List.setIfInBounds_toArray, List.set_cons_zero, List.set_cons_succ]
    refine takeH (i := 14) (v := undef) 67 rfl rfl (by kernel_rfl) (by kernel_rfl) (by kernel_rfl) (fun _ _ _ h => h) (Or.inr ⟨by kernel_rfl, rfl⟩) (by assumption) ?_
    simp only [List.setIfInBounds_toArray, List.set_cons_zero, List.set_cons_succ]
    refine takeH (i := 15) (v := ?vv7) 68 rfl rfl (by kernel_rfl) (by kernel_rfl) (by kernel_rfl) (fun _ _ _ h => h) (Or.inl ⟨by kernel_rfl, ?yy7⟩) (by assumption) ?_
    case yy7 => intro w hSw; (try dsimp only at hSw); go_simp; (try with_reducible rfl)
    simp only [List.setIfInBounds_toArray, List.set_cons_zero, List.set_cons_succ]
    refine takeH (i := 16) (v := ?vv8) 2 rfl rfl (by kernel_rfl) (by kernel_rfl) (by kernel_rfl) (fun _ _ _ h => h) (Or.inl ⟨by kernel_rfl, ?yy8⟩) (by assumption) ?_
    case yy8 => intro w hSw; (try dsimp only at hSw); go_simp; (try with_reducible rfl)
    simp only [List.setIfInBounds_toArray, List.set_cons_zero, List.set_cons_succ]
    refine wpAnyH_done (by kernel_rfl) ?_ _
    have hd := (Below.refl v0.heap.size v0).drew
    go_wp2_with fail
    go_ret
    exact ⟨rfl, btrans HB.out HB.out.size hd⟩
  have e1 : t.isEmpty = false := by cases t with | nil => exact absurd rfl ht | cons c r => rfl
  have e2 : (t == []) = false := by rw [beq_eq_false_iff_ne]; exact ht
  have hms := mk_self t
  obtain ⟨m, hm⟩ : ∃ m, mkS t = m := ⟨_, rfl⟩
  rw [hm] at hms
  by_cases hs : m = t
  · have e3 : (m == t) = true := by rw [hs]; simp
    rw [decide_eq_true (hms.2 ⟨ht, hs⟩), Bool.true_and]
    have HM := Lib.hid hm; have HT := Lib.hid ht; have HS := Lib.hid hs; clear hm ht hs hms
    have hb0 := ((Below.refl w.heap.size w).alloc (Nat.le_refl _) (.cells #[.int .i64 5, .string (bs t), .int .i64 n, .int .i64 ln] 37))
    have h_HX := (Bx.new w #[.int .i64 5, .string (bs t), .int .i64 n, .int .i64 ln] 37)
    have HB := Lib.hid hb0; have HX := Lib.hid h_HX
    clear hb0 h_HX
    go_enter Tryd.func40, Tryd.ntmps40
    go_upto_region 1 with (fail)
    generalize hW0 : w.alloc (.cells #[.int .i64 5, .string (bs t), .int .i64 n, .int .i64 ln] 37) = v0 at HB HX ⊢
    clear hW0
    have x0 : v0.cell? ⟨w.heap.size, 0, none⟩ = some (.int .i64 5) := HX.out.cell 0
    have x1 : v0.cell? ⟨w.heap.size, 1, none⟩ = some (.string (bs t)) := HX.out.cell 1
    have x2 : v0.cell? ⟨w.heap.size, 2, none⟩ = some (.int .i64 n) := HX.out.cell 2
    have x3 : v0.cell? ⟨w.heap.size, 3, none⟩ = some (.int .i64 ln) := HX.out.cell 3
    go_upto_region 11 with (fail)
    have hs0 : Bx w.heap.size #[.int .i64 5, .string (bs t), .int .i64 n, .int .i64 ln] 37 v0.drew := HX.out
    have HS0 := Lib.hid hs0; clear hs0
    clear x0 x1 x2 x3
    go_wp2_with fail
    refine wp_region_held_drew (S := (fun w' => Bx w.heap.size #[.int .i64 5, .string (bs t), .int .i64 n, .int .i64 ln] 37 w')) (by kernel_rfl) ?_ (fun hHeld => ?_)
    · exact HS0.out
    refine takeH (i := 0) (v := ?vv9) 53 rfl rfl (by kernel_rfl) (by kernel_rfl) (by kernel_rfl) (fun _ _ _ h => h) (Or.inl ⟨by kernel_rfl, ?yy9⟩) (by assumption) ?_
    case yy9 => intro w hSw; (try dsimp only at hSw); go_simp; (try with_reducible rfl)
    simp only [List.setIfInBounds_toArray, List.set_cons_zero, List.set_cons_succ]
    refine takeH (i := 1) (v := ?vv10) 54 rfl rfl (by kernel_rfl) (by kernel_rfl) (by kernel_rfl) (fun _ _ _ h => h) (Or.inl ⟨by kernel_rfl, ?yy10⟩) (by assumption) ?_
    case yy10 =>
      intro wq hSw
      have c0_0 : wq.cell? ⟨w.heap.size, 0, none⟩ = some (.int .i64 5) := (hSw).cell 0
      have c0_1 : wq.cell? ⟨w.heap.size, 1, none⟩ = some (.string (bs t)) := (hSw).cell 1
      have c0_2 : wq.cell? ⟨w.heap.size, 2, none⟩ = some (.int .i64 n) := (hSw).cell 2
      have c0_3 : wq.cell? ⟨w.heap.size, 3, none⟩ = some (.int .i64 ln) := (hSw).cell 3
      clear hSw
      go_simp
      (try with_reducible rfl)
    simp only [List.setIfInBounds_toArray, List.set_cons_zero, List.set_cons_succ]
    refine takeH (i := 2) (v := ?vv11) 55 rfl rfl (by kernel_rfl) (by kernel_rfl) (by kernel_rfl) (fun _ _ _ h => h) (Or.inl ⟨by kernel_rfl, ?yy11⟩) (by assumption) ?_
    case yy11 => intro w hSw; (try dsimp only at hSw); go_simp; (try with_reducible rfl)
    simp only [List.setIfInBounds_toArray, List.set_cons_zero, List.set_cons_succ]
    refine takeH (i := 3) (v := ?vv12) 56 rfl rfl (by kernel_rfl) (by kernel_rfl) (by kernel_rfl) (fun _ _ _ h => h) (Or.inl ⟨by kernel_rfl, ?yy12⟩) (by assumption) ?_
    case yy12 => intro w hSw; (try dsimp only at hSw); go_simp; (try with_reducible rfl)
    simp only [List.setIfInBounds_toArray, List.set_cons_zero, List.set_cons_succ]
    refine takeH (i := 4) (v := ?vv13) 57 rfl rfl (by kernel_rfl) (by kernel_rfl) (by kernel_rfl) (fun _ _ _ h => h) (Or.inl ⟨by kernel_rfl, ?yy13⟩) (by assumption) ?_
    case yy13 => intro w hSw; (try dsimp only at hSw); go_simp; (try with_reducible rfl)
    simp only [List.setIfInBounds_toArray, List.set_cons_zero, List.set_cons_succ]
    refine takeH (i := 5) (v := ?vv14) 58 rfl rfl (by kernel_rfl) (by kernel_rfl) (by kernel_rfl) (fun _ _ _ h => h) (Or.inl ⟨by kernel_rfl, ?yy14⟩) (by assumption) ?_
    case yy14 =>
      intro wq hSw
      have c0_0 : wq.cell? ⟨w.heap.size, 0, none⟩ = some (.int .i64 5) := (hSw).cell 0
      have c0_1 : wq.cell? ⟨w.heap.size, 1, none⟩ = some (.string (bs t)) := (hSw).cell 1
      have c0_2 : wq.cell? ⟨w.heap.size, 2, none⟩ = some (.int .i64 n) := (hSw).cell 2
      have c0_3 : wq.cell? ⟨w.heap.size, 3, none⟩ = some (.int .i64 ln) := (hSw).cell 3
      clear hSw
      go_simp
      (try with_reducible rfl)
    simp only [List.setIfInBounds_toArray, List.set_cons_zero, List.set_cons_succ]
    refine takeH (i := 7) (v := ?vv15) 60 rfl rfl (by kernel_rfl) (by kernel_rfl) (by kernel_rfl) (fun _ _ _ h => h) (Or.inl ⟨by kernel_rfl, ?yy15⟩) (by assumption) ?_
    case yy15 => intro w hSw; (try dsimp only at hSw); go_simp; (try with_reducible rfl)
    simp only [List.setIfInBounds_toArray, List.set_cons_zero, List.set_cons_succ]
    refine takeH (i := 8) (v := ?vv16) 61 rfl rfl (by kernel_rfl) (by kernel_rfl) (by kernel_rfl) (fun _ _ _ h => h) (Or.inl ⟨by kernel_rfl, ?yy16⟩) (by assumption) ?_
    case yy16 =>
      intro wq hSw
      have c0_0 : wq.cell? ⟨w.heap.size, 0, none⟩ = some (.int .i64 5) := (hSw).cell 0
      have c0_1 : wq.cell? ⟨w.heap.size, 1, none⟩ = some (.string (bs t)) := (hSw).cell 1
      have c0_2 : wq.cell? ⟨w.heap.size, 2, none⟩ = some (.int .i64 n) := (hSw).cell 2
      have c0_3 : wq.cell? ⟨w.heap.size, 3, none⟩ = some (.int .i64 ln) := (hSw).cell 3
      clear hSw
      go_simp
      (try with_reducible rfl)
    simp only [List.setIfInBounds_toArray, List.set_cons_zero, List.set_cons_succ]
    refine wpAnyH_ready (rs := [6]) (by kernel_rfl) (by simp) ?_
    refine (AllReadyH.cons rfl (fun K hK => ?_) AllReadyH.nil)
    go_simp
    (refine (mark_any t hl _).mono ?_; rw [HM.out]; rintro er u1 ⟨rfl, rfl⟩)
    (try go_wp2_with fail)
    refine hK.out _ _ ?_ (fun hHeld => ?_)
    · exact hHeld
    clear hK K
    (try simp only [Act.put, List.setIfInBounds_toArray, List.set_cons_zero, List.set_cons_succ])
    refine takeH (i := 9) (v := ?vv17) 62 rfl rfl (by kernel_rfl) (by kernel_rfl) (by kernel_rfl) (fun _ _ _ h => h) (Or.inl ⟨by kernel_rfl, ?yy17⟩) (by assumption) ?_
    case yy17 => intro w hSw; (try dsimp only at hSw); go_simp; (try with_reducible rfl)
    simp only [List.setIfInBounds_toArray, List.set_cons_zero, List.set_cons_succ]
    refine takeH (i := 10) (v := ?vv18) 63 rfl rfl (by kernel_rfl) (by kernel_rfl) (by kernel_rfl) (fun _ _ _ h => h) (Or.inl ⟨by kernel_rfl, ?yy18⟩) (by assumption) ?_
    case yy18 => intro w hSw; (try dsimp only at hSw); go_simp; (try with_reducible rfl)
    simp only [List.setIfInBounds_toArray, List.set_cons_zero, List.set_cons_succ]
    refine takeH (i := 11) (v := ?vv19) 64 rfl rfl (by kernel_rfl) (by kernel_rfl) (by kernel_rfl) (fun _ _ _ h => h) (Or.inl ⟨by kernel_rfl, ?yy19⟩) (by assumption) ?_
    case yy19 => intro w hSw; (try dsimp only at hSw); go_simp; (try with_reducible rfl)
    simp only [List.setIfInBounds_toArray, List.set_cons_zero, List.set_cons_succ]
    refine takeH (i := 12) (v := ?vv20) 65 rfl rfl (by kernel_rfl) (by kernel_rfl) (by kernel_rfl) (fun _ _ _ h => h) (Or.inl ⟨by kernel_rfl, ?yy20⟩) (by assumption) ?_
    case yy20 => intro w hSw; (try dsimp only at hSw); go_simp; (try with_reducible rfl)
    simp only [List.setIfInBounds_toArray, List.set_cons_zero, List.set_cons_succ]
    refine takeH (i := 13) (v := ?vv21) 66 rfl rfl (by kernel_rfl) (by kernel_rfl) (by kernel_rfl) (fun _ _ _ h => h) (Or.inl ⟨by kernel_rfl, ?yy21⟩) (by assumption) ?_
    case yy21 =>
      intro wq hSw
      have c0_0 : wq.cell? ⟨w.heap.size, 0, none⟩ = some (.int .i64 5) := (hSw).cell 0
      have c0_1 : wq.cell? ⟨w.heap.size, 1, none⟩ = some (.string (bs t)) := (hSw).cell 1
      have c0_2 : wq.cell? ⟨w.heap.size, 2, none⟩ = some (.int .i64 n) := (hSw).cell 2
      have c0_3 : wq.cell? ⟨w.heap.size, 3, none⟩ = some (.int .i64 ln) := (hSw).cell 3
      clear hSw
      go_simp
      (try with_reducible rfl)
    simp only [List.setIfInBounds_toArray, List.set_cons_zero, List.set_cons_succ]
    refine takeH (i := 14) (v := ?vv22) 67 rfl rfl (by kernel_rfl) (by kernel_rfl) (by kernel_rfl) (fun _ _ _ h => h) (Or.inl ⟨by kernel_rfl, ?yy22⟩) (by assumption) ?_
    case yy22 => intro w hSw; (try dsimp only at hSw); go_simp; (try with_reducible rfl)
    simp only [List.setIfInBounds_toArray, List.set_cons_zero, List.set_cons_succ]
    refine takeH (i := 15) (v := ?vv23) 68 rfl rfl (by kernel_rfl) (by kernel_rfl) (by kernel_rfl) (fun _ _ _ h => h) (Or.inl ⟨by kernel_rfl, ?yy23⟩) (by assumption) ?_
    case yy23 => intro w hSw; (try dsimp only at hSw); go_simp; (try with_reducible rfl)
    simp only [List.setIfInBounds_toArray, List.set_cons_zero, List.set_cons_succ]
    refine takeH (i := 16) (v := ?vv24) 2 rfl rfl (by kernel_rfl) (by kernel_rfl) (by kernel_rfl) (fun _ _ _ h => h) (Or.inl ⟨by kernel_rfl, ?yy24⟩) (by assumption) ?_
    case yy24 => intro w hSw; (try dsimp only at hSw); go_simp; (try with_reducible rfl)
    simp only [List.setIfInBounds_toArray, List.set_cons_zero, List.set_cons_succ]
    refine wpAnyH_done (by kernel_rfl) ?_ _
    have hd := (Below.refl v0.heap.size v0).drew
    go_wp2_with fail
    go_ret
    exact ⟨rfl, btrans HB.out HB.out.size hd⟩
  · have e3 : (m == t) = false := by rw [beq_eq_false_iff_ne]; exact hs
    rw [decide_eq_false (fun h => hs (hms.1 h).2), Bool.false_and]
    have HM := Lib.hid hm; have HT := Lib.hid ht; have HS := Lib.hid hs; clear hm ht hs hms
    have hb0 := ((Below.refl w.heap.size w).alloc (Nat.le_refl _) (.cells #[.int .i64 5, .string (bs t), .int .i64 n, .int .i64 ln] 37))
    have h_HX := (Bx.new w #[.int .i64 5, .string (bs t), .int .i64 n, .int .i64 ln] 37)
    have HB := Lib.hid hb0; have HX := Lib.hid h_HX
    clear hb0 h_HX
    go_enter Tryd.func40, Tryd.ntmps40
    go_upto_region 1 with (fail)
    generalize hW0 : w.alloc (.cells #[.int .i64 5, .string (bs t), .int .i64 n, .int .i64 ln] 37) = v0 at HB HX ⊢
    clear hW0
    have x0 : v0.cell? ⟨w.heap.size, 0, none⟩ = some (.int .i64 5) := HX.out.cell 0
    have x1 : v0.cell? ⟨w.heap.size, 1, none⟩ = some (.string (bs t)) := HX.out.cell 1
    have x2 : v0.cell? ⟨w.heap.size, 2, none⟩ = some (.int .i64 n) := HX.out.cell 2
    have x3 : v0.cell? ⟨w.heap.size, 3, none⟩ = some (.int .i64 ln) := HX.out.cell 3
    go_upto_region 11 with (fail)
    have hs0 : Bx w.heap.size #[.int .i64 5, .string (bs t), .int .i64 n, .int .i64 ln] 37 v0.drew := HX.out
    have HS0 := Lib.hid hs0; clear hs0
    clear x0 x1 x2 x3
    go_wp2_with fail
    refine wp_region_held_drew (S := (fun w' => Bx w.heap.size #[.int .i64 5, .string (bs t), .int .i64 n, .int .i64 ln] 37 w')) (by kernel_rfl) ?_ (fun hHeld => ?_)
    · exact HS0.out
    refine takeH (i := 0) (v := ?vv25) 53 rfl rfl (by kernel_rfl) (by kernel_rfl) (by kernel_rfl) (fun _ _ _ h => h) (Or.inl ⟨by kernel_rfl, ?yy25⟩) (by assumption) ?_
    case yy25 => intro w hSw; (try dsimp only at hSw); go_simp; (try with_reducible rfl)
    simp only [List.setIfInBounds_toArray, List.set_cons_zero, List.set_cons_succ]
    refine takeH (i := 1) (v := ?vv26) 54 rfl rfl (by kernel_rfl) (by kernel_rfl) (by kernel_rfl) (fun _ _ _ h => h) (Or.inl ⟨by kernel_rfl, ?yy26⟩) (by assumption) ?_
    case yy26 =>
      intro wq hSw
      have c0_0 : wq.cell? ⟨w.heap.size, 0, none⟩ = some (.int .i64 5) := (hSw).cell 0
      have c0_1 : wq.cell? ⟨w.heap.size, 1, none⟩ = some (.string (bs t)) := (hSw).cell 1
      have c0_2 : wq.cell? ⟨w.heap.size, 2, none⟩ = some (.int .i64 n) := (hSw).cell 2
      have c0_3 : wq.cell? ⟨w.heap.size, 3, none⟩ = some (.int .i64 ln) := (hSw).cell 3
      clear hSw
      go_simp
      (try with_reducible rfl)
    simp only [List.setIfInBounds_toArray, List.set_cons_zero, List.set_cons_succ]
    refine takeH (i := 2) (v := ?vv27) 55 rfl rfl (by kernel_rfl) (by kernel_rfl) (by kernel_rfl) (fun _ _ _ h => h) (Or.inl ⟨by kernel_rfl, ?yy27⟩) (by assumption) ?_
    case yy27 => intro w hSw; (try dsimp only at hSw); go_simp; (try with_reducible rfl)
    simp only [List.setIfInBounds_toArray, List.set_cons_zero, List.set_cons_succ]
    refine takeH (i := 3) (v := ?vv28) 56 rfl rfl (by kernel_rfl) (by kernel_rfl) (by kernel_rfl) (fun _ _ _ h => h) (Or.inl ⟨by kernel_rfl, ?yy28⟩) (by assumption) ?_
    case yy28 => intro w hSw; (try dsimp only at hSw); go_simp; (try with_reducible rfl)
    simp only [List.setIfInBounds_toArray, List.set_cons_zero, List.set_cons_succ]
    refine takeH (i := 4) (v := ?vv29) 57 rfl rfl (by kernel_rfl) (by kernel_rfl) (by kernel_rfl) (fun _ _ _ h => h) (Or.inl ⟨by kernel_rfl, ?yy29⟩) (by assumption) ?_
    case yy29 => intro w hSw; (try dsimp only at hSw); go_simp; (try with_reducible rfl)
    simp only [List.setIfInBounds_toArray, List.set_cons_zero, List.set_cons_succ]
    refine takeH (i := 5) (v := ?vv30) 58 rfl rfl (by kernel_rfl) (by kernel_rfl) (by kernel_rfl) (fun _ _ _ h => h) (Or.inl ⟨by kernel_rfl, ?yy30⟩) (by assumption) ?_
    case yy30 =>
      intro wq hSw
      have c0_0 : wq.cell? ⟨w.heap.size, 0, none⟩ = some (.int .i64 5) := (hSw).cell 0
      have c0_1 : wq.cell? ⟨w.heap.size, 1, none⟩ = some (.string (bs t)) := (hSw).cell 1
      have c0_2 : wq.cell? ⟨w.heap.size, 2, none⟩ = some (.int .i64 n) := (hSw).cell 2
      have c0_3 : wq.cell? ⟨w.heap.size, 3, none⟩ = some (.int .i64 ln) := (hSw).cell 3
      clear hSw
      go_simp
      (try with_reducible rfl)
    simp only [List.setIfInBounds_toArray, List.set_cons_zero, List.set_cons_succ]
    refine takeH (i := 7) (v := ?vv31) 60 rfl rfl (by kernel_rfl) (by kernel_rfl) (by kernel_rfl) (fun _ _ _ h => h) (Or.inl ⟨by kernel_rfl, ?yy31⟩) (by assumption) ?_
    case yy31 => intro w hSw; (try dsimp only at hSw); go_simp; (try with_reducible rfl)
    simp only [List.setIfInBounds_toArray, List.set_cons_zero, List.set_cons_succ]
    refine takeH (i := 8) (v := ?vv32) 61 rfl rfl (by kernel_rfl) (by kernel_rfl) (by kernel_rfl) (fun _ _ _ h => h) (Or.inl ⟨by kernel_rfl, ?yy32⟩) (by assumption) ?_
    case yy32 =>
      intro wq hSw
      have c0_0 : wq.cell? ⟨w.heap.size, 0, none⟩ = some (.int .i64 5) := (hSw).cell 0
      have c0_1 : wq.cell? ⟨w.heap.size, 1, none⟩ = some (.string (bs t)) := (hSw).cell 1
      have c0_2 : wq.cell? ⟨w.heap.size, 2, none⟩ = some (.int .i64 n) := (hSw).cell 2
      have c0_3 : wq.cell? ⟨w.heap.size, 3, none⟩ = some (.int .i64 ln) := (hSw).cell 3
      clear hSw
      go_simp
      (try with_reducible rfl)
    simp only [List.setIfInBounds_toArray, List.set_cons_zero, List.set_cons_succ]
    refine wpAnyH_ready (rs := [6]) (by kernel_rfl) (by simp) ?_
    refine (AllReadyH.cons rfl (fun K hK => ?_) AllReadyH.nil)
    go_simp
    (refine (mark_any t hl _).mono ?_; rw [HM.out]; rintro er u1 ⟨rfl, rfl⟩)
    (try go_wp2_with fail)
    refine hK.out _ _ ?_ (fun hHeld => ?_)
    · exact hHeld
    clear hK K
    (try simp only [Act.put, List.setIfInBounds_toArray, List.set_cons_zero, List.set_cons_succ])
    refine takeH (i := 9) (v := ?vv33) 62 rfl rfl (by kernel_rfl) (by kernel_rfl) (by kernel_rfl) (fun _ _ _ h => h) (Or.inl ⟨by kernel_rfl, ?yy33⟩) (by assumption) ?_
    case yy33 => intro w hSw; (try dsimp only at hSw); go_simp; (try with_reducible rfl)
    simp only [List.setIfInBounds_toArray, List.set_cons_zero, List.set_cons_succ]
    refine takeH (i := 10) (v := ?vv34) 63 rfl rfl (by kernel_rfl) (by kernel_rfl) (by kernel_rfl) (fun _ _ _ h => h) (Or.inl ⟨by kernel_rfl, ?yy34⟩) (by assumption) ?_
    case yy34 => intro w hSw; (try dsimp only at hSw); go_simp; (try with_reducible rfl)
    simp only [List.setIfInBounds_toArray, List.set_cons_zero, List.set_cons_succ]
    refine takeH (i := 11) (v := ?vv35) 64 rfl rfl (by kernel_rfl) (by kernel_rfl) (by kernel_rfl) (fun _ _ _ h => h) (Or.inl ⟨by kernel_rfl, ?yy35⟩) (by assumption) ?_
    case yy35 => intro w hSw; (try dsimp only at hSw); go_simp; (try with_reducible rfl)
    simp only [List.setIfInBounds_toArray, List.set_cons_zero, List.set_cons_succ]
    refine takeH (i := 12) (v := undef) 65 rfl rfl (by kernel_rfl) (by kernel_rfl) (by kernel_rfl) (fun _ _ _ h => h) (Or.inr ⟨by kernel_rfl, rfl⟩) (by assumption) ?_
    simp only [List.setIfInBounds_toArray, List.set_cons_zero, List.set_cons_succ]
    refine takeH (i := 13) (v := undef) 66 rfl rfl (by kernel_rfl) (by kernel_rfl) (by kernel_rfl) (fun _ _ _ h => h) (Or.inr ⟨by kernel_rfl, rfl⟩) (by assumption) ?_
    simp only [List.setIfInBounds_toArray, List.set_cons_zero, List.set_cons_succ]
    refine takeH (i := 14) (v := undef) 67 rfl rfl (by kernel_rfl) (by kernel_rfl) (by kernel_rfl) (fun _ _ _ h => h) (Or.inr ⟨by kernel_rfl, rfl⟩) (by assumption) ?_
    simp only [List.setIfInBounds_toArray, List.set_cons_zero, List.set_cons_succ]
    refine takeH (i := 15) (v := ?vv36) 68 rfl rfl (by kernel_rfl) (by kernel_rfl) (by kernel_rfl) (fun _ _ _ h => h) (Or.inl ⟨by kernel_rfl, ?yy36⟩) (by assumption) ?_
    case yy36 => intro w hSw; (try dsimp only at hSw); go_simp; (try with_reducible rfl)
    simp only [List.setIfInBounds_toArray, List.set_cons_zero, List.set_cons_succ]
    refine takeH (i := 16) (v := ?vv37) 2 rfl rfl (by kernel_rfl) (by kernel_rfl) (by kernel_rfl) (fun _ _ _ h => h) (Or.inl ⟨by kernel_rfl, ?yy37⟩) (by assumption) ?_
    case yy37 => intro w hSw; (try dsimp only at hSw); go_simp; (try with_reducible rfl)
    simp only [List.setIfInBounds_toArray, List.set_cons_zero, List.set_cons_succ]
    refine wpAnyH_done (by kernel_rfl) ?_ _
    have hd := (Below.refl v0.heap.size v0).drew
    go_wp2_with fail
    go_ret
    exact ⟨rfl, btrans HB.out HB.out.size hd⟩
set_option maxRecDepth 100000 in
set_option maxHeartbeats 16000000 in
theorem RLValid_any (x : Tk) (hl : x.t.length ≤ 1000000) (w : World) :
    Calls Tryd.prog 24 #[.agg (tkV x)] w fun e w' => e = .returned (.bool (valT x)) ∧ Below w.heap.size w w' := by
  obtain ⟨k, t, n, ln⟩ := x
  simp only at hl
  simp only [tkV]
  obtain ⟨q, hq⟩ : ∃ q, decide (n = 0) = q := ⟨_, rfl⟩
  have tq : (n == 0) = q := hq
  by_cases h1 : k = 1
  · subst h1
    rw [val_1, hq]
    have HQ := Lib.hid hq; clear hq
    cases hb : isNm t with
    | true =>
      rw [Bool.true_and]
      have HV := Lib.hid hb; clear hb
      have hb0 := ((Below.refl w.heap.size w).alloc (Nat.le_refl _) (.cells #[.int .i64 1, .string (bs t), .int .i64 n, .int .i64 ln] 37))
      have h_HX := (Bx.new w #[.int .i64 1, .string (bs t), .int .i64 n, .int .i64 ln] 37)
      have HB := Lib.hid hb0; have HX := Lib.hid h_HX
      clear hb0 h_HX
      go_enter Tryd.func24, Tryd.ntmps24
      go_upto_region 1 with (fail)
      generalize hW0 : w.alloc (.cells #[.int .i64 1, .string (bs t), .int .i64 n, .int .i64 ln] 37) = v0 at HB HX ⊢
      clear hW0
      have x0 : v0.cell? ⟨w.heap.size, 0, none⟩ = some (.int .i64 1) := HX.out.cell 0
      have x1 : v0.cell? ⟨w.heap.size, 1, none⟩ = some (.string (bs t)) := HX.out.cell 1
      have x2 : v0.cell? ⟨w.heap.size, 2, none⟩ = some (.int .i64 n) := HX.out.cell 2
      have x3 : v0.cell? ⟨w.heap.size, 3, none⟩ = some (.int .i64 ln) := HX.out.cell 3
      go_wp2_with fail
      refine (RIsName_any t hl _).mono ?_
      rw [HV.out]
      rintro er w1 ⟨rfl, hb1⟩
      clear x0 x1 x2 x3
      have HX := Lib.hid (HX.out.call hb1); have HB := Lib.hid (btrans HB.out HB.out.size hb1); clear hb1
      have x0 : w1.cell? ⟨w.heap.size, 0, none⟩ = some (.int .i64 1) := HX.out.cell 0
      have x1 : w1.cell? ⟨w.heap.size, 1, none⟩ = some (.string (bs t)) := HX.out.cell 1
      have x2 : w1.cell? ⟨w.heap.size, 2, none⟩ = some (.int .i64 n) := HX.out.cell 2
      have x3 : w1.cell? ⟨w.heap.size, 3, none⟩ = some (.int .i64 ln) := HX.out.cell 3
      go_wp2
      go_ret
      exact ⟨rfl, HB.out⟩
    | false =>
      rw [Bool.false_and]
      have HV := Lib.hid hb; clear hb
      have hb0 := ((Below.refl w.heap.size w).alloc (Nat.le_refl _) (.cells #[.int .i64 1, .string (bs t), .int .i64 n, .int .i64 ln] 37))
      have h_HX := (Bx.new w #[.int .i64 1, .string (bs t), .int .i64 n, .int .i64 ln] 37)
      have HB := Lib.hid hb0; have HX := Lib.hid h_HX
      clear hb0 h_HX
      go_enter Tryd.func24, Tryd.ntmps24
      go_upto_region 1 with (fail)
      generalize hW0 : w.alloc (.cells #[.int .i64 1, .string (bs t), .int .i64 n, .int .i64 ln] 37) = v0 at HB HX ⊢
      clear hW0
      have x0 : v0.cell? ⟨w.heap.size, 0, none⟩ = some (.int .i64 1) := HX.out.cell 0
      have x1 : v0.cell? ⟨w.heap.size, 1, none⟩ = some (.string (bs t)) := HX.out.cell 1
      have x2 : v0.cell? ⟨w.heap.size, 2, none⟩ = some (.int .i64 n) := HX.out.cell 2
      have x3 : v0.cell? ⟨w.heap.size, 3, none⟩ = some (.int .i64 ln) := HX.out.cell 3
      go_wp2_with fail
      refine (RIsName_any t hl _).mono ?_
      rw [HV.out]
      rintro er w1 ⟨rfl, hb1⟩
      clear x0 x1 x2 x3
      have HX := Lib.hid (HX.out.call hb1); have HB := Lib.hid (btrans HB.out HB.out.size hb1); clear hb1
      have x0 : w1.cell? ⟨w.heap.size, 0, none⟩ = some (.int .i64 1) := HX.out.cell 0
      have x1 : w1.cell? ⟨w.heap.size, 1, none⟩ = some (.string (bs t)) := HX.out.cell 1
      have x2 : w1.cell? ⟨w.heap.size, 2, none⟩ = some (.int .i64 n) := HX.out.cell 2
      have x3 : w1.cell? ⟨w.heap.size, 3, none⟩ = some (.int .i64 ln) := HX.out.cell 3
      go_wp2
      go_ret
      exact ⟨rfl, HB.out⟩
  by_cases h2 : k = 2
  · subst h2
    rw [val_2, hq]
    have HQ := Lib.hid hq; clear hq
    cases hb : isKw t with
    | true =>
      rw [Bool.true_and]
      have HV := Lib.hid hb; clear hb
      have hb0 := ((Below.refl w.heap.size w).alloc (Nat.le_refl _) (.cells #[.int .i64 2, .string (bs t), .int .i64 n, .int .i64 ln] 37))
      have h_HX := (Bx.new w #[.int .i64 2, .string (bs t), .int .i64 n, .int .i64 ln] 37)
      have HB := Lib.hid hb0; have HX := Lib.hid h_HX
      clear hb0 h_HX
      go_enter Tryd.func24, Tryd.ntmps24
      go_upto_region 1 with (fail)
      generalize hW0 : w.alloc (.cells #[.int .i64 2, .string (bs t), .int .i64 n, .int .i64 ln] 37) = v0 at HB HX ⊢
      clear hW0
      have x0 : v0.cell? ⟨w.heap.size, 0, none⟩ = some (.int .i64 2) := HX.out.cell 0
      have x1 : v0.cell? ⟨w.heap.size, 1, none⟩ = some (.string (bs t)) := HX.out.cell 1
      have x2 : v0.cell? ⟨w.heap.size, 2, none⟩ = some (.int .i64 n) := HX.out.cell 2
      have x3 : v0.cell? ⟨w.heap.size, 3, none⟩ = some (.int .i64 ln) := HX.out.cell 3
      go_wp2_with fail
      refine (RIsKeyword_any t _).mono ?_
      rw [HV.out]
      rintro er w1 ⟨rfl, hb1⟩
      clear x0 x1 x2 x3
      have HX := Lib.hid (HX.out.call hb1); have HB := Lib.hid (btrans HB.out HB.out.size hb1); clear hb1
      have x0 : w1.cell? ⟨w.heap.size, 0, none⟩ = some (.int .i64 2) := HX.out.cell 0
      have x1 : w1.cell? ⟨w.heap.size, 1, none⟩ = some (.string (bs t)) := HX.out.cell 1
      have x2 : w1.cell? ⟨w.heap.size, 2, none⟩ = some (.int .i64 n) := HX.out.cell 2
      have x3 : w1.cell? ⟨w.heap.size, 3, none⟩ = some (.int .i64 ln) := HX.out.cell 3
      go_wp2
      go_ret
      exact ⟨rfl, HB.out⟩
    | false =>
      rw [Bool.false_and]
      have HV := Lib.hid hb; clear hb
      have hb0 := ((Below.refl w.heap.size w).alloc (Nat.le_refl _) (.cells #[.int .i64 2, .string (bs t), .int .i64 n, .int .i64 ln] 37))
      have h_HX := (Bx.new w #[.int .i64 2, .string (bs t), .int .i64 n, .int .i64 ln] 37)
      have HB := Lib.hid hb0; have HX := Lib.hid h_HX
      clear hb0 h_HX
      go_enter Tryd.func24, Tryd.ntmps24
      go_upto_region 1 with (fail)
      generalize hW0 : w.alloc (.cells #[.int .i64 2, .string (bs t), .int .i64 n, .int .i64 ln] 37) = v0 at HB HX ⊢
      clear hW0
      have x0 : v0.cell? ⟨w.heap.size, 0, none⟩ = some (.int .i64 2) := HX.out.cell 0
      have x1 : v0.cell? ⟨w.heap.size, 1, none⟩ = some (.string (bs t)) := HX.out.cell 1
      have x2 : v0.cell? ⟨w.heap.size, 2, none⟩ = some (.int .i64 n) := HX.out.cell 2
      have x3 : v0.cell? ⟨w.heap.size, 3, none⟩ = some (.int .i64 ln) := HX.out.cell 3
      go_wp2_with fail
      refine (RIsKeyword_any t _).mono ?_
      rw [HV.out]
      rintro er w1 ⟨rfl, hb1⟩
      clear x0 x1 x2 x3
      have HX := Lib.hid (HX.out.call hb1); have HB := Lib.hid (btrans HB.out HB.out.size hb1); clear hb1
      have x0 : w1.cell? ⟨w.heap.size, 0, none⟩ = some (.int .i64 2) := HX.out.cell 0
      have x1 : w1.cell? ⟨w.heap.size, 1, none⟩ = some (.string (bs t)) := HX.out.cell 1
      have x2 : w1.cell? ⟨w.heap.size, 2, none⟩ = some (.int .i64 n) := HX.out.cell 2
      have x3 : w1.cell? ⟨w.heap.size, 3, none⟩ = some (.int .i64 ln) := HX.out.cell 3
      go_wp2
      go_ret
      exact ⟨rfl, HB.out⟩
  by_cases h3 : k = 3
  · subst h3
    rw [val_3]
    obtain ⟨p, hp⟩ : ∃ p, decide (0 ≤ n) = p := ⟨_, rfl⟩
    rw [hp]
    by_cases ht : t = []
    · subst ht
      have hr : (([] : List UInt8) == []) = true := rfl
      rw [hr, Bool.true_and]
      have hb0 := ((Below.refl w.heap.size w).alloc (Nat.le_refl _) (.cells #[.int .i64 3, .string (bs []), .int .i64 n, .int .i64 ln] 37))
      have h_HX := (Bx.new w #[.int .i64 3, .string (bs []), .int .i64 n, .int .i64 ln] 37)
      have HB := Lib.hid hb0; have HX := Lib.hid h_HX
      clear hb0 h_HX
      go_enter Tryd.func24, Tryd.ntmps24
      go_upto_region 1 with (fail)
      generalize hW0 : w.alloc (.cells #[.int .i64 3, .string (bs []), .int .i64 n, .int .i64 ln] 37) = v0 at HB HX ⊢
      clear hW0
      have x0 : v0.cell? ⟨w.heap.size, 0, none⟩ = some (.int .i64 3) := HX.out.cell 0
      have x1 : v0.cell? ⟨w.heap.size, 1, none⟩ = some (.string (bs [])) := HX.out.cell 1
      have x2 : v0.cell? ⟨w.heap.size, 2, none⟩ = some (.int .i64 n) := HX.out.cell 2
      have x3 : v0.cell? ⟨w.heap.size, 3, none⟩ = some (.int .i64 ln) := HX.out.cell 3
      go_wp2
      go_ret
      exact ⟨rfl, HB.out⟩
    · have hr : (t == []) = false := by rw [beq_eq_false_iff_ne]; exact ht
      have hr2 : t.isEmpty = false := by cases t with | nil => exact absurd rfl ht | cons c r => rfl
      rw [hr, Bool.false_and]
      have HT := Lib.hid ht; clear ht
      have hb0 := ((Below.refl w.heap.size w).alloc (Nat.le_refl _) (.cells #[.int .i64 3, .string (bs t), .int .i64 n, .int .i64 ln] 37))
      have h_HX := (Bx.new w #[.int .i64 3, .string (bs t), .int .i64 n, .int .i64 ln] 37)
      have HB := Lib.hid hb0; have HX := Lib.hid h_HX
      clear hb0 h_HX
      go_enter Tryd.func24, Tryd.ntmps24
      go_upto_region 1 with (fail)
      generalize hW0 : w.alloc (.cells #[.int .i64 3, .string (bs t), .int .i64 n, .int .i64 ln] 37) = v0 at HB HX ⊢
      clear hW0
      have x0 : v0.cell? ⟨w.heap.size, 0, none⟩ = some (.int .i64 3) := HX.out.cell 0
      have x1 : v0.cell? ⟨w.heap.size, 1, none⟩ = some (.string (bs t)) := HX.out.cell 1
      have x2 : v0.cell? ⟨w.heap.size, 2, none⟩ = some (.int .i64 n) := HX.out.cell 2
      have x3 : v0.cell? ⟨w.heap.size, 3, none⟩ = some (.int .i64 ln) := HX.out.cell 3
      go_wp2
      go_ret
      exact ⟨rfl, HB.out⟩
  by_cases h4 : k = 4
  · subst h4
    rw [val_4, hq]
    have HQ := Lib.hid hq; clear hq
    by_cases h64 : t.length ≤ 64
    rotate_left
    · have h64' : ¬ (t.length : Int) ≤ 64 := by omega
      rw [decide_eq_false h64, Bool.false_and]
      have hb0 := ((Below.refl w.heap.size w).alloc (Nat.le_refl _) (.cells #[.int .i64 4, .string (bs t), .int .i64 n, .int .i64 ln] 37))
      have h_HX := (Bx.new w #[.int .i64 4, .string (bs t), .int .i64 n, .int .i64 ln] 37)
      have HB := Lib.hid hb0; have HX := Lib.hid h_HX
      clear hb0 h_HX
      go_enter Tryd.func24, Tryd.ntmps24
      go_upto_region 1 with (fail)
      generalize hW0 : w.alloc (.cells #[.int .i64 4, .string (bs t), .int .i64 n, .int .i64 ln] 37) = v0 at HB HX ⊢
      clear hW0
      have x0 : v0.cell? ⟨w.heap.size, 0, none⟩ = some (.int .i64 4) := HX.out.cell 0
      have x1 : v0.cell? ⟨w.heap.size, 1, none⟩ = some (.string (bs t)) := HX.out.cell 1
      have x2 : v0.cell? ⟨w.heap.size, 2, none⟩ = some (.int .i64 n) := HX.out.cell 2
      have x3 : v0.cell? ⟨w.heap.size, 3, none⟩ = some (.int .i64 ln) := HX.out.cell 3
      go_wp2
      go_ret
      exact ⟨rfl, HB.out⟩
    have h64' : (t.length : Int) ≤ 64 := by omega
    rw [decide_eq_true h64, Bool.true_and]
    cases hb : t.all okc with
    | true =>
      rw [Bool.true_and]
      have HV := Lib.hid hb; clear hb
      have hb0 := ((Below.refl w.heap.size w).alloc (Nat.le_refl _) (.cells #[.int .i64 4, .string (bs t), .int .i64 n, .int .i64 ln] 37))
      have h_HX := (Bx.new w #[.int .i64 4, .string (bs t), .int .i64 n, .int .i64 ln] 37)
      have HB := Lib.hid hb0; have HX := Lib.hid h_HX
      clear hb0 h_HX
      go_enter Tryd.func24, Tryd.ntmps24
      go_upto_region 1 with (fail)
      generalize hW0 : w.alloc (.cells #[.int .i64 4, .string (bs t), .int .i64 n, .int .i64 ln] 37) = v0 at HB HX ⊢
      clear hW0
      have x0 : v0.cell? ⟨w.heap.size, 0, none⟩ = some (.int .i64 4) := HX.out.cell 0
      have x1 : v0.cell? ⟨w.heap.size, 1, none⟩ = some (.string (bs t)) := HX.out.cell 1
      have x2 : v0.cell? ⟨w.heap.size, 2, none⟩ = some (.int .i64 n) := HX.out.cell 2
      have x3 : v0.cell? ⟨w.heap.size, 3, none⟩ = some (.int .i64 ln) := HX.out.cell 3
      go_wp2_with fail
      refine (Printable_any t (by omega) _).mono ?_
      rw [HV.out]
      rintro er w1 ⟨rfl, rfl⟩
      go_wp2
      go_ret
      exact ⟨rfl, HB.out⟩
    | false =>
      rw [Bool.false_and]
      have HV := Lib.hid hb; clear hb
      have hb0 := ((Below.refl w.heap.size w).alloc (Nat.le_refl _) (.cells #[.int .i64 4, .string (bs t), .int .i64 n, .int .i64 ln] 37))
      have h_HX := (Bx.new w #[.int .i64 4, .string (bs t), .int .i64 n, .int .i64 ln] 37)
      have HB := Lib.hid hb0; have HX := Lib.hid h_HX
      clear hb0 h_HX
      go_enter Tryd.func24, Tryd.ntmps24
      go_upto_region 1 with (fail)
      generalize hW0 : w.alloc (.cells #[.int .i64 4, .string (bs t), .int .i64 n, .int .i64 ln] 37) = v0 at HB HX ⊢
      clear hW0
      have x0 : v0.cell? ⟨w.heap.size, 0, none⟩ = some (.int .i64 4) := HX.out.cell 0
      have x1 : v0.cell? ⟨w.heap.size, 1, none⟩ = some (.string (bs t)) := HX.out.cell 1
      have x2 : v0.cell? ⟨w.heap.size, 2, none⟩ = some (.int .i64 n) := HX.out.cell 2
      have x3 : v0.cell? ⟨w.heap.size, 3, none⟩ = some (.int .i64 ln) := HX.out.cell 3
      go_wp2_with fail
      refine (Printable_any t (by omega) _).mono ?_
      rw [HV.out]
      rintro er w1 ⟨rfl, rfl⟩
      go_wp2
      go_ret
      exact ⟨rfl, HB.out⟩
  by_cases h5 : k = 5
  rotate_left
  · rw [val_6 h1 h2 h3 h4 h5]
    have t1 : (k == 1) = false := by rw [beq_eq_false_iff_ne]; exact h1
    have t2 : (k == 2) = false := by rw [beq_eq_false_iff_ne]; exact h2
    have t3 : (k == 3) = false := by rw [beq_eq_false_iff_ne]; exact h3
    have t4 : (k == 4) = false := by rw [beq_eq_false_iff_ne]; exact h4
    have t5 : (k == 5) = false := by rw [beq_eq_false_iff_ne]; exact h5
    clear h1 h2 h3 h4 h5
    have hb0 := ((Below.refl w.heap.size w).alloc (Nat.le_refl _) (.cells #[.int .i64 k, .string (bs t), .int .i64 n, .int .i64 ln] 37))
    have h_HX := (Bx.new w #[.int .i64 k, .string (bs t), .int .i64 n, .int .i64 ln] 37)
    have HB := Lib.hid hb0; have HX := Lib.hid h_HX
    clear hb0 h_HX
    go_enter Tryd.func24, Tryd.ntmps24
    go_upto_region 1 with (fail)
    generalize hW0 : w.alloc (.cells #[.int .i64 k, .string (bs t), .int .i64 n, .int .i64 ln] 37) = v0 at HB HX ⊢
    clear hW0
    have x0 : v0.cell? ⟨w.heap.size, 0, none⟩ = some (.int .i64 k) := HX.out.cell 0
    have x1 : v0.cell? ⟨w.heap.size, 1, none⟩ = some (.string (bs t)) := HX.out.cell 1
    have x2 : v0.cell? ⟨w.heap.size, 2, none⟩ = some (.int .i64 n) := HX.out.cell 2
    have x3 : v0.cell? ⟨w.heap.size, 3, none⟩ = some (.int .i64 ln) := HX.out.cell 3
    go_wp2
    go_ret
    exact ⟨rfl, HB.out⟩
  subst h5
  rw [val_5, hq]
  have HQ := Lib.hid hq; clear hq
  cases hin : decide (t ∈ MK) with
  | true =>
    rw [Bool.true_and]
    have HV := Lib.hid hin; clear hin
    have hb0 := ((Below.refl w.heap.size w).alloc (Nat.le_refl _) (.cells #[.int .i64 5, .string (bs t), .int .i64 n, .int .i64 ln] 37))
    have h_HX := (Bx.new w #[.int .i64 5, .string (bs t), .int .i64 n, .int .i64 ln] 37)
    have HB := Lib.hid hb0; have HX := Lib.hid h_HX
    clear hb0 h_HX
    go_enter Tryd.func24, Tryd.ntmps24
    go_upto_region 1 with (fail)
    generalize hW0 : w.alloc (.cells #[.int .i64 5, .string (bs t), .int .i64 n, .int .i64 ln] 37) = v0 at HB HX ⊢
    clear hW0
    have x0 : v0.cell? ⟨w.heap.size, 0, none⟩ = some (.int .i64 5) := HX.out.cell 0
    have x1 : v0.cell? ⟨w.heap.size, 1, none⟩ = some (.string (bs t)) := HX.out.cell 1
    have x2 : v0.cell? ⟨w.heap.size, 2, none⟩ = some (.int .i64 n) := HX.out.cell 2
    have x3 : v0.cell? ⟨w.heap.size, 3, none⟩ = some (.int .i64 ln) := HX.out.cell 3
    go_upto_region 11 with (fail)
    have hs0 : Bx w.heap.size #[.int .i64 5, .string (bs t), .int .i64 n, .int .i64 ln] 37 v0.drew := HX.out
    have HS0 := Lib.hid hs0; clear hs0
    clear x0 x1 x2 x3
    go_wp2_with fail
    refine wp_region_held_drew (S := (fun w' => Bx w.heap.size #[.int .i64 5, .string (bs t), .int .i64 n, .int .i64 ln] 37 w')) (by kernel_rfl) ?_ (fun hHeld => ?_)
    · exact HS0.out
    refine takeH (i := 1) (v := ?vv38) 54 rfl rfl (by kernel_rfl) (by kernel_rfl) (by kernel_rfl) (fun _ _ _ h => h) (Or.inl ⟨by kernel_rfl, ?yy38⟩) (by assumption) ?_
    case yy38 => intro w hSw; (try dsimp only at hSw); go_simp; (try with_reducible rfl)
    simp only [List.setIfInBounds_toArray, List.set_cons_zero, List.set_cons_succ]
    refine takeH (i := 2) (v := ?vv39) 55 rfl rfl (by kernel_rfl) (by kernel_rfl) (by kernel_rfl) (fun _ _ _ h => h) (Or.inl ⟨by kernel_rfl, ?yy39⟩) (by assumption) ?_
    case yy39 =>
      intro wq hSw
      have c0_0 : wq.cell? ⟨w.heap.size, 0, none⟩ = some (.int .i64 5) := (hSw).cell 0
      have c0_1 : wq.cell? ⟨w.heap.size, 1, none⟩ = some (.string (bs t)) := (hSw).cell 1
      have c0_2 : wq.cell? ⟨w.heap.size, 2, none⟩ = some (.int .i64 n) := (hSw).cell 2
      have c0_3 : wq.cell? ⟨w.heap.size, 3, none⟩ = some (.int .i64 ln) := (hSw).cell 3
      clear hSw
      go_simp
      (try with_reducible rfl)
    simp only [List.setIfInBounds_toArray, List.set_cons_zero, List.set_cons_succ]
    refine wpAnyH_ready (rs := [0]) (by kernel_rfl) (by simp) ?_
    refine (AllReadyH.cons rfl (fun K hK => ?_) AllReadyH.nil)
    go_simp
    (refine (Marks_any _).mono ?_; rintro er u1 ⟨v, rfl, hS, hd1⟩)
    (try go_wp2_with fail)
    refine hK.out _ _ ?_ (fun hHeld => ?_)
    · exact hHeld.call hd1
    clear hK K
    (try simp only [Act.put, List.setIfInBounds_toArray, List.set_cons_zero, List.set_cons_succ])
    refine wpAnyH_ready (rs := [3]) (by kernel_rfl) (by simp) ?_
    refine (AllReadyH.cons rfl (fun K hK => ?_) AllReadyH.nil)
    go_simp
    (refine (has_any v MK t _ hS (by decide)).mono ?_; rw [HV.out]; rintro er u2 ⟨rfl, rfl⟩)
    (try go_wp2_with fail)
    refine hK.out _ _ ?_ (fun hHeld => ?_)
    · exact hHeld
    clear hK K
    (try simp only [Act.put, List.setIfInBounds_toArray, List.set_cons_zero, List.set_cons_succ])
    refine takeH (i := 4) (v := ?vv40) 57 rfl rfl (by kernel_rfl) (by kernel_rfl) (by kernel_rfl) (fun _ _ _ h => h) (Or.inl ⟨by kernel_rfl, ?yy40⟩) (by assumption) ?_
    case yy40 => intro w hSw; (try dsimp only at hSw); go_simp; (try with_reducible rfl)
    simp only [List.setIfInBounds_toArray, List.set_cons_zero, List.set_cons_succ]
    refine takeH (i := 5) (v := ?vv41) 58 rfl rfl (by kernel_rfl) (by kernel_rfl) (by kernel_rfl) (fun _ _ _ h => h) (Or.inl ⟨by kernel_rfl, ?yy41⟩) (by assumption) ?_
    case yy41 => intro w hSw; (try dsimp only at hSw); go_simp; (try with_reducible rfl)
    simp only [List.setIfInBounds_toArray, List.set_cons_zero, List.set_cons_succ]
    refine takeH (i := 6) (v := ?vv42) 59 rfl rfl (by kernel_rfl) (by kernel_rfl) (by kernel_rfl) (fun _ _ _ h => h) (Or.inl ⟨by kernel_rfl, ?yy42⟩) (by assumption) ?_
    case yy42 =>
      intro wq hSw
      have c0_0 : wq.cell? ⟨w.heap.size, 0, none⟩ = some (.int .i64 5) := (hSw).cell 0
      have c0_1 : wq.cell? ⟨w.heap.size, 1, none⟩ = some (.string (bs t)) := (hSw).cell 1
      have c0_2 : wq.cell? ⟨w.heap.size, 2, none⟩ = some (.int .i64 n) := (hSw).cell 2
      have c0_3 : wq.cell? ⟨w.heap.size, 3, none⟩ = some (.int .i64 ln) := (hSw).cell 3
      clear hSw
      go_simp
      (try with_reducible rfl)
    simp only [List.setIfInBounds_toArray, List.set_cons_zero, List.set_cons_succ]
    refine takeH (i := 7) (v := ?vv43) 60 rfl rfl (by kernel_rfl) (by kernel_rfl) (by kernel_rfl) (fun _ _ _ h => h) (Or.inl ⟨by kernel_rfl, ?yy43⟩) (by assumption) ?_
    case yy43 => intro w hSw; (try dsimp only at hSw); go_simp; (try with_reducible rfl)
    simp only [List.setIfInBounds_toArray, List.set_cons_zero, List.set_cons_succ]
    refine takeH (i := 8) (v := ?vv44) 61 rfl rfl (by kernel_rfl) (by kernel_rfl) (by kernel_rfl) (fun _ _ _ h => h) (Or.inl ⟨by kernel_rfl, ?yy44⟩) (by assumption) ?_
    case yy44 => intro w hSw; (try dsimp only at hSw); go_simp; (try with_reducible rfl)
    simp only [List.setIfInBounds_toArray, List.set_cons_zero, List.set_cons_succ]
    refine takeH (i := 9) (v := ?vv45) 2 rfl rfl (by kernel_rfl) (by kernel_rfl) (by kernel_rfl) (fun _ _ _ h => h) (Or.inl ⟨by kernel_rfl, ?yy45⟩) (by assumption) ?_
    case yy45 => intro w hSw; (try dsimp only at hSw); go_simp; (try with_reducible rfl)
    simp only [List.setIfInBounds_toArray, List.set_cons_zero, List.set_cons_succ]
    refine wpAnyH_done (by kernel_rfl) ?_ _
    have hd := btrans (Below.refl v0.heap.size v0).drew (Nat.le_refl _) hd1
    go_wp2_with fail
    go_ret
    exact ⟨rfl, btrans HB.out HB.out.size hd⟩
  | false =>
    rw [Bool.false_and]
    have HV := Lib.hid hin; clear hin
    have hb0 := ((Below.refl w.heap.size w).alloc (Nat.le_refl _) (.cells #[.int .i64 5, .string (bs t), .int .i64 n, .int .i64 ln] 37))
    have h_HX := (Bx.new w #[.int .i64 5, .string (bs t), .int .i64 n, .int .i64 ln] 37)
    have HB := Lib.hid hb0; have HX := Lib.hid h_HX
    clear hb0 h_HX
    go_enter Tryd.func24, Tryd.ntmps24
    go_upto_region 1 with (fail)
    generalize hW0 : w.alloc (.cells #[.int .i64 5, .string (bs t), .int .i64 n, .int .i64 ln] 37) = v0 at HB HX ⊢
    clear hW0
    have x0 : v0.cell? ⟨w.heap.size, 0, none⟩ = some (.int .i64 5) := HX.out.cell 0
    have x1 : v0.cell? ⟨w.heap.size, 1, none⟩ = some (.string (bs t)) := HX.out.cell 1
    have x2 : v0.cell? ⟨w.heap.size, 2, none⟩ = some (.int .i64 n) := HX.out.cell 2
    have x3 : v0.cell? ⟨w.heap.size, 3, none⟩ = some (.int .i64 ln) := HX.out.cell 3
    go_upto_region 11 with (fail)
    have hs0 : Bx w.heap.size #[.int .i64 5, .string (bs t), .int .i64 n, .int .i64 ln] 37 v0.drew := HX.out
    have HS0 := Lib.hid hs0; clear hs0
    clear x0 x1 x2 x3
    go_wp2_with fail
    refine wp_region_held_drew (S := (fun w' => Bx w.heap.size #[.int .i64 5, .string (bs t), .int .i64 n, .int .i64 ln] 37 w')) (by kernel_rfl) ?_ (fun hHeld => ?_)
    · exact HS0.out
    refine takeH (i := 1) (v := ?vv46) 54 rfl rfl (by kernel_rfl) (by kernel_rfl) (by kernel_rfl) (fun _ _ _ h => h) (Or.inl ⟨by kernel_rfl, ?yy46⟩) (by assumption) ?_
    case yy46 => intro w hSw; (try dsimp only at hSw); go_simp; (try with_reducible rfl)
    simp only [List.setIfInBounds_toArray, List.set_cons_zero, List.set_cons_succ]
    refine takeH (i := 2) (v := ?vv47) 55 rfl rfl (by kernel_rfl) (by kernel_rfl) (by kernel_rfl) (fun _ _ _ h => h) (Or.inl ⟨by kernel_rfl, ?yy47⟩) (by assumption) ?_
    case yy47 =>
      intro wq hSw
      have c0_0 : wq.cell? ⟨w.heap.size, 0, none⟩ = some (.int .i64 5) := (hSw).cell 0
      have c0_1 : wq.cell? ⟨w.heap.size, 1, none⟩ = some (.string (bs t)) := (hSw).cell 1
      have c0_2 : wq.cell? ⟨w.heap.size, 2, none⟩ = some (.int .i64 n) := (hSw).cell 2
      have c0_3 : wq.cell? ⟨w.heap.size, 3, none⟩ = some (.int .i64 ln) := (hSw).cell 3
      clear hSw
      go_simp
      (try with_reducible rfl)
    simp only [List.setIfInBounds_toArray, List.set_cons_zero, List.set_cons_succ]
    refine wpAnyH_ready (rs := [0]) (by kernel_rfl) (by simp) ?_
    refine (AllReadyH.cons rfl (fun K hK => ?_) AllReadyH.nil)
    go_simp
    (refine (Marks_any _).mono ?_; rintro er u1 ⟨v, rfl, hS, hd1⟩)
    (try go_wp2_with fail)
    refine hK.out _ _ ?_ (fun hHeld => ?_)
    · exact hHeld.call hd1
    clear hK K
    (try simp only [Act.put, List.setIfInBounds_toArray, List.set_cons_zero, List.set_cons_succ])
    refine wpAnyH_ready (rs := [3]) (by kernel_rfl) (by simp) ?_
    refine (AllReadyH.cons rfl (fun K hK => ?_) AllReadyH.nil)
    go_simp
    (refine (has_any v MK t _ hS (by decide)).mono ?_; rw [HV.out]; rintro er u2 ⟨rfl, rfl⟩)
    (try go_wp2_with fail)
    refine hK.out _ _ ?_ (fun hHeld => ?_)
    · exact hHeld
    clear hK K
    (try simp only [Act.put, List.setIfInBounds_toArray, List.set_cons_zero, List.set_cons_succ])
    refine takeH (i := 4) (v := ?vv48) 57 rfl rfl (by kernel_rfl) (by kernel_rfl) (by kernel_rfl) (fun _ _ _ h => h) (Or.inl ⟨by kernel_rfl, ?yy48⟩) (by assumption) ?_
    case yy48 => intro w hSw; (try dsimp only at hSw); go_simp; (try with_reducible rfl)
    simp only [List.setIfInBounds_toArray, List.set_cons_zero, List.set_cons_succ]
    refine takeH (i := 5) (v := undef) 58 rfl rfl (by kernel_rfl) (by kernel_rfl) (by kernel_rfl) (fun _ _ _ h => h) (Or.inr ⟨by kernel_rfl, rfl⟩) (by assumption) ?_
    simp only [List.setIfInBounds_toArray, List.set_cons_zero, List.set_cons_succ]
    refine takeH (i := 6) (v := undef) 59 rfl rfl (by kernel_rfl) (by kernel_rfl) (by kernel_rfl) (fun _ _ _ h => h) (Or.inr ⟨by kernel_rfl, rfl⟩) (by assumption) ?_
    simp only [List.setIfInBounds_toArray, List.set_cons_zero, List.set_cons_succ]
    refine takeH (i := 7) (v := undef) 60 rfl rfl (by kernel_rfl) (by kernel_rfl) (by kernel_rfl) (fun _ _ _ h => h) (Or.inr ⟨by kernel_rfl, rfl⟩) (by assumption) ?_
    simp only [List.setIfInBounds_toArray, List.set_cons_zero, List.set_cons_succ]
    refine takeH (i := 8) (v := ?vv49) 61 rfl rfl (by kernel_rfl) (by kernel_rfl) (by kernel_rfl) (fun _ _ _ h => h) (Or.inl ⟨by kernel_rfl, ?yy49⟩) (by assumption) ?_
    case yy49 => intro w hSw; (try dsimp only at hSw); go_simp; (try with_reducible rfl)
    simp only [List.setIfInBounds_toArray, List.set_cons_zero, List.set_cons_succ]
    refine takeH (i := 9) (v := ?vv50) 2 rfl rfl (by kernel_rfl) (by kernel_rfl) (by kernel_rfl) (fun _ _ _ h => h) (Or.inl ⟨by kernel_rfl, ?yy50⟩) (by assumption) ?_
    case yy50 => intro w hSw; (try dsimp only at hSw); go_simp; (try with_reducible rfl)
    simp only [List.setIfInBounds_toArray, List.set_cons_zero, List.set_cons_succ]
    refine wpAnyH_done (by kernel_rfl) ?_ _
    have hd := btrans (Below.refl v0.heap.size v0).drew (Nat.le_refl _) hd1
    go_wp2_with fail
    go_ret
    exact ⟨rfl, btrans HB.out HB.out.size hd⟩
end Go.Proofs.YthdioaolnbdbgaaDoor
