/- The walks of strings.Builder's methods that Join needs, and of layer 7's valid. No conditions. -/
import Derived.Test.YtkmmdkklpbafdaaGreatDoorLexG
import Derived.Lib.AppendStr
namespace Go.Proofs.YtkmmdkklpbafdaaGreatDoor
open Go.RowKit

/-- the builder in block b holds the bytes l; its own row lies in a block before S -/
def BdB (b : Nat) (l : List UInt8) (S : Nat) (w : World) : Prop := b < S ∧ Bd b l w ∧ ∀ p v, w.heap[b]? = some (.cells #[p, v] 47 (0, 0)) → ∀ g, v.ownBlock = some g → g < S
theorem Bd.lt {b : Nat} {l : List UInt8} {w : World} (h : Bd b l w) : b < w.heap.size := by
  rcases h with ⟨_, v, hb, _⟩ | ⟨_, v, hb, _⟩ <;> exact lt_heap hb
theorem Bd.before {b : Nat} {l : List UInt8} {w : World} (h : Bd b l w) : BdB b l w.heap.size w := by
  refine ⟨h.lt, h, ?_⟩
  intro p v hb g hg
  rcases h with ⟨_, v2, hb2, hown, _⟩ | ⟨_, v2, hb2, hown, _⟩
  · rw [hb] at hb2; injection hb2 with e; injection e with e _ _; injection e with e; injection e with _ e; injection e with e _; subst e; exact (hown.lt g hg).2
  · rw [hb] at hb2; injection hb2 with e; injection e with e _ _; injection e with e; injection e with _ e; injection e with e _; subst e; exact (hown.lt g hg).2
theorem Bd.below {b : Nat} {l : List UInt8} {w w' : World} (h : Bd b l w) (hb : Below w.heap.size w w') : Bd b l w' := by
  have hlt := h.lt
  rcases h with ⟨h0, v, h1, h2, h3⟩ | ⟨h0, v, h1, h2, h3⟩
  · exact .inl ⟨h0, v, (hb.block b hlt).trans h1, own_below h2 hb, h3⟩
  · exact .inr ⟨h0, v, (hb.block b hlt).trans h1, own_below h2 hb, h3⟩
theorem BdB.below {b : Nat} {l : List UInt8} {S : Nat} {w w' : World} (h : BdB b l S w) (hb : Below w.heap.size w w') : BdB b l S w' := by
  refine ⟨h.1, h.2.1.below hb, ?_⟩
  intro p v hbk g hg
  exact h.2.2 p v ((hb.block b h.2.1.lt).symm.trans hbk) g hg
set_option maxHeartbeats 2000000 in
set_option maxRecDepth 100000 in
theorem copyCheck2 (b : Nat) (l : List UInt8) (w : World) (h : Bd b l w) :
    Calls Tryz.prog 56 #[.pointer (some ⟨b, 0, none⟩)] w fun e w' => e = .returned (.tuple #[]) ∧ (∃ p v, w.heap[b]? = some (.cells #[p, v] 47 (0, 0)) ∧ w'.heap[b]? = some (.cells #[.pointer (some ⟨b, 0, none⟩), v] 47 (0, 0)) ∧ w'.ownsRow b 5 1 v (Lib.byteCells l).length (Lib.byteCells l) ∧ v.ownBlock ≠ some b) ∧ Below b w w' ∧ w'.heap.size = w.heap.size ∧ ∀ k, k ≠ b → w'.heap[k]? = w.heap[k]? := by
  rcases h with h | h
  · refine (copyCheck_fresh b w h.cell0 h.shape h.frozen0).mono ?_
    rintro e w' ⟨rfl, rfl⟩
    obtain ⟨h0, v, h1, h2, h3⟩ := h
    have hg := grown_set w ⟨b, 0, none⟩ (.pointer (some ⟨b, 0, none⟩))
    have hx : Bx b #[.pointer none, v] 47 w := h1
    have hx2 := hx.set 0 (.pointer (some ⟨b, 0, none⟩))
    refine ⟨rfl, ⟨.pointer none, v, h1, by show Bx b _ _ _; simpa using hx2, ?_, h3⟩, (Below.refl b w).setCell (p := ⟨b, 0, none⟩) (Nat.le_refl _) _, by simp, ?_⟩
    · exact (Lib.BuilderAt.used (T := 47) (e := 5) ⟨h0, v, h1, h2, h3⟩ _).2.elim (fun v2 q => by
        have e : v2 = v := by
          have e1 := q.1
          rw [hx2] at e1
          simp at e1
          exact e1.symm
        rw [← e]; exact q.2.1)
    · intro k hk
      rcases Nat.lt_or_ge k w.heap.size with h' | h'
      · exact hg.block k h' (by simpa using hk)
      · rw [Array.getElem?_eq_none h', Array.getElem?_eq_none (by simpa using h')]
  · refine (copyCheck_used b w h.cell0).mono ?_
    rintro e w' ⟨rfl, rfl⟩
    obtain ⟨h0, v, h1, h2, h3⟩ := h
    exact ⟨rfl, ⟨_, v, h1, h1, h2, h3⟩, Below.refl b _, rfl, fun k hk => rfl⟩
set_option maxHeartbeats 2000000 in
set_option maxRecDepth 100000 in
theorem WriteByte_kept (b : Nat) (l : List UInt8) (S : Nat) (c : UInt8) (w : World) (h : BdB b l S w) (hlen : l.length ≤ 1000000) (_ : S ≤ w.heap.size) :
    Calls Tryz.prog 91 #[.pointer (some ⟨b, 0, none⟩), .int .u8 (c.toNat : Int)] w fun e w' => e = .returned .nilIface ∧ Bd b (l ++ [c]) w' ∧ Below b w w' ∧ ∀ k, S ≤ k → k < w.heap.size → w'.heap[k]? = w.heap[k]? := by
  obtain ⟨i0, hi, hz0, hz1, hz2⟩ := info_parts Tryz.infoByte
  go_enter Tryz.func91, Tryz.ntmps91
  go_wp2_with fail
  refine (copyCheck2 b l _ h.2.1).mono ?_
  rintro e w1 ⟨rfl, ⟨p0, v, hb0, hbk, hown, hne⟩, hb1, hsz1, hk1⟩
  have hgS := h.2.2 p0 v hb0
  have hbS := h.1
  have c0 : w1.cell? ⟨b, 0, none⟩ = some (.pointer (some ⟨b, 0, none⟩)) := by rw [Lib.cell_of_heap hbk]; rfl
  have c1 : w1.cell? ⟨b, 1, none⟩ = some v := by rw [Lib.cell_of_heap hbk]; rfl
  have hlt : b < w1.heap.size := lt_heap hbk
  have HBL := Lib.hid (Lib.byteCells_length l)
  have HSZ := Lib.hid hsz1; clear hsz1
  go_wp2_with (at_builtin; refine wpList_append_own _ rfl _ _ 45 rfl b 5 i0 (.int .u8 0) 1 1 Tryz.underlying45 hi hz0 hz1 hz2 rfl (by decide) _ _ _ rfl (hown.alloc _) ⟨w1.heap.size, 0, none⟩ 1 1 [.int .u8 (c.toNat : Int)] rfl rfl ?c1 ?c2 ?c3 ?c4 ?c5 ?_)
  case c1 =>
    intro j u hj
    match j, hj with
    | 0, hj => simp at hj; subst hj; simp [Addr.add]
  case c2 => intro u hu; simp at hu; subst hu; rfl
  case c3 => have := HBL.out; unfold maxLen; omega
  case c4 => have := HBL.out; omega
  case c5 => have := HSZ.out; simp; omega
  intro v' w2 hown' hgrow _
  have hsz1 := HSZ.out
  have hb2 : w2.heap[b]? = some (.cells #[.pointer (some ⟨b, 0, none⟩), v] 47 (0, 0)) := by
    rw [hgrow.block b (by simp; omega) (fun e => hne e.symm), Lib.alloc_old w1 _ b hlt]
    exact hbk
  have hkeep : ∀ k, S ≤ k → k < w.heap.size → w2.heap[k]? = w.heap[k]? := by
    intro k h1 h2
    rw [hgrow.block k (by simp; omega) (fun e => by have := hgS k e.symm; omega), Lib.alloc_old w1 _ k (by omega)]
    exact hk1 k (by omega)
  have hszk : w.heap.size ≤ w2.heap.size := by have := hgrow.size; simp at this; omega
  have d0 : w2.cell? ⟨b, 0, none⟩ = some (.pointer (some ⟨b, 0, none⟩)) := by rw [Lib.cell_of_heap hb2]; rfl
  have d1 : w2.cell? ⟨b, 1, none⟩ = some v := by rw [Lib.cell_of_heap hb2]; rfl
  have f1 : w2.frozen? ⟨b, 1, none⟩ = false := Lib.frozen_of_heap hb2 1
  obtain ⟨g, cap, rfl⟩ : ∃ g cap, v' = .slice (some ⟨g, 0, none⟩) ((Lib.byteCells l).length + 1) cap := by
    rcases hown'.2 with ⟨_, h0⟩ | ⟨g, cap, cur, hv, _⟩
    · omega
    · exact ⟨g, cap, hv⟩
  clear hsz1
  have HKP := Lib.hid hkeep; clear hkeep
  have HGS := Lib.hid hgS; clear hgS
  go_wp2
  go_ret
  refine ⟨rfl, ?_, ?_, ?_⟩
  · have := Lib.BuilderAt.put (T := 47) (e := 5) (Nat.le_refl b) hb2 (bs' := Lib.byteCells l ++ [.int .u8 (c.toNat : Int)]) (by simpa using hown') (by decide)
    rw [bc_snoc] at this
    exact .inr this
  · have hsz1 := HSZ.out
    exact ((hb1.alloc (by omega) _).grown hgrow (by simp; omega) (fun k hk => (hown.lt k hk).1)).setCell (p := ⟨b, 1, none⟩) (Nat.le_refl _) _
  · intro k h1 h2
    rw [← HKP.out k h1 h2]
    exact (grown_set w2 ⟨b, 1, none⟩ _).block k (by omega) (by simp; omega)
set_option maxHeartbeats 2000000 in
set_option maxRecDepth 100000 in
theorem Bd.writeS (b : Nat) (l : List UInt8) (s : List UInt8) (w : World) (h : Bd b l w) (hlen : l.length ≤ 1000000) (hs : s.length ≤ 1000000) :
    Calls Tryz.prog 26 #[.pointer (some ⟨b, 0, none⟩), .string (bs s)] w fun e w' => e = .returned (.tuple #[.int .i64 (s.length : Int), .nilIface]) ∧ Bd b (l ++ s) w' ∧ Below b w w' := by
  obtain ⟨i0, hi, hz0, hz1, hz2⟩ := info_parts Tryz.infoByte
  have hsc : Lib.strCells (bs s) = Lib.byteCells s := by simp [Lib.strCells, Lib.byteCells, bs]
  have hca : Lib.byteCells l ++ Lib.byteCells s = Lib.byteCells (l ++ s) := by simp [Lib.byteCells]
  have HSC := Lib.hid hsc; have HCA := Lib.hid hca; clear hsc hca
  go_enter Tryz.func26, Tryz.ntmps26
  go_wp2_with fail
  refine (copyCheck2 b l _ h).mono ?_
  rintro e w1 ⟨rfl, ⟨p0, v, hb0, hbk, hown, hne⟩, hb1, hsz1, hk1⟩
  clear hk1
  have HSZ := Lib.hid hsz1; clear hsz1
  have c0 : w1.cell? ⟨b, 0, none⟩ = some (.pointer (some ⟨b, 0, none⟩)) := by rw [Lib.cell_of_heap hbk]; rfl
  have c1 : w1.cell? ⟨b, 1, none⟩ = some v := by rw [Lib.cell_of_heap hbk]; rfl
  have hlt : b < w1.heap.size := lt_heap hbk
  have HBL := Lib.hid (Lib.byteCells_length l)
  have HBZ := Lib.hid (bs_size s)
  go_wp2_with (at_builtin; refine Lib.wpList_append_own_string _ rfl _ _ 45 9 rfl b 5 i0 Tryz.underlying45 Tryz.underlying9 hi hz0 hz1 hz2 _ _ _ rfl hown (bs s) rfl ?c3 ?c4 ?c5 ?_)
  case c3 => have := HBL.out; have := HBZ.out; unfold maxLen; omega
  case c4 => have := HBL.out; have := HBZ.out; omega
  case c5 => have := HSZ.out; omega
  intro v' w2 hown' hgrow _
  have hb2 : w2.heap[b]? = some (.cells #[.pointer (some ⟨b, 0, none⟩), v] 47 (0, 0)) := by
    rw [hgrow.block b (by omega) (fun e => hne e.symm)]
    exact hbk
  have d0 : w2.cell? ⟨b, 0, none⟩ = some (.pointer (some ⟨b, 0, none⟩)) := by rw [Lib.cell_of_heap hb2]; rfl
  have d1 : w2.cell? ⟨b, 1, none⟩ = some v := by rw [Lib.cell_of_heap hb2]; rfl
  have f1 : w2.frozen? ⟨b, 1, none⟩ = false := Lib.frozen_of_heap hb2 1
  rw [HSC.out, HCA.out] at hown'
  have ho2 : w2.ownsRow b 5 1 v' (Lib.byteCells (l ++ s)).length (Lib.byteCells (l ++ s)) := by
    have e : (Lib.byteCells l).length + (bs s).size = (Lib.byteCells (l ++ s)).length := by rw [HBZ.out, HBL.out, Lib.byteCells_length, List.length_append]
    rw [← e]; exact hown'
  have hone : v'.oneCell' = true := by
    rcases own_form ho2 with ⟨rfl, _⟩ | ⟨g, cap, rfl, _⟩ <;> rfl
  obtain ⟨sa, sc, rfl⟩ := own_sl ho2
  have HO2 := Lib.hid ho2; clear hown' ho2
  go_wp2
  go_ret2
  refine ⟨rfl, ?_, ?_⟩
  · exact .inr (Lib.BuilderAt.put (T := 47) (e := 5) (Nat.le_refl b) hb2 (bs' := Lib.byteCells (l ++ s)) HO2.out (by decide))
  · exact (hb1.grown hgrow (by omega) (fun k hk => (hown.lt k hk).1)).setCell (p := ⟨b, 1, none⟩) (Nat.le_refl _) _
set_option maxRecDepth 100000 in
theorem mk_self (t : List UInt8) : t ∈ MK ↔ (t ≠ [] ∧ mkS t = t) := by
  constructor
  · intro h
    have := (by decide : ∀ m ∈ MK, m ≠ [] ∧ mkS m = m)
    exact this t h
  · rintro ⟨h1, h2⟩
    rw [← h2]; exact mkS_mem (by rw [h2]; exact h1)
theorem val_1 {t : List UInt8} {n ln : Int} : valT ⟨1, t, n, ln⟩ = (isNm t && decide (n = 0)) := rfl
theorem val_2 {t : List UInt8} {n ln : Int} : valT ⟨2, t, n, ln⟩ = (isKw t && decide (n = 0)) := rfl
theorem val_3 {t : List UInt8} {n ln : Int} : valT ⟨3, t, n, ln⟩ = ((t == []) && decide (0 ≤ n)) := rfl
theorem val_4 {t : List UInt8} {n ln : Int} : valT ⟨4, t, n, ln⟩ = (decide (t.length ≤ 64) && (t.all okc && decide (n = 0))) := rfl
theorem val_5 {t : List UInt8} {n ln : Int} : valT ⟨5, t, n, ln⟩ = (decide (t ∈ MK) && decide (n = 0)) := rfl
theorem val_6 {k : Int} {t : List UInt8} {n ln : Int} (h1 : k ≠ 1) (h2 : k ≠ 2) (h3 : k ≠ 3) (h4 : k ≠ 4) (h5 : k ≠ 5) : valT ⟨k, t, n, ln⟩ = false := by
  unfold valT; simp only; rw [if_neg h1, if_neg h2, if_neg h3, if_neg h4, if_neg h5]

end Go.Proofs.YtkmmdkklpbafdaaGreatDoor
