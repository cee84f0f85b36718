/- The walks of layer 5's unquote and Parse. No conditions. -/
import Derived.Test.YtmffdoblpkjmjaaDoorValE
namespace Go.Proofs.YtmffdoblpkjmjaaDoor
open Go.RowKit

theorem unq_cons (L r : List UInt8) (c : UInt8) : unq L (c :: r) = if c = 34 then (L, r.isEmpty) else if c = 92 then (match r with | [] => ([], false) | d :: t => if d = 34 ∨ d = 92 then unq (L ++ [d]) t else ([], false)) else if okc c = true then unq (L ++ [c]) r else ([], false) := by
  cases r <;> rfl
theorem unq_c34 (L r : List UInt8) (c : UInt8) (h : c = 34) : unq L (c :: r) = (L, r.isEmpty) := by rw [unq_cons, if_pos h]
theorem unq_cok (L r : List UInt8) (c : UInt8) (h1 : c ≠ 34) (h2 : c ≠ 92) (h : okc c = true) : unq L (c :: r) = unq (L ++ [c]) r := by rw [unq_cons, if_neg h1, if_neg h2, if_pos h]
theorem unq_cno (L r : List UInt8) (c : UInt8) (h1 : c ≠ 34) (h2 : c ≠ 92) (h : okc c = false) : unq L (c :: r) = ([], false) := by rw [unq_cons, if_neg h1, if_neg h2, if_neg (by rw [h]; simp)]
theorem ne34 {c : UInt8} (h : c = 92) : c ≠ 34 := by rw [h]; decide
theorem unq_c92 (L r : List UInt8) (c d : UInt8) (h : c = 92) (h1 : d = 34 ∨ d = 92) : unq L (c :: d :: r) = unq (L ++ [d]) r := by rw [unq_cons, if_neg (ne34 h), if_pos h]; exact if_pos h1
theorem unq_c92b (L r : List UInt8) (c d : UInt8) (h : c = 92) (h1 : d ≠ 34) (h2 : d ≠ 92) : unq L (c :: d :: r) = ([], false) := by rw [unq_cons, if_neg (ne34 h), if_pos h]; exact if_neg (by rintro (h | h) <;> contradiction)
theorem unq_c92e (L : List UInt8) (c : UInt8) (h : c = 92) : unq L [c] = ([], false) := by rw [unq_cons, if_neg (ne34 h), if_pos h]
theorem unq_end (L l : List UInt8) (k : Nat) (h : ¬ k < l.length) : unq L (l.drop k) = ([], false) := by
  rw [List.drop_of_length_le (by omega)]; unfold unq; rfl
theorem unq_34 (L l : List UInt8) (k : Nat) (hk : k < l.length) (h : l[k] = 34) : unq L (l.drop k) = (L, decide ((k : Int) = (l.length : Int) - 1)) := by
  have : (l.drop (k + 1)).isEmpty = decide ((k : Int) = (l.length : Int) - 1) := by
    rw [Bool.eq_iff_iff, List.isEmpty_iff, decide_eq_true_eq, List.drop_eq_nil_iff]; omega
  rw [List.drop_eq_getElem_cons hk, unq_c34 _ _ _ h, this]
theorem unq_ok (L l : List UInt8) (k : Nat) (hk : k < l.length) (h1 : l[k] ≠ 34) (h2 : l[k] ≠ 92) (h : okc l[k] = true) : unq L (l.drop k) = unq (L ++ [l[k]]) (l.drop (k + 1)) := by
  rw [List.drop_eq_getElem_cons hk]; exact unq_cok _ _ _ h1 h2 h
theorem unq_no (L l : List UInt8) (k : Nat) (hk : k < l.length) (h1 : l[k] ≠ 34) (h2 : l[k] ≠ 92) (h : okc l[k] = false) : unq L (l.drop k) = ([], false) := by
  rw [List.drop_eq_getElem_cons hk]; exact unq_cno _ _ _ h1 h2 h
theorem unq_92e (L l : List UInt8) (k k1 : Nat) (e : k + 1 = k1) (hk : k < l.length) (h : l[k] = 92) (he : ¬ k1 < l.length) : unq L (l.drop k) = ([], false) := by
  subst e; rw [List.drop_eq_getElem_cons hk, List.drop_of_length_le (i := k + 1) (by omega)]; exact unq_c92e _ _ h
theorem unq_92b (L l : List UInt8) (k k1 : Nat) (e : k + 1 = k1) (hk : k < l.length) (h : l[k] = 92) (he : k1 < l.length) (h1 : l[k1] ≠ 34) (h2 : l[k1] ≠ 92) : unq L (l.drop k) = ([], false) := by
  subst e; rw [List.drop_eq_getElem_cons hk, List.drop_eq_getElem_cons he]; exact unq_c92b _ _ _ _ h h1 h2
theorem unq_92 (L l : List UInt8) (k k1 : Nat) (e : k + 1 = k1) (hk : k < l.length) (h : l[k] = 92) (he : k1 < l.length) (h1 : l[k1] = 34 ∨ l[k1] = 92) : unq L (l.drop k) = unq (L ++ [l[k1]]) (l.drop (k1 + 1)) := by
  subst e; rw [List.drop_eq_getElem_cons hk, List.drop_eq_getElem_cons he]; exact unq_c92 _ _ _ _ h h1
theorem eq34 {c : UInt8} (h : c = 34) : ((c.toNat : Int) != 34) = false := by rw [h]; rfl
theorem neq34 {c : UInt8} (h : c ≠ 34) : ((c.toNat : Int) != 34) = true := by unfold bne; rw [not34 h]; rfl
theorem eq92 {c : UInt8} (h : c = 92) : ((c.toNat : Int) != 92) = false := by rw [h]; rfl
theorem neq92 {c : UInt8} (h : c ≠ 92) : ((c.toNat : Int) != 92) = true := by unfold bne; rw [not92 h]; rfl
theorem pl34 {c : UInt8} (h : c = 34 ∨ c = 92) : ¬ (c.toNat : Int) < 32 := by rcases h with h | h <;> rw [h] <;> decide
theorem pm34 {c : UInt8} (h : c = 34 ∨ c = 92) : ¬ (126 : Int) < (c.toNat : Int) := by rcases h with h | h <;> rw [h] <;> decide
theorem getE {l : List UInt8} {k : Nat} (h : k < l.length) : l.getD k 0 = l[k] := by simp [h]

set_option maxRecDepth 100000 in
set_option maxHeartbeats 8000000 in
theorem unquote_any (l : List UInt8) (hl0 : 1 ≤ l.length) (hl : l.length ≤ 100000) (w : World) :
    Calls Tryd.prog 40 #[.string (bs l)] w fun e w' => e = .returned (.tuple #[.string (bs (unq [] (l.drop 1)).1), .bool (unq [] (l.drop 1)).2]) ∧ Below w.heap.size w w' := by
  obtain ⟨⟨U, fl⟩, hu⟩ : ∃ r, unq [] (l.drop 1) = r := ⟨_, rfl⟩
  rw [hu]
  have HU := Lib.hid hu; clear hu
  go_enter Tryd.func40, Tryd.ntmps40
  have hal := (Below.refl w.heap.size w).alloc (Nat.le_refl _) (.cells #[.pointer none, .slice none 0 0] 48)
  have HD := Lib.hid (Bd.new w); have HB := Lib.hid hal; have hzb : w.heap.size ≤ (w.alloc (.cells #[.pointer none, .slice none 0 0] 48)).heap.size := hal.size; clear hal
  go_upto_region 2 with (fail)
  generalize hW : w.alloc (.cells #[.pointer none, .slice none 0 0] 48) = v1 at HB HD hzb ⊢
  clear hW
  go_wp2
  go_loopw [5] (fun i wr => ∃ (k : Nat) (L0 : List UInt8), k ≤ l.length ∧ i = .int .i64 k ∧ Bd w.heap.size L0 wr ∧ L0.length ≤ k ∧ Hid (unq L0 (l.drop k) = (U, fl)) ∧ w.heap.size ≤ wr.heap.size ∧ Below w.heap.size w wr) (fun i _ => l.length - (intOf i).toNat)
  case atStart => exact ⟨1, [], hl0, rfl, HD.out, Nat.zero_le _, HU, hzb, HB.out⟩
  case round =>
    obtain ⟨k, L0, hk, rfl, hD, hL0, HQ, hzb, hB⟩ := hrel
    clear HD HB HU
    have HD := Lib.hid hD; have HB := Lib.hid hB; clear hD hB
    by_cases hlt : k < l.length
    · have hlt' : (k : Int) < (l.length : Int) := by omega
      have hlt1 : (k : Int) + 1 ≤ (l.length : Int) := by omega
      obtain ⟨k1, hk1⟩ : ∃ k1, k + 1 = k1 := ⟨_, rfl⟩
      have hw1 : IntKind.i64.wrap ((k : Int) + 1) = (k1 : Int) := by rw [IntKind.wrap_i64]; omega
      have hlk : k ≤ k1 := by omega
      have hk2 : L0.length + 1 ≤ k1 := by omega
      have HK1 := Lib.hid hk1; clear hk1
      by_cases h34 : l[k] = 34
      · have t34 := is34 h34
        have HE := Lib.hid (HQ.out.symm.trans (unq_34 L0 l k hlt h34))
        clear h34
        have hU : U = L0 := congrArg Prod.fst HE.out
        have hF : fl = decide ((k : Int) = (l.length : Int) - 1) := congrArg Prod.snd HE.out
        have HU := Lib.hid hU; have HF := Lib.hid hF; clear hU hF HE
        go_wp2_with fail
        refine (Bd.string w.heap.size L0 _ HD.out hzb).mono ?_
        rintro er w4 ⟨rfl, hb2⟩
        go_wp2
        go_ret2
        exact ⟨by rw [HU.out, HF.out] <;> rfl, HB.out.trans hb2⟩
      have t34 := not34 h34
      by_cases h92 : l[k] = 92
      · have t92 := is92 h92
        go_upto_region 9 with (fail)
        clear t34 t92
        by_cases he : k1 < l.length
        · have he' : ((k1 : Int) == (l.length : Int)) = false := by rw [beq_eq_false_iff_ne]; omega
          have he2 : (k1 : Int) < (l.length : Int) := by omega
          by_cases a34 : l[k1] = 34
          · have s34 := eq34 a34
            have p1 := pl34 (Or.inl a34); have p2 := pm34 (Or.inl a34)
            have HN := Lib.hid (HQ.out.symm.trans (unq_92 L0 l k k1 HK1.out hlt h92 he (Or.inl a34))); clear h34 h92 a34
            go_wp2_with fail
            refine (Bd.write w.heap.size L0 l[k1] _ HD.out (by omega) hzb).mono ?_
            rintro er w3 ⟨rfl, hD2, hb2⟩
            have HD := Lib.hid hD2; have HB := Lib.hid (HB.out.trans hb2); have hzb := Nat.le_trans hzb hb2.size; clear hD2 hb2
            go_wp2
            go_round
            case rel => exact ⟨k1 + 1, L0 ++ [l[k1]], by omega, by go_num, HD.out, by rw [List.length_append]; show _ + 1 ≤ _; omega, Lib.hid HN.out.symm, hzb, HB.out⟩
            case measure => have := HK1.out; simp [intOf]; omega
          have s34 := neq34 a34
          by_cases a92 : l[k1] = 92
          · have s92 := eq92 a92
            have p1 := pl34 (Or.inr a92); have p2 := pm34 (Or.inr a92)
            have HN := Lib.hid (HQ.out.symm.trans (unq_92 L0 l k k1 HK1.out hlt h92 he (Or.inr a92))); clear h34 h92 a34 a92
            go_wp2_with fail
            refine (Bd.write w.heap.size L0 l[k1] _ HD.out (by omega) hzb).mono ?_
            rintro er w3 ⟨rfl, hD2, hb2⟩
            have HD := Lib.hid hD2; have HB := Lib.hid (HB.out.trans hb2); have hzb := Nat.le_trans hzb hb2.size; clear hD2 hb2
            go_wp2
            go_round
            case rel => exact ⟨k1 + 1, L0 ++ [l[k1]], by omega, by go_num, HD.out, by rw [List.length_append]; show _ + 1 ≤ _; omega, Lib.hid HN.out.symm, hzb, HB.out⟩
            case measure => have := HK1.out; simp [intOf]; omega
          have s92 := neq92 a92
          have HE0 := Lib.hid (unq_92b L0 l k k1 HK1.out hlt h92 he a34 a92); clear h34 h92 a34 a92
          have HE := Lib.hid (HQ.out.symm.trans (HE0.out))
          have hU : U = [] := congrArg Prod.fst HE.out
          have hF : fl = false := congrArg Prod.snd HE.out
          have HU := Lib.hid hU; have HF := Lib.hid hF; clear hU hF HE
          go_wp2
          go_ret2
          exact ⟨by rw [HU.out, HF.out] <;> rfl, HB.out⟩
        have he' : ((k1 : Int) == (l.length : Int)) = true := by have := HK1.out; rw [beq_iff_eq]; omega
        have HE0 := Lib.hid (unq_92e L0 l k k1 HK1.out hlt h92 he); clear h34 h92
        have HE := Lib.hid (HQ.out.symm.trans (HE0.out))
        have hU : U = [] := congrArg Prod.fst HE.out
        have hF : fl = false := congrArg Prod.snd HE.out
        have HU := Lib.hid hU; have HF := Lib.hid hF; clear hU hF HE
        go_wp2
        go_ret2
        exact ⟨by rw [HU.out, HF.out] <;> rfl, HB.out⟩
      have t92 := not92 h92
      by_cases h1 : (l[k].toNat : Int) < 32
      · have HE0 := Lib.hid (unq_no L0 l k hlt h34 h92 (okc_lo h1)); clear h34 h92
        have HE := Lib.hid (HQ.out.symm.trans (HE0.out))
        have hU : U = [] := congrArg Prod.fst HE.out
        have hF : fl = false := congrArg Prod.snd HE.out
        have HU := Lib.hid hU; have HF := Lib.hid hF; clear hU hF HE
        go_wp2
        go_ret2
        exact ⟨by rw [HU.out, HF.out] <;> rfl, HB.out⟩
      by_cases h2 : (126 : Int) < (l[k].toNat : Int)
      · have HE0 := Lib.hid (unq_no L0 l k hlt h34 h92 (okc_hi h2)); clear h34 h92
        have HE := Lib.hid (HQ.out.symm.trans (HE0.out))
        have hU : U = [] := congrArg Prod.fst HE.out
        have hF : fl = false := congrArg Prod.snd HE.out
        have HU := Lib.hid hU; have HF := Lib.hid hF; clear hU hF HE
        go_wp2
        go_ret2
        exact ⟨by rw [HU.out, HF.out] <;> rfl, HB.out⟩
      have HN := Lib.hid (HQ.out.symm.trans (unq_ok L0 l k hlt h34 h92 ((okc_iff _).2 (by omega)))); clear h34 h92
      go_wp2_with fail
      refine (Bd.write w.heap.size L0 l[k] _ HD.out (by omega) hzb).mono ?_
      rintro er w3 ⟨rfl, hD2, hb2⟩
      have HD := Lib.hid hD2; have HB := Lib.hid (HB.out.trans hb2); have hzb := Nat.le_trans hzb hb2.size; clear hD2 hb2
      go_wp2
      go_round
      case rel => exact ⟨k1, L0 ++ [l[k]], by have := HK1.out; omega, by go_num, HD.out, by rw [List.length_append]; show _ + 1 ≤ _; omega, Lib.hid (by rw [← HK1.out]; exact HN.out.symm), hzb, HB.out⟩
      case measure => have := HK1.out; simp [intOf]; omega
    · have hlt' : ¬ (k : Int) < (l.length : Int) := by omega
      have HE0 := Lib.hid (unq_end L0 l k hlt)
      have HE := Lib.hid (HQ.out.symm.trans (HE0.out))
      have hU : U = [] := congrArg Prod.fst HE.out
      have hF : fl = false := congrArg Prod.snd HE.out
      have HU := Lib.hid hU; have HF := Lib.hid hF; clear hU hF HE
      go_wp2
      go_ret2
      exact ⟨by rw [HU.out, HF.out] <;> rfl, HB.out⟩
end Go.Proofs.YtmffdoblpkjmjaaDoor
