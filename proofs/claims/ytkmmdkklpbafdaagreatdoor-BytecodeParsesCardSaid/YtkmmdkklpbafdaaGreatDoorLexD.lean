/- The walk of layer 7's Tokenize. No conditions. -/
import Derived.Test.YtkmmdkklpbafdaaGreatDoorLexC
namespace Go.Proofs.YtkmmdkklpbafdaaGreatDoor
open Go.RowKit

theorem infoTok : (Tryz.prog.info? 113).map (fun i => (i.zero, i.size, i.bytes)) = some (some (.agg #[.int .i64 0, .string ⟨#[]⟩, .int .i64 0, .int .i64 0]), 4, 40) := by kernel_rfl
def tkLs (L : List Tk) : List Value := L.flatMap tkL
theorem tkLs_length (L : List Tk) : (tkLs L).length = L.length * 4 := by
  unfold tkLs
  induction L with
  | nil => rfl
  | cons x r ih => rw [List.flatMap_cons, List.length_append, ih, List.length_cons]; show 4 + _ = _; omega
theorem tkLs_snoc (L : List Tk) (x : Tk) : tkLs (L ++ [x]) = tkLs L ++ tkL x := by unfold tkLs; rw [List.flatMap_append]; simp
theorem tkLs_one (L : List Tk) : ∀ u ∈ tkLs L, u.oneCell' = true := by
  intro u hu
  obtain ⟨x, _, h⟩ := List.mem_flatMap.1 hu
  simp only [tkL, List.mem_cons, List.not_mem_nil, or_false] at h
  rcases h with rfl | rfl | rfl | rfl <;> rfl
set_option maxRecDepth 100000 in
theorem cellsAt_tok (w : World) (x : Tk) : CellsAt (w.alloc (.cells (tkV x) 113)) (.slice (some ⟨w.heap.size, 0, none⟩) 1 1) 1 (tkL x) := by
  refine ⟨_, _, rfl, fun _ => ⟨_, _, rfl, fun j y hj => ?_⟩⟩
  rw [Nat.zero_add]
  have h := (Bx.new w (tkV x) 113).cell j
  rw [h]
  rcases j with _ | _ | _ | _ | j
  · exact hj
  · exact hj
  · exact hj
  · exact hj
  · simp [tkL] at hj
set_option maxRecDepth 100000 in
/-- 'v = append(v, y)', v a slice of tokens of the call's own -/
theorem wpList_append_tok {w1 : World} {ops : Array Oper} {rest : List Oper} {o : Oper} {a : Act} {Q : Exit → Act → World → Prop} (hgd : o.guard = none) (s x : Operand)
    (ho : o.op = .call { callee := .builtin .append, args := #[s, x], argTypes := #[109, 109] }) (B : Nat) (v : Value) (L : List Tk) (y : Tk) (hown : w1.ownsRow B 113 4 v L.length (tkLs L))
    (hs : a.eval s = v) (hx : a.eval x = .slice (some ⟨w1.heap.size, 0, none⟩) 1 1) (hlen : L.length ≤ 1000000) (W0 : World) (B0 : Nat) (hbel : Below B0 W0 w1) (hB : B ≤ w1.heap.size) (hB0 : B0 ≤ B)
    (h : ∀ v' w', w'.ownsRow B 113 4 v' (L ++ [y]).length (tkLs (L ++ [y])) → Below B0 W0 w' → w1.grownBy w' v.ownBlock → wpList Tryz.prog ops Q rest (a.put o.dst v') w') :
    wpList Tryz.prog ops Q (o :: rest) a (w1.alloc (.cells (tkV y) 113)) := by
  obtain ⟨i0, hi, hz0, hz1, hz2⟩ := info_parts infoTok
  refine wpList_append_any hgd s x 109 ho B 113 i0 (.agg #[.int .i64 0, .string ⟨#[]⟩, .int .i64 0, .int .i64 0]) 4 40 Tryz.underlying109 hi hz0 hz1 hz2 rfl (by decide) v _ L.length 1 (tkLs L) (tkL y) hs (hown.alloc _) hx (cellsAt_tok w1 y) rfl
    (by intro u hu; simp only [tkL, List.mem_cons, List.not_mem_nil, or_false] at hu; rcases hu with rfl | rfl | rfl | rfl <;> rfl) (by unfold maxLen; omega) (by omega) W0 B0 (hbel.alloc (Nat.le_trans hB0 hB) _) (by simp; omega) hB0 ?_
  intro v2 w2 hown2 hb2 hgrow
  refine h v2 w2 (by rw [tkLs_snoc, List.length_append]; exact hown2) hb2 ?_
  exact ⟨hgrow.os, hgrow.tape, hgrow.output, Nat.le_trans (by simp) hgrow.size, fun k hk hne => (hgrow.block k (by simp; omega) hne).trans ((World.grownBy_alloc w1 (.cells (tkV y) 113) none).block k hk (by simp))⟩
set_option maxRecDepth 100000 in
theorem own_tokAt {W : World} {B : Nat} {v : Value} {L : List Tk} (h : W.ownsRow B 113 4 v L.length (tkLs L)) : CellsAt W v L.length (tkLs L) := by
  rcases own_form h with ⟨rfl, h0⟩ | ⟨g, cap, rfl, hc, _⟩
  · have : L = [] := List.eq_nil_of_length_eq_zero h0
    subst this
    exact ⟨none, 0, rfl, fun hne => absurd rfl hne⟩
  · refine ⟨_, cap, rfl, fun _ => ⟨g, 0, rfl, fun j u hj => ?_⟩⟩
    have h1 := h.cells (g := g) rfl j u hj
    have e : (⟨g, 0, none⟩ : Addr).add j = ⟨g, 0 + j, none⟩ := by unfold Addr.add; split <;> simp_all
    rw [e] at h1; exact h1
set_option maxRecDepth 100000 in
theorem lit_len : ∀ (r acc : List UInt8) (i : Nat), (lit acc r i).1.length ≤ acc.length + r.length ∧ ((lit acc r i).2.2 = 0 → i < (lit acc r i).2.1 ∧ (lit acc r i).2.1 ≤ i + r.length)
  | [], acc, i => by simp [lit]
  | c :: r, acc, i => by
    rw [lit_cons]
    split
    · simp only [List.length_cons]; exact ⟨by omega, fun _ => ⟨by omega, by omega⟩⟩
    · split
      · cases r with
        | nil => simp
        | cons d t =>
          simp only
          split
          · split
            · simp
            · have h := lit_len t (acc ++ [d]) (i + 2)
              rw [List.length_append, List.length_singleton] at h
              simp only [List.length_cons]
              exact ⟨by omega, fun e => by have := h.2 e; omega⟩
          · simp
      · split
        · split
          · simp
          · have h := lit_len r (acc ++ [c]) (i + 1)
            rw [List.length_append, List.length_singleton] at h
            simp only [List.length_cons]
            exact ⟨by omega, fun e => by have := h.2 e; omega⟩
        · simp
theorem mkS_pre (s : List UInt8) : mkS s <+: s := by
  unfold mkS
  cases h : MK.find? fun m => m.isPrefixOf s with
  | none => exact List.nil_prefix
  | some m => have := List.find?_some h; exact List.isPrefixOf_iff_prefix.1 this
set_option maxRecDepth 100000 in
theorem wTok_len (s : List UInt8) : (wTok s).1.t.length ≤ s.length := by
  cases s with
  | nil => simp [wTok, tk0]
  | cons c r =>
    unfold wTok
    simp only
    split
    · split
      · exact Nat.le_refl _
      · split
        · exact Nat.le_refl _
        · simp [tk0]
    · split
      · simp
      · simp [tk0]
set_option maxRecDepth 100000 in
theorem tokS_len (s : List UInt8) : (tokS s).1.t.length ≤ s.length ∧ ((tokS s).2.2 = 0 → 1 ≤ (tokS s).2.1 ∧ (tokS s).2.1 ≤ s.length) := by
  have hw := wlen_le s
  unfold tokS
  split
  · rename_i h
    have h2 := wTok_len (s.take (wlen s))
    rw [List.length_take] at h2
    exact ⟨by simp only; omega, fun _ => ⟨h, hw⟩⟩
  · split
    · rename_i h1 h2
      have h := lit_len (s.drop 1) [] 1
      have h0 : 1 ≤ s.length := by cases s with | nil => simp at h2 | cons c r => simp
      rw [List.length_nil, List.length_drop] at h
      exact ⟨by simp only; omega, fun e => by have := h.2 e; simp only; omega⟩
    · split
      · exact ⟨by simp [tk0], fun e => absurd e (by simp)⟩
      · rename_i h
        have h3 := (mkS_pre s).length_le
        refine ⟨h3, fun _ => ⟨?_, h3⟩⟩
        cases hm : mkS s with
        | nil => exact absurd hm h
        | cons c r => simp
section
variable {l : List UInt8} {k f : Nat} {ln : Int} {L : List Tk}
theorem toks_end (h : ¬ k < l.length) : toks (f + 1) (l.drop k) ln L = (L, 0, 0) := by rw [List.drop_of_length_le (by omega)]; rfl
theorem toks_10 (hk : k < l.length) (h : l[k] = 10) : toks (f + 1) (l.drop k) ln L = toks f (l.drop (k + 1)) (ln + 1) L := by
  rw [List.drop_eq_getElem_cons hk]; conv => lhs; unfold toks
  rw [if_pos h]
theorem toks_bl (hk : k < l.length) (h1 : l[k] ≠ 10) (h : l[k] = 32 ∨ l[k] = 9) : toks (f + 1) (l.drop k) ln L = toks f (l.drop (k + 1)) ln L := by
  rw [List.drop_eq_getElem_cons hk]; conv => lhs; unfold toks
  rw [if_neg h1, if_pos h]
theorem toks_hash (hk : k < l.length) (h : l[k] = 35) : toks (f + 1) (l.drop k) ln L = toks f ((l.drop (k + 1)).dropWhile fun x => x != 10) ln L := by
  rw [List.drop_eq_getElem_cons hk]; conv => lhs; unfold toks
  rw [if_neg (by rw [h]; decide), if_neg (by rw [h]; decide), if_pos h]
theorem toks_bad {x : Tk} {n : Nat} {e : Int} (hk : k < l.length) (h1 : l[k] ≠ 10) (h2 : l[k] ≠ 32) (h3 : l[k] ≠ 9) (h4 : l[k] ≠ 35) (ht : tokS (l.drop k) = (x, n, e)) (he : e ≠ 0) : toks (f + 1) (l.drop k) ln L = ([], ln, e) := by
  rw [List.drop_eq_getElem_cons hk] at ht ⊢; conv => lhs; unfold toks
  rw [if_neg h1, if_neg (fun h => h.elim h2 h3), if_neg h4, ht, if_neg he]
theorem toks_ok {x : Tk} {n : Nat} (hk : k < l.length) (h1 : l[k] ≠ 10) (h2 : l[k] ≠ 32) (h3 : l[k] ≠ 9) (h4 : l[k] ≠ 35) (ht : tokS (l.drop k) = (x, n, 0)) : toks (f + 1) (l.drop k) ln L = toks f (l.drop (k + n)) ln (L ++ [⟨x.k, x.t, x.n, ln⟩]) := by
  have hd : l.drop (k + n) = (l.drop k).drop n := by rw [List.drop_drop]
  rw [hd]
  rw [List.drop_eq_getElem_cons hk] at ht ⊢; conv => lhs; unfold toks
  rw [if_neg h1, if_neg (fun h => h.elim h2 h3), if_neg h4, ht, if_pos rfl]
theorem dw_go (hk : k < l.length) (h : l[k] ≠ 10) : (l.drop k).dropWhile (fun x => x != 10) = (l.drop (k + 1)).dropWhile fun x => x != 10 := by
  rw [List.drop_eq_getElem_cons hk, List.dropWhile_cons, if_pos (by simpa using h)]
theorem dw_stop (hk : k < l.length) (h : l[k] = 10) : (l.drop k).dropWhile (fun x => x != 10) = l.drop k := by
  conv => lhs; rw [List.drop_eq_getElem_cons hk]
  rw [List.dropWhile_cons, if_neg (by simp [h])]
  rw [List.drop_eq_getElem_cons hk]
theorem dw_end (hk : ¬ k < l.length) : (l.drop k).dropWhile (fun x => x != 10) = l.drop k := by rw [List.drop_of_length_le (by omega)]; rfl
theorem isB {c d : UInt8} {n : Int} (hn : (d.toNat : Int) = n) (h : c = d) : ((c.toNat : Int) == n) = true := by rw [h, hn]; simp
theorem notB {c d : UInt8} {n : Int} (hn : (d.toNat : Int) = n) (h : c ≠ d) : ((c.toNat : Int) == n) = false := by
  rw [beq_eq_false_iff_ne]; intro e; apply h; apply UInt8.toNat_inj.1; omega
theorem isN {c d : UInt8} {n : Int} (hn : (d.toNat : Int) = n) (h : c = d) : ((c.toNat : Int) != n) = false := by rw [h, hn]; simp
theorem notN {c d : UInt8} {n : Int} (hn : (d.toNat : Int) = n) (h : c ≠ d) : ((c.toNat : Int) != n) = true := by
  rw [bne_iff_ne]; intro e; apply h; apply UInt8.toNat_inj.1; omega
end
theorem tokenS_eq {l : List UInt8} (h : ¬ 16384 < l.length) : tokenS l = toks (l.length + 1) l 1 [] := by unfold tokenS; rw [if_neg h]
theorem Bx.store4_3 {b : Nat} {T : TypeId} {W : World} {z0 z1 z2 z3 : Value} (h : Bx b #[z0, z1, z2, z3] T W) (u : Value) : Bx b #[z0, z1, z2, u] T (W.setCell ⟨b, 3, none⟩ u) := by have := h.set 3 u; simpa using this
theorem Bx.store4_1 {b : Nat} {T : TypeId} {W : World} {z0 z1 z2 z3 : Value} (h : Bx b #[z0, z1, z2, z3] T W) (u : Value) : Bx b #[z0, u, z2, z3] T (W.setCell ⟨b, 1, none⟩ u) := by have := h.set 1 u; simpa using this

set_option maxRecDepth 100000 in
set_option maxHeartbeats 4000000 in
theorem SClone_any (l : List UInt8) (hl : l.length ≤ 1000000) (w : World) :
    Calls Tryz.prog 129 #[.string (bs l)] w fun e w' => e = .returned (.string (bs l)) ∧ Below w.heap.size w w' := by
  go_enter Tryz.func129, Tryz.ntmps129
  go_wp2_with fail
  refine (Tryz.stringslite_Clone (bs l) _ (by rw [bs_size]; omega)).mono ?_
  rintro er w1 ⟨rfl, hb1⟩
  go_wp2
  go_ret
  exact ⟨rfl, hb1⟩
set_option maxRecDepth 100000 in
set_option maxHeartbeats 16000000 in
theorem Tokenize_any (l : List UInt8) (hl : l.length ≤ 9223372036854775807) (w : World) (hL : Laid w) :
    Calls Tryz.prog 99 #[.string (bs l)] w fun e w' => ∃ v, e = .returned (.tuple #[v, .int .i64 (tokenS l).2.1, .int .i64 (tokenS l).2.2]) ∧ CellsAt w' v (tokenS l).1.length (tkLs (tokenS l).1) ∧ Below w.heap.size w w' := by
  by_cases h16 : 16384 < l.length
  · have h16' : (16384 : Int) < (l.length : Int) := by omega
    have hr : tokenS l = ([], 0, 2) := by unfold tokenS; rw [if_pos h16]
    rw [hr]
    go_enter Tryz.func99, Tryz.ntmps99
    go_wp2
    go_ret3
    exact ⟨_, rfl, ⟨none, 0, rfl, fun h => absurd rfl h⟩, Below.refl _ _⟩
  have h16' : ¬ (16384 : Int) < (l.length : Int) := by omega
  obtain ⟨T, rl, re, hr⟩ : ∃ T a b, tokenS l = (T, a, b) := ⟨_, _, _, rfl⟩
  rw [hr]
  rw [tokenS_eq h16] at hr
  have HU := Lib.hid (show toks (l.length + 1) (l.drop 0) 1 [] = (T, rl, re) by rw [List.drop_zero]; exact hr); clear hr
  go_enter Tryz.func99, Tryz.ntmps99
  go_wp2
  go_loopw [5, 6, 7] (fun v li i wr => ∃ (k f : Nat) (ln : Int) (L0 : List Tk), k ≤ l.length ∧ i = .int .i64 k ∧ li = .int .i64 ln ∧ 1 ≤ ln ∧ ln ≤ (k : Int) + 1 ∧ L0.length ≤ k ∧ l.length - k < f ∧ wr.ownsRow w.heap.size 113 4 v L0.length (tkLs L0) ∧ Hid (toks f (l.drop k) ln L0 = (T, rl, re)) ∧ Below w.heap.size w wr) (fun _ _ i _ => l.length - (intOf i).toNat)
  case atStart => exact ⟨0, l.length + 1, 1, [], Nat.zero_le _, rfl, rfl, by omega, by omega, Nat.zero_le _, by omega, World.ownsRow_nil _ _ _ _, HU, Below.refl _ _⟩
  case round =>
    obtain ⟨k, f, ln, L0, hk, rfl, rfl, hn1, hn2, hL0, hf, hown, HQ, hB⟩ := hrel
    obtain ⟨sa, sc, rfl⟩ := own_sl hown
    clear HU
    have HO := Lib.hid hown; have HB := Lib.hid hB; clear hown hB
    obtain ⟨g, rfl⟩ : ∃ g, f = g + 1 := ⟨f - 1, by omega⟩
    by_cases hlt : k < l.length
    · have hlt' : (k : Int) < (l.length : Int) := by omega
      have hw1 : IntKind.i64.wrap ((k : Int) + 1) = ((k + 1 : Nat) : Int) := by rw [IntKind.wrap_i64]; omega
      have hw2 : IntKind.i64.wrap (ln + 1) = ln + 1 := by rw [IntKind.wrap_i64]; omega
      by_cases h10 : l[k] = 10
      · have t10 := isB (n := 10) rfl h10
        have HN := Lib.hid ((toks_10 hlt h10).symm.trans HQ.out); clear h10
        go_wp2
        go_roundw
        case rel => exact ⟨k + 1, g, ln + 1, L0, by omega, by go_num, rfl, by omega, by omega, by omega, by omega, HO.out, HN, HB.out⟩
        case measure => simp [intOf]; omega
      have t10 := notB (n := 10) rfl h10
      by_cases h32 : l[k] = 32
      · have t32 := isB (n := 32) rfl h32
        have HN := Lib.hid ((toks_bl hlt h10 (Or.inl h32)).symm.trans HQ.out); clear h10 h32
        go_wp2
        go_roundw
        case rel => exact ⟨k + 1, g, ln, L0, by omega, by go_num, rfl, by omega, by omega, by omega, by omega, HO.out, HN, HB.out⟩
        case measure => simp [intOf]; omega
      have t32 := notB (n := 32) rfl h32
      by_cases h9 : l[k] = 9
      · have t9 := isB (n := 9) rfl h9
        have HN := Lib.hid ((toks_bl hlt h10 (Or.inr h9)).symm.trans HQ.out); clear h10 h9 h32
        go_wp2
        go_roundw
        case rel => exact ⟨k + 1, g, ln, L0, by omega, by go_num, rfl, by omega, by omega, by omega, by omega, HO.out, HN, HB.out⟩
        case measure => simp [intOf]; omega
      have t9 := notB (n := 9) rfl h9
      by_cases h35 : l[k] = 35
      · have t35 := isB (n := 35) rfl h35
        have HN := Lib.hid ((toks_hash hlt h35).symm.trans HQ.out)
        have hd1 := dw_go hlt h10
        have HD := Lib.hid (show (l.drop k).dropWhile (fun x => x != 10) = (l.drop (k + 1)).dropWhile (fun x => x != 10) from hd1)
        clear hd1
        go_wp2
        go_loop [7] (fun i => ∃ k2 : Nat, k ≤ k2 ∧ k2 ≤ l.length ∧ i = .int .i64 k2 ∧ Hid ((l.drop k2).dropWhile (fun x => x != 10) = (l.drop (k + 1)).dropWhile (fun x => x != 10)) ∧ (k2 = k → l[k] ≠ 10)) (fun i => l.length - (intOf i).toNat)
        case atStart => exact ⟨k, Nat.le_refl _, hk, rfl, HD, fun _ => h10⟩
        case round =>
          obtain ⟨k2, hk2, hk3, rfl, HE, hne⟩ := hrel
          have hx : ¬ l[k] = 10 := h10
          by_cases hlt2 : k2 < l.length
          · have hlt2' : (k2 : Int) < (l.length : Int) := by omega
            have hw3 : IntKind.i64.wrap ((k2 : Int) + 1) = ((k2 + 1 : Nat) : Int) := by rw [IntKind.wrap_i64]; omega
            by_cases g10 : l[k2] = 10
            · have s10 := isN (n := 10) rfl g10
              have hkk : k < k2 := by
                rcases Nat.lt_or_eq_of_le hk2 with h | h
                · exact h
                · subst h; exact absurd g10 h10
              have HM := Lib.hid (show toks g (l.drop k2) ln L0 = (T, rl, re) by rw [← HN.out, ← HE.out, dw_stop hlt2 g10])
              clear g10 h10 h32 h9 h35 hne hx t10 t32 t9 t35
              go_wp2
              go_roundw
              case rel => exact ⟨k2, g, ln, L0, by omega, by go_num, rfl, by omega, by omega, by omega, by omega, HO.out, HM, HB.out⟩
              case measure => simp [intOf]; omega
            · have s10 := notN (n := 10) rfl g10
              have HE2 := Lib.hid ((dw_go hlt2 g10).symm.trans HE.out)
              clear g10
              go_wp2
              go_round
              case rel => exact ⟨k2 + 1, by omega, by omega, by go_num, HE2, fun h => by omega⟩
              case measure => simp [intOf]; omega
          · have hlt2' : ¬ (k2 : Int) < (l.length : Int) := by omega
            have hkk : k < k2 := by omega
            have HM := Lib.hid (show toks g (l.drop k2) ln L0 = (T, rl, re) by rw [← HN.out, ← HE.out, dw_end hlt2])
            clear h10 h32 h9 h35 hne hx t10 t32 t9 t35
            go_wp2
            go_roundw
            case rel => exact ⟨k2, g, ln, L0, by omega, by go_num, rfl, by omega, by omega, by omega, by omega, HO.out, HM, HB.out⟩
            case measure => simp [intOf]; omega
      have t35 := notB (n := 35) rfl h35
      obtain ⟨⟨xk, xt, xn, xl⟩, n, e, hx⟩ : ∃ x n e, tokS (l.drop k) = (x, n, e) := ⟨_, _, _, rfl⟩
      have htl := tokS_len (l.drop k)
      rw [hx, List.length_drop] at htl
      simp only at htl
      have hsl : (l.take l.length).drop k = l.drop k := by rw [List.take_length]
      have HSL := Lib.hid hsl; have HX := Lib.hid hx; clear hsl hx
      by_cases he : e = 0
      rotate_left
      · have te : (e != 0) = true := by rw [bne_iff_ne]; exact he
        have HF := Lib.hid ((toks_bad hlt h10 h32 h9 h35 HX.out he).symm.trans HQ.out); clear h10 h32 h9 h35 he
        go_wp2_with fail
        refine (first_any (l.drop k) (by rw [List.length_drop]; omega) (by rw [List.length_drop]; omega) _ (hL.below HB.out)).mono ?_
        rw [HX.out]
        simp only [tkV]
        rintro er w2 ⟨rfl, hb1⟩
        have hal := (Below.refl w2.heap.size w2).alloc (Nat.le_refl _) (.cells #[.int .i64 xk, .string (bs xt), .int .i64 xn, .int .i64 xl] 113)
        have HC := Lib.hid (btrans hb1 hb1.size hal)
        have HY := Lib.hid (Bx.new w2 #[.int .i64 xk, .string (bs xt), .int .i64 xn, .int .i64 xl] 113)
        have hwx := hb1.size
        have hwy := Nat.le_trans HB.out.size hb1.size
        have HB := Lib.hid (btrans (btrans HB.out HB.out.size hb1) (btrans HB.out HB.out.size hb1).size hal); clear hb1 hal
        go_upto_region 18 with (fail)
        generalize hW : w2.alloc (.cells #[.int .i64 xk, .string (bs xt), .int .i64 xn, .int .i64 xl] 113) = v2 at HB HC HY ⊢
        clear hW
        have hT : ([], ln, e) = (T, rl, re) := HF.out
        have h1 : T = [] := (congrArg Prod.fst hT).symm
        have h2 : rl = ln := (congrArg (fun x => x.2.1) hT).symm
        have h3 : re = e := (congrArg (fun x => x.2.2) hT).symm
        clear hT
        have H1 := Lib.hid h1; have H2 := Lib.hid h2; have H3 := Lib.hid h3; clear h1 h2 h3 HF
        go_wp2
        go_ret3
        exact ⟨_, by rw [H2.out, H3.out] <;> rfl, by rw [H1.out]; exact ⟨none, 0, rfl, fun h => absurd rfl h⟩, HB.out⟩
      have te : (e != 0) = false := by rw [he]; rfl
      subst he
      obtain ⟨hn0, hn3⟩ := htl.2 rfl
      have hw3 : IntKind.i64.wrap ((k : Int) + (n : Int)) = ((k + n : Nat) : Int) := by rw [IntKind.wrap_i64]; omega
      have HF := Lib.hid ((toks_ok hlt h10 h32 h9 h35 HX.out).symm.trans HQ.out); clear h10 h32 h9 h35
      go_wp2_with fail
      refine (first_any (l.drop k) (by rw [List.length_drop]; omega) (by rw [List.length_drop]; omega) _ (hL.below HB.out)).mono ?_
      rw [HX.out]
      simp only [tkV]
      rintro er w2 ⟨rfl, hb1⟩
      have hal := (Below.refl w2.heap.size w2).alloc (Nat.le_refl _) (.cells #[.int .i64 xk, .string (bs xt), .int .i64 xn, .int .i64 xl] 113)
      have HC := Lib.hid (btrans hb1 hb1.size hal)
      have HY := Lib.hid (Bx.new w2 #[.int .i64 xk, .string (bs xt), .int .i64 xn, .int .i64 xl] 113)
      have hwx := hb1.size
      have hwy := Nat.le_trans HB.out.size hb1.size
      have HB := Lib.hid (btrans (btrans HB.out HB.out.size hb1) (btrans HB.out HB.out.size hb1).size hal); clear hb1 hal
      go_upto_region 18 with (fail)
      generalize hW : w2.alloc (.cells #[.int .i64 xk, .string (bs xt), .int .i64 xn, .int .i64 xl] 113) = v2 at HB HC HY ⊢
      clear hW
      have y0 : v2.cell? ⟨w2.heap.size, 0, none⟩ = some (.int .i64 xk) := HY.out.cell 0
      have y1 : v2.cell? ⟨w2.heap.size, 1, none⟩ = some (.string (bs xt)) := HY.out.cell 1
      have y2 : v2.cell? ⟨w2.heap.size, 2, none⟩ = some (.int .i64 xn) := HY.out.cell 2
      have y3 : v2.cell? ⟨w2.heap.size, 3, none⟩ = some (.int .i64 xl) := HY.out.cell 3
      have z0 := HY.out.free 0
      have z1 := HY.out.free 1
      have z2 := HY.out.free 2
      have z3 := HY.out.free 3
      have HY2 := Lib.hid (HY.out.store4_3 (.int .i64 ln)); have HB2 := Lib.hid (below_set HB.out w2.heap.size 3 hwy (.int .i64 ln)); have HC2 := Lib.hid (below_set HC.out w2.heap.size 3 hwx (.int .i64 ln))
      go_upto_region 21 with (fail)
      clear y0 y1 y2 y3
      clear z0 z1 z2 z3
      clear HY HB HC
      generalize hWE : v2.setCell ⟨w2.heap.size, 3, none⟩ (.int .i64 ln) = v3 at HY2 HB2 HC2 ⊢
      clear hWE
      have y0 : v3.cell? ⟨w2.heap.size, 0, none⟩ = some (.int .i64 xk) := HY2.out.cell 0
      have y1 : v3.cell? ⟨w2.heap.size, 1, none⟩ = some (.string (bs xt)) := HY2.out.cell 1
      have y2 : v3.cell? ⟨w2.heap.size, 2, none⟩ = some (.int .i64 xn) := HY2.out.cell 2
      have y3 : v3.cell? ⟨w2.heap.size, 3, none⟩ = some (.int .i64 ln) := HY2.out.cell 3
      go_wp2_with fail
      refine (SClone_any xt (by omega) _).mono ?_
      rintro er w4 ⟨rfl, hb1⟩
      clear y0 y1 y2 y3
      have HY3 := Lib.hid (HY2.out.call hb1); have HB3 := Lib.hid (btrans HB2.out HB2.out.size hb1); have HC3 := Lib.hid (btrans HC2.out HC2.out.size hb1); clear hb1 HY2 HB2 HC2
      have y0 : w4.cell? ⟨w2.heap.size, 0, none⟩ = some (.int .i64 xk) := HY3.out.cell 0
      have y1 : w4.cell? ⟨w2.heap.size, 1, none⟩ = some (.string (bs xt)) := HY3.out.cell 1
      have y2 : w4.cell? ⟨w2.heap.size, 2, none⟩ = some (.int .i64 xn) := HY3.out.cell 2
      have y3 : w4.cell? ⟨w2.heap.size, 3, none⟩ = some (.int .i64 ln) := HY3.out.cell 3
      have z0 := HY3.out.free 0
      have z1 := HY3.out.free 1
      have z2 := HY3.out.free 2
      have z3 := HY3.out.free 3
      have HY4 := Lib.hid (HY3.out.store4_1 (.string (bs xt))); have HB4 := Lib.hid (below_set HB3.out w2.heap.size 1 hwy (.string (bs xt))); have HC4 := Lib.hid (below_set HC3.out w2.heap.size 1 hwx (.string (bs xt)))
      go_upto_region 22 with (fail)
      clear y0 y1 y2 y3
      clear z0 z1 z2 z3
      clear HY3 HB3 HC3
      generalize hWE : w4.setCell ⟨w2.heap.size, 1, none⟩ (.string (bs xt)) = v4 at HY4 HB4 HC4 ⊢
      clear hWE
      have y0 : v4.cell? ⟨w2.heap.size, 0, none⟩ = some (.int .i64 xk) := HY4.out.cell 0
      have y1 : v4.cell? ⟨w2.heap.size, 1, none⟩ = some (.string (bs xt)) := HY4.out.cell 1
      have y2 : v4.cell? ⟨w2.heap.size, 2, none⟩ = some (.int .i64 xn) := HY4.out.cell 2
      have y3 : v4.cell? ⟨w2.heap.size, 3, none⟩ = some (.int .i64 ln) := HY4.out.cell 3
      have HO4 := Lib.hid (own_below HO.out HC4.out)
      clear HO
      go_wp2_with (at_builtin; refine wpList_append_tok rfl _ _ rfl w.heap.size _ L0 ⟨xk, xt, xn, ln⟩ HO4.out rfl rfl (by omega) w w.heap.size HB4.out HB4.out.size (Nat.le_refl _) ?_; intro v5 w5 hown5 hb5 _)
      go_roundw
      case rel => exact ⟨k + n, g, ln, L0 ++ [⟨xk, xt, xn, ln⟩], by omega, by go_num, rfl, by omega, by omega, by rw [List.length_append]; show _ + 1 ≤ _; omega, by omega, hown5, HF, hb5⟩
      case measure => simp [intOf]; omega
    · have hlt' : ¬ (k : Int) < (l.length : Int) := by omega
      have hT : (L0, 0, 0) = (T, rl, re) := (toks_end (f := g) hlt).symm.trans HQ.out
      have h1 : T = L0 := (congrArg Prod.fst hT).symm
      have h2 : rl = 0 := (congrArg (fun x => x.2.1) hT).symm
      have h3 : re = 0 := (congrArg (fun x => x.2.2) hT).symm
      clear hT
      have H1 := Lib.hid h1; have H2 := Lib.hid h2; have H3 := Lib.hid h3; clear h1 h2 h3
      go_wp2
      go_ret3
      exact ⟨_, by rw [H2.out, H3.out] <;> rfl, by rw [H1.out]; exact own_tokAt HO.out, HB.out⟩
end Go.Proofs.YtkmmdkklpbafdaaGreatDoor
