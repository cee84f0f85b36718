/- The walks of layer 16's params and literal, and what they use of the library. No conditions. -/
import Derived.Test.YtkmmdkklpbafdaaGreatDoorBytK
import Derived.Test.YtkmmdkklpbafdaaGreatDoorShelf
import Derived.Lib.SplitLaws
import Derived.Lib.CountLaws
import Derived.Lib.IndexBytes
namespace Go.Proofs.YtkmmdkklpbafdaaGreatDoor
open Go.RowKit

theorem idx_cut (x : UInt8) : ∀ s : List UInt8, ((cutX x s).2.2 = false → Lib.index s [x] = -1 ∧ cutX x s = (s, [], false)) ∧ ((cutX x s).2.2 = true → Lib.index s [x] = ((cutX x s).1.length : Int) ∧ s = (cutX x s).1 ++ x :: (cutX x s).2.1)
  | [] => ⟨fun _ => ⟨rfl, rfl⟩, fun h => by simp [cutX] at h⟩
  | c :: r => by
    obtain ⟨h1, h2⟩ := idx_cut x r
    have hp : ([x] : List UInt8).isPrefixOf (c :: r) = (x == c) := by simp [List.isPrefixOf]
    unfold cutX Lib.index
    rw [hp]
    by_cases e : c = x
    · subst e
      simp
    · have e2 : (x == c) = false := by rw [beq_eq_false_iff_ne]; exact fun q => e q.symm
      rw [if_neg e, e2, if_neg (by simp)]
      refine ⟨fun h => ?_, fun h => ?_⟩
      · obtain ⟨q1, q2⟩ := h1 h
        rw [if_pos (by rw [q1]; rfl)]
        refine ⟨rfl, ?_⟩
        rw [q2]
      · obtain ⟨q1, q2⟩ := h2 h
        have : ¬ (Lib.index r [x] == -1) = true := by rw [q1]; intro q; have := beq_iff_eq.1 q; omega
        rw [if_neg this, q1]
        refine ⟨by simp, ?_⟩
        show c :: r = c :: ((cutX x r).1 ++ x :: (cutX x r).2.1)
        rw [← q2]
theorem cut_lib (x : UInt8) (s : List UInt8) : Lib.cut s [x] = cutX x s := by
  obtain ⟨h1, h2⟩ := idx_cut x s
  unfold Lib.cut
  cases hb : (cutX x s).2.2 with
  | false =>
    obtain ⟨q1, q2⟩ := h1 hb
    rw [if_neg (by rw [q1]; decide), q2]
  | true =>
    obtain ⟨q1, q2⟩ := h2 hb
    rw [if_pos (by rw [q1]; omega), q1, Int.toNat_natCast]
    obtain ⟨⟨a, b, m⟩, hc⟩ : ∃ R, cutX x s = R := ⟨_, rfl⟩
    rw [hc] at q2 hb ⊢
    simp only at q2 hb ⊢
    rw [hb, q2]
    simp [List.drop_append]
theorem split_eq (x : UInt8) : ∀ (n : Nat) (s : List UInt8), s.length ≤ n → Lib.splitB (bs [x]) 0 (Lib.countB (bs s) (bs [x])) (bs s) = (splX x s).map bs ∧ Lib.countB (bs s) (bs [x]) + 1 = (splX x s).length
  | n, s, hn => by
    obtain ⟨h1, h2⟩ := idx_cut x s
    have hix : Lib.indexB (bs s) (bs [x]) = Lib.index s [x] := by show Lib.index (bs s).data.toList (bs [x]).data.toList = _; rw [toList_bs, toList_bs]
    rw [splX_cut]
    cases hb : (cutX x s).2.2 with
    | false =>
      obtain ⟨q1, q2⟩ := h1 hb
      rw [Lib.countB_miss _ _ (hix.trans q1), Lib.splitB_zero, q2]
      exact ⟨rfl, rfl⟩
    | true =>
      obtain ⟨q1, q2⟩ := h2 hb
      have hlt := cutX_len hb
      obtain ⟨⟨a, b, m⟩, hc⟩ : ∃ R, cutX x s = R := ⟨_, rfl⟩
      rw [hc] at q1 q2 hb hlt
      rw [hc]
      simp only at q1 q2 hb hlt ⊢
      cases n with
      | zero => omega
      | succ n =>
        have hi : Lib.indexB (bs s) (bs [x]) = ((a.length : Nat) : Int) := hix.trans q1
        have hex : (bs s).extract (a.length + (bs [x]).size) (bs s).size = bs b := by
          rw [bs_size, bs_size, bs_extract, List.take_length, q2]
          congr 1
          simp [List.drop_append]
        obtain ⟨i1, i2⟩ := split_eq x n b (by omega)
        rw [Lib.countB_hit _ _ _ (by rw [bs_size]; exact Nat.le_refl 1) hi, hex, Nat.add_comm 1, Lib.splitB_hit _ _ _ _ _ hi, hex, i1, if_pos trivial]
        refine ⟨?_, by simp only [List.length_cons]; omega⟩
        rw [List.map_cons]
        congr 1
        rw [bs_extract, Nat.add_zero, List.drop_zero, q2]
        congr 1
        simp
theorem idx_first {x : List UInt8} : ∀ (L : List (List UInt8)) (k : Nat) (hk : k < L.length), L[k] = x → (∀ j (hj : j < L.length), j < k → L[j] ≠ x) → L.idxOf x = k
  | [], _, h, _, _ => absurd h (Nat.not_lt_zero _)
  | a :: r, 0, _, h, _ => by
    have e : (a == x) = true := by rw [show a = x from h]; exact beq_self_eq_true x
    rw [List.idxOf_cons, e]; rfl
  | a :: r, k + 1, hk, h, hn => by
    have h0 : a ≠ x := hn 0 (Nat.zero_lt_succ _) (Nat.zero_lt_succ _)
    have e : (a == x) = false := beq_eq_false_iff_ne.2 h0
    have ih := idx_first r k (Nat.lt_of_succ_lt_succ hk) h (fun j hj hjk => hn (j + 1) (Nat.succ_lt_succ hj) (by omega))
    rw [List.idxOf_cons, e, ih]; rfl
theorem idx_none {x : List UInt8} : ∀ (L : List (List UInt8)), (∀ j (hj : j < L.length), L[j] ≠ x) → L.idxOf x = L.length
  | [], _ => rfl
  | a :: r, hn => by
    have h0 : a ≠ x := hn 0 (Nat.zero_lt_succ _)
    have e : (a == x) = false := beq_eq_false_iff_ne.2 h0
    have ih := idx_none r (fun j hj => hn (j + 1) (Nat.succ_lt_succ hj))
    rw [List.idxOf_cons, e, ih]; rfl
def idxI (L : List (List UInt8)) (x : List UInt8) : Int := if L.idxOf x < L.length then (L.idxOf x : Int) else -1
theorem idxI_hit {L : List (List UInt8)} {x : List UInt8} {k : Nat} (hk : k < L.length) (h : L[k] = x) (hn : ∀ j (hj : j < L.length), j < k → L[j] ≠ x) : idxI L x = (k : Int) := by unfold idxI; rw [idx_first L k hk h hn, if_pos hk]
theorem idxI_miss {L : List (List UInt8)} {x : List UInt8} (hn : ∀ j (hj : j < L.length), L[j] ≠ x) : idxI L x = -1 := by unfold idxI; rw [idx_none L hn, if_neg (by omega)]
theorem Split_any (s : List UInt8) (x : UInt8) (w : World) (hs : s.length ≤ 1000000) (hB : LaidB w) :
    Calls Tryz.prog 34 #[.string (bs s), .string (bs [x])] w fun e w' => e = .returned (.slice (some ⟨w.heap.size, 0, none⟩) (splX x s).length (splX x s).length) ∧ w' = w.alloc (.cells ((splX x s).map strV).toArray 9) := by
  obtain ⟨m, hm⟩ := hB.2.2
  obtain ⟨h1, h2⟩ := split_eq x s.length s (Nat.le_refl _)
  refine (Tryz.strings_Split (bs s) (bs [x]) m w (by rw [bs_size]; omega) hm (by rw [bs_size]; exact Nat.le_refl 1)).mono ?_
  rw [h1, h2]
  rintro e w' ⟨rfl, rfl⟩
  refine ⟨rfl, ?_⟩
  rw [List.map_map]; rfl
theorem CutPrefix_any (s p : List UInt8) (w : World) :
    Calls Tryz.prog 36 #[.string (bs s), .string (bs p)] w fun e w' => e = .returned (.tuple #[.string (bs (if p.isPrefixOf s = true then s.drop p.length else s)), .bool (p.isPrefixOf s)]) ∧ w' = w := by
  refine (Tryz.strings_CutPrefix (bs s) (bs p) w).mono ?_
  rw [toList_bs, toList_bs]
  rintro e w' ⟨rfl, rfl⟩
  exact ⟨rfl, rfl⟩
theorem Cut_any (s : List UInt8) (x : UInt8) (w : World) (hs : s.length ≤ 1000000) (hB : LaidB w) :
    Calls Tryz.prog 69 #[.string (bs s), .string (bs [x])] w fun e w' => e = .returned (.tuple #[.string (bs (cutX x s).1), .string (bs (cutX x s).2.1), .bool (cutX x s).2.2]) ∧ Below w.heap.size w w' := by
  obtain ⟨m, hm⟩ := hB.2.2
  refine (Tryz.strings_Cut (bs s) (bs [x]) m w (by rw [bs_size]; omega) hm).mono ?_
  rw [toList_bs, toList_bs, cut_lib]
  rintro e w' ⟨rfl, n, rfl⟩
  exact ⟨rfl, bdrewN (Below.refl _ _) n⟩
theorem litS_no {s : List UInt8} {T : List Tk} {ln e : Int} (h : tokenS s = (T, ln, e)) (hn : e ≠ 0 ∨ T.length ≠ 1 ∨ ∃ x, T = [x] ∧ x.k ≠ 4) : litS s = ([], false) := by
  unfold litS
  rw [h]
  rcases T with _ | ⟨x, _ | ⟨y, r⟩⟩
  · rfl
  · simp only
    rw [if_neg]
    rintro ⟨h1, h2⟩
    rcases hn with q | q | ⟨z, q, q2⟩
    · exact q h1
    · simp at q
    · cases q; exact q2 h2
  · rfl
theorem litS_yes {s q : List UInt8} {x : Tk} {ln qe : Int} (h : tokenS s = ([x], ln, 0)) (hk : x.k = 4) (hq : quoL x.t = (q, qe)) : litS s = (x.t, decide (qe = 0) && decide (q = s)) := by
  unfold litS
  rw [h]
  simp [hk, hq]
theorem drop_while_len {p : UInt8 → Bool} : ∀ l : List UInt8, (l.dropWhile p).length ≤ l.length
  | [] => by simp
  | c :: r => by
    have := drop_while_len (p := p) r
    rw [List.dropWhile_cons]
    split
    · simp only [List.length_cons]; omega
    · exact Nat.le_refl _
theorem toks_txt (B : Nat) : ∀ (f : Nat) (s : List UInt8) (ln : Int) (L : List Tk), s.length ≤ B → (∀ x ∈ L, x.t.length ≤ B) → ∀ x ∈ (toks f s ln L).1, x.t.length ≤ B
  | 0, _, _, _, _, h => h
  | _ + 1, [], _, _, _, h => h
  | f + 1, c :: r, ln, L, hs, h => by
    have hr : r.length ≤ B := by simp only [List.length_cons] at hs; omega
    unfold toks
    split
    · exact toks_txt B f r _ L hr h
    · split
      · exact toks_txt B f r _ L hr h
      · split
        · exact toks_txt B f _ _ L (Nat.le_trans (drop_while_len r) hr) h
        · split
          · refine toks_txt B f _ _ _ (by rw [List.length_drop]; omega) ?_
            intro x hx
            rcases List.mem_append.1 hx with hx | hx
            · exact h x hx
            · rw [List.mem_singleton] at hx
              subst hx
              exact Nat.le_trans (tokS_len (c :: r)).1 hs
          · intro x hx; simp at hx
theorem token_txt {s : List UInt8} {T : List Tk} {ln e : Int} (h : tokenS s = (T, ln, e)) (hs : s.length ≤ 100000) : ∀ x ∈ T, x.t.length ≤ 100000 := by
  unfold tokenS at h
  split at h
  · have : T = [] := (congrArg Prod.fst h).symm
    subst this
    intro x hx; simp at hx
  · have := toks_txt 100000 (s.length + 1) s 1 [] hs (by simp)
    rw [h] at this
    exact this
theorem dec_beq (a b : List UInt8) : decide (a = b) = (a == b) := by by_cases e : a = b <;> simp [e]
theorem quoL_len (s : List UInt8) : (quoL s).1.length ≤ 2 * s.length + 2 := by
  have := esc_len2 s
  unfold quoL
  split
  · simp
  · split
    · unfold quoS; simp only [List.length_cons, List.length_append, List.length_nil]; omega
    · simp
theorem strs_cell {W : World} {b : Nat} {L : List (List UInt8)} (h : Bx b (L.map strV).toArray 9 W) {k : Nat} (hk : k < L.length) : W.cell? ⟨b, k, none⟩ = some (.string (bs L[k])) := by
  rw [h.cell k, strs_at hk, List.getD_eq_getElem?_getD, List.getElem?_eq_getElem hk]; rfl

set_option maxRecDepth 100000 in
set_option maxHeartbeats 8000000 in
theorem SIndex_any (b : Nat) (L : List (List UInt8)) (x : List UInt8) (n c : Nat) (w : World) (hn : L.length = n) (hX : Bx b (L.map strV).toArray 9 w) (hL : n ≤ 1000000) :
    Calls Tryz.prog 70 #[.slice (some ⟨b, 0, none⟩) n c, .string (bs x)] w fun e w' => e = .returned (.int .i64 (idxI L x)) ∧ Below w.heap.size w w' := by
  obtain ⟨R, hR⟩ : ∃ R, idxI L x = R := ⟨_, rfl⟩
  rw [hR]
  have HR := Lib.hid hR; have HX := Lib.hid hX; have HN := Lib.hid hn; clear hR hX hn
  go_enter Tryz.func70, Tryz.ntmps70
  go_wp2
  go_loopw [8] (fun i wr => ∃ k : Nat, k ≤ n ∧ i = .int .i64 k ∧ Hid (∀ j (hj : j < L.length), j < k → L[j] ≠ x) ∧ wr = w) (fun i _ => n - (intOf i).toNat)
  case atStart => exact ⟨0, Nat.zero_le _, by first | exact True.intro | rfl, Lib.hid (fun j hj h => absurd h (Nat.not_lt_zero _)), by first | exact True.intro | rfl⟩
  case round =>
    obtain ⟨k, hk, rfl, HQ, rfl⟩ := hrel
    by_cases hlt : k < n
    · have hlt' : (k : Int) < (n : Int) := by omega
      have hlt2 : k < L.length := by rw [HN.out]; exact hlt
      have hw1 : IntKind.i64.wrap ((k : Int) + 1) = (k : Int) + 1 := by rw [IntKind.wrap_i64]; omega
      have p0 := strs_cell HX.out hlt2
      obtain ⟨y, hy⟩ : ∃ y, L[k] = y := ⟨_, rfl⟩
      rw [hy] at p0
      have HY := Lib.hid hy; clear hy
      by_cases e : x = y
      · have te : (x == y) = true := by rw [e]; simp
        have HF := Lib.hid (HR.out.symm.trans (idxI_hit hlt2 (by rw [HY.out, ← e]) HQ.out))
        clear e
        go_wp2
        go_ret
        exact ⟨by rw [HF.out] <;> rfl, Below.refl _ _⟩
      have te : (x == y) = false := by rw [beq_eq_false_iff_ne]; exact e
      have HN2 := Lib.hid (show ∀ j (hj : j < L.length), j < k + 1 → L[j] ≠ x from fun j hj hjk => by
        by_cases e2 : j = k
        · subst e2; rw [HY.out]; exact fun q => e q.symm
        · exact HQ.out j hj (by omega))
      clear e
      go_wp2
      go_roundw
      case rel => exact ⟨k + 1, by omega, by go_num, HN2, by first | exact True.intro | rfl⟩
      case measure => simp [intOf]; omega
    · have hlt' : ¬ (k : Int) < (n : Int) := by omega
      have HF := Lib.hid (HR.out.symm.trans (idxI_miss (fun j hj => HQ.out j hj (by have := HN.out; omega))))
      go_wp2
      go_ret
      exact ⟨by rw [HF.out] <;> rfl, Below.refl _ _⟩
theorem par_no {s w0 : List UInt8} {r : List (List UInt8)} (h : splX 32 s = w0 :: r) (hn : w0 ≠ [112, 97, 114, 97, 109, 115]) : parP s = ([], false) := by unfold parP; rw [h]; simp only; rw [if_neg hn]
theorem par_yes {s w0 : List UInt8} {r : List (List UInt8)} (h : splX 32 s = w0 :: r) (hn : w0 = [112, 97, 114, 97, 109, 115]) : parP s = parG [] (r.drop 0) := by unfold parP; rw [h]; simp only; rw [if_pos hn]; rfl
theorem parG_1 {A : List Int} {r : List (List UInt8)} {k : Nat} (hk : k < r.length) (h : r[k] = [105, 110, 116]) : parG A (r.drop k) = parG (A ++ [1]) (r.drop (k + 1)) := by rw [List.drop_eq_getElem_cons hk, h]; show (if _ then _ else _) = _; rw [if_pos rfl]
theorem parG_2 {A : List Int} {r : List (List UInt8)} {k : Nat} (hk : k < r.length) (h : r[k] = [115, 116, 114]) : parG A (r.drop k) = parG (A ++ [2]) (r.drop (k + 1)) := by rw [List.drop_eq_getElem_cons hk, h]; show (if _ then _ else if _ then _ else _) = _; rw [if_neg (by decide), if_pos rfl]
theorem parG_no {A : List Int} {r : List (List UInt8)} {k : Nat} (hk : k < r.length) (h : r[k] ≠ [105, 110, 116]) (h2 : r[k] ≠ [115, 116, 114]) : parG A (r.drop k) = ([], false) := by rw [List.drop_eq_getElem_cons hk]; show (if _ then _ else if _ then _ else _) = _; rw [if_neg h, if_neg h2]
theorem parG_end {A : List Int} {r : List (List UInt8)} {k : Nat} (hk : ¬ k < r.length) : parG A (r.drop k) = (A, true) := by rw [List.drop_of_length_le (by omega)]; rfl
theorem splX_len (x : UInt8) : ∀ s : List UInt8, (splX x s).length ≤ s.length + 1
  | [] => by simp [splX]
  | c :: r => by
    have ih := splX_len x r
    by_cases h : c = x
    · rw [show splX x (c :: r) = [] :: splX x r by rw [splX, if_pos h]]; simp only [List.length_cons]; omega
    · obtain ⟨a, t, h1, h2⟩ := splX_cons_ne h r
      rw [h2]; rw [h1] at ih; simp only [List.length_cons] at ih ⊢; omega
theorem splX_mem_len (x : UInt8) : ∀ s : List UInt8, ∀ q ∈ splX x s, q.length ≤ s.length
  | [], q, h => by simp [splX] at h; subst h; simp
  | c :: r, q, h => by
    have ih := splX_mem_len x r
    by_cases e : c = x
    · rw [show splX x (c :: r) = [] :: splX x r by rw [splX, if_pos e]] at h
      rcases List.mem_cons.1 h with rfl | h
      · simp
      · have := ih q h; simp only [List.length_cons]; omega
    · obtain ⟨a, t, h1, h2⟩ := splX_cons_ne e r
      rw [h2] at h
      rcases List.mem_cons.1 h with rfl | h
      · have := ih a (by rw [h1]; simp); simp only [List.length_cons]; omega
      · have := ih q (by rw [h1]; simp [h]); simp only [List.length_cons]; omega

set_option maxRecDepth 100000 in
set_option maxHeartbeats 16000000 in
theorem params_any (s : List UInt8) (w : World) (hs : s.length ≤ 100000) (hB : LaidB w) :
    Calls Tryz.prog 35 #[.string (bs s)] w fun e w' => ∃ v, e = .returned (.tuple #[v, .bool (parP s).2]) ∧ w'.ownsRow w.heap.size 3 1 v (parP s).1.length (intsL (parP s).1) ∧ (parP s).1.length ≤ s.length ∧ Below w.heap.size w w' := by
  obtain ⟨w0, r, hr⟩ : ∃ w0 r, splX 32 s = w0 :: r := by
    cases h : splX 32 s with
    | nil => exact absurd h (splX_ne 32 s)
    | cons a b => exact ⟨a, b, rfl⟩
  have hrl := splX_len 32 s
  rw [hr, List.length_cons] at hrl
  obtain ⟨⟨D, g⟩, hD⟩ : ∃ R, parP s = R := ⟨_, rfl⟩
  rw [hD]
  have HD := Lib.hid hD; have HR := Lib.hid hr; clear hD hr
  have hlen : (splX 32 s).length = r.length + 1 := by rw [HR.out]; rfl
  go_enter Tryz.func35, Tryz.ntmps35
  go_wp2_with fail
  refine (Split_any s 32 _ (by omega) hB).mono ?_
  rw [hlen, HR.out]
  rintro er w1 ⟨rfl, rfl⟩
  clear hlen
  have hal := (Below.refl w.heap.size w).alloc (Nat.le_refl _) (.cells ((w0 :: r).map strV).toArray 9)
  have HB := Lib.hid hal; have HX := Lib.hid (Bx.new w ((w0 :: r).map strV).toArray 9); clear hal
  generalize hW : w.alloc (.cells ((w0 :: r).map strV).toArray 9) = v1 at HB HX ⊢
  clear hW
  have p0 := strs_cell HX.out (k := 0) (by simp)
  rw [List.getElem_cons_zero] at p0
  have hpos : (0 : Int) < ((r.length + 1 : Nat) : Int) := by omega
  have hpos2 : (0 : Int) < (r.length : Int) + 1 := by omega
  have hle1 : (1 : Int) ≤ (r.length : Int) + 1 := by omega
  by_cases e0 : w0 = [112, 97, 114, 97, 109, 115]
  rotate_left
  · have t0 : (w0 == [112, 97, 114, 97, 109, 115]) = false := by rw [beq_eq_false_iff_ne]; exact e0
    have E0 := Lib.hid e0; clear e0
    have hT : ([], false) = (D, g) := (par_no HR.out E0.out).symm.trans HD.out
    have h1 : D = [] := (congrArg Prod.fst hT).symm
    have h2 : g = false := (congrArg Prod.snd hT).symm
    have H1 := Lib.hid h1; have H2 := Lib.hid h2; clear hT h1 h2
    go_wp2
    go_ret2
    exact ⟨_, by rw [H2.out] <;> rfl, by rw [H1.out]; exact own_nil _ _ _ _, by rw [H1.out]; exact Nat.zero_le _, HB.out⟩
  have t0 : (w0 == [112, 97, 114, 97, 109, 115]) = true := by rw [e0]; rfl
  have HQ := Lib.hid ((par_yes HR.out e0).symm.trans HD.out)
  clear e0
  have HZ := Lib.hid (own_nil v1 w.heap.size 3 1)
  rcases Nat.eq_zero_or_pos r.length with hr0 | hr0
  · have hr1 := List.eq_nil_of_length_eq_zero hr0
    clear hr1
    go_wp2
    go_loopw [5, 17] (fun v i wr => ∃ (k : Nat) (A : List Int), k ≤ r.length ∧ i = .int .i64 k ∧ A.length = k ∧ Hid (parG A (r.drop k) = (D, g)) ∧ Hid (Bx w.heap.size ((w0 :: r).map strV).toArray 9 wr) ∧ Hid (wr.ownsRow w.heap.size 3 1 v A.length (intsL A)) ∧ Below w.heap.size w wr) (fun _ i _ => r.length - (intOf i).toNat)
    case atStart => exact ⟨0, [], Nat.zero_le _, rfl, rfl, HQ, HX, HZ, HB.out⟩
    case round =>
      clear p0 HB HX HQ HZ
      obtain ⟨k, A, hk, rfl, hAk, HQ, HX, HO, hB2⟩ := hrel
      have HB := Lib.hid hB2; clear hB2
      by_cases hlt : k < r.length
      · omega
      · have hlt' : ¬ (k : Int) < (r.length : Int) := by omega
        have hlt0 : ¬ (k : Int) < 0 := by omega
        have hT : (A, true) = (D, g) := (parG_end (A := A) hlt).symm.trans HQ.out
        have h1 : D = A := (congrArg Prod.fst hT).symm
        have h2 : g = true := (congrArg Prod.snd hT).symm
        have H1 := Lib.hid h1; have H2 := Lib.hid h2; clear hT h1 h2
        go_wp2
        go_ret2
        exact ⟨_, by rw [H2.out] <;> rfl, by rw [H1.out]; exact HO.out, by rw [H1.out]; omega, HB.out⟩
  · have hr1 : ¬ r.length = 0 := by omega
    clear hr0
    go_wp2
    go_loopw [5, 17] (fun v i wr => ∃ (k : Nat) (A : List Int), k ≤ r.length ∧ i = .int .i64 k ∧ A.length = k ∧ Hid (parG A (r.drop k) = (D, g)) ∧ Hid (Bx w.heap.size ((w0 :: r).map strV).toArray 9 wr) ∧ Hid (wr.ownsRow w.heap.size 3 1 v A.length (intsL A)) ∧ Below w.heap.size w wr) (fun _ i _ => r.length - (intOf i).toNat)
    case atStart => exact ⟨0, [], Nat.zero_le _, rfl, rfl, HQ, HX, HZ, HB.out⟩
    case round =>
      clear p0 HB HX HQ HZ
      obtain ⟨k, A, hk, rfl, hAk, HQ, HX, HO, hB2⟩ := hrel
      have HB := Lib.hid hB2; clear hB2
      by_cases hlt : k < r.length
      · have hlt' : (k : Int) < (r.length : Int) := by omega
        have hw1 : IntKind.i64.wrap ((k : Int) + 1) = (k : Int) + 1 := by rw [IntKind.wrap_i64]; omega
        have p1 := strs_cell HX.out (k := k + 1) (by simp; omega)
        rw [List.getElem_cons_succ] at p1
        have p2 : wr.cell? ⟨w.heap.size, 1 + k, none⟩ = some (.string (bs r[k])) := by rw [Nat.add_comm]; exact p1
        obtain ⟨y, hy⟩ : ∃ y, r[k] = y := ⟨_, rfl⟩
        rw [hy] at p1 p2
        have HY := Lib.hid hy; clear hy
        by_cases e1 : y = [105, 110, 116]
        · have t1 : (y == [105, 110, 116]) = true := by rw [e1]; rfl
          have E1 := Lib.hid e1; clear e1
          have HN := Lib.hid ((parG_1 (A := A) hlt (by rw [HY.out]; exact E1.out)).symm.trans HQ.out)
          go_wp2_with (at_builtin; refine wpList_append_int rfl _ _ rfl w.heap.size _ A 1 HO.out rfl rfl (by omega) w w.heap.size HB.out HB.out.size (Nat.le_refl _) ?_; intro v5 w5 hown5 hb5 hg5; have HX := Lib.hid (HX.out.grown hg5 HO.out (by decide)); have HB := Lib.hid hb5; have HO := Lib.hid hown5; clear hg5 hb5 hown5)
          go_roundw
          case rel => exact ⟨k + 1, A ++ [1], by omega, by go_num, by rw [List.length_append, hAk]; rfl, HN, HX, HO, HB.out⟩
          case measure => simp [intOf]; omega
        have t1 : (y == [105, 110, 116]) = false := by rw [beq_eq_false_iff_ne]; exact e1
        by_cases e2 : y = [115, 116, 114]
        · have t2 : (y == [115, 116, 114]) = true := by rw [e2]; rfl
          have E2 := Lib.hid e2; clear e1 e2
          have HN := Lib.hid ((parG_2 (A := A) hlt (by rw [HY.out]; exact E2.out)).symm.trans HQ.out)
          go_wp2_with (at_builtin; refine wpList_append_int rfl _ _ rfl w.heap.size _ A 2 HO.out rfl rfl (by omega) w w.heap.size HB.out HB.out.size (Nat.le_refl _) ?_; intro v5 w5 hown5 hb5 hg5; have HX := Lib.hid (HX.out.grown hg5 HO.out (by decide)); have HB := Lib.hid hb5; have HO := Lib.hid hown5; clear hg5 hb5 hown5)
          go_roundw
          case rel => exact ⟨k + 1, A ++ [2], by omega, by go_num, by rw [List.length_append, hAk]; rfl, HN, HX, HO, HB.out⟩
          case measure => simp [intOf]; omega
        have t2 : (y == [115, 116, 114]) = false := by rw [beq_eq_false_iff_ne]; exact e2
        have E1 := Lib.hid e1; have E2 := Lib.hid e2; clear e1 e2
        have hT : ([], false) = (D, g) := (parG_no (A := A) hlt (by rw [HY.out]; exact E1.out) (by rw [HY.out]; exact E2.out)).symm.trans HQ.out
        have h1 : D = [] := (congrArg Prod.fst hT).symm
        have h2 : g = false := (congrArg Prod.snd hT).symm
        have H1 := Lib.hid h1; have H2 := Lib.hid h2; clear hT h1 h2
        go_wp2
        go_ret2
        exact ⟨_, by rw [H2.out] <;> rfl, by rw [H1.out]; exact own_nil _ _ _ _, by rw [H1.out]; exact Nat.zero_le _, HB.out⟩
      · have hlt' : ¬ (k : Int) < (r.length : Int) := by omega
        have hlt0 : ¬ (k : Int) < 0 := by omega
        have hT : (A, true) = (D, g) := (parG_end (A := A) hlt).symm.trans HQ.out
        have h1 : D = A := (congrArg Prod.fst hT).symm
        have h2 : g = true := (congrArg Prod.snd hT).symm
        have H1 := Lib.hid h1; have H2 := Lib.hid h2; clear hT h1 h2
        go_wp2
        go_ret2
        exact ⟨_, by rw [H2.out] <;> rfl, by rw [H1.out]; exact HO.out, by rw [H1.out]; omega, HB.out⟩
set_option maxRecDepth 100000 in
set_option maxHeartbeats 16000000 in
theorem bliteral_any (s : List UInt8) (w : World) (hs : s.length ≤ 100000) (hB : LaidB w) :
    Calls Tryz.prog 71 #[.string (bs s)] w fun e w' => e = .returned (.tuple #[.string (bs (litS s).1), .bool (litS s).2]) ∧ Below w.heap.size w w' := by
  obtain ⟨⟨lt, lb⟩, hl⟩ : ∃ R, litS s = R := ⟨_, rfl⟩
  rw [hl]
  obtain ⟨⟨T, ln, te⟩, ht⟩ : ∃ R, tokenS s = R := ⟨_, rfl⟩
  have htt := token_txt ht (by omega)
  have HL := Lib.hid hl; have HT := Lib.hid ht; have HTT := Lib.hid htt; clear hl ht htt
  have HBB := Lib.hid hB; clear hB
  go_enter Tryz.func71, Tryz.ntmps71
  go_wp2_with fail
  refine (Tokenize_any s (by omega) _ HBB.out.1).mono ?_
  rw [HT.out]
  rintro er w1 ⟨v1, rfl, hc1, hb1⟩
  simp only at hc1
  obtain ⟨ad, cp, rfl, -⟩ := id hc1
  have HB := Lib.hid hb1; have HC := Lib.hid hc1; clear hb1 hc1
  by_cases e0 : te = 0
  rotate_left
  · have t0 : (te != 0) = true := by rw [bne_iff_ne]; exact e0
    have E0 := Lib.hid e0; clear e0
    have hT : ([], false) = (lt, lb) := (litS_no HT.out (.inl E0.out)).symm.trans HL.out
    have h1 : lt = [] := (congrArg Prod.fst hT).symm
    have h2 : lb = false := (congrArg Prod.snd hT).symm
    have H1 := Lib.hid h1; have H2 := Lib.hid h2; clear hT h1 h2
    go_wp2
    go_ret2
    exact ⟨by rw [H1.out, H2.out] <;> rfl, HB.out⟩
  have t0 : (te != 0) = false := by rw [e0]; rfl
  have E0 := Lib.hid e0; clear e0
  by_cases e1 : T.length = 1
  rotate_left
  · have t1 : ((T.length : Int) != 1) = true := by rw [bne_iff_ne]; omega
    have E1 := Lib.hid e1; clear e1
    have hT : ([], false) = (lt, lb) := (litS_no HT.out (.inr (.inl E1.out))).symm.trans HL.out
    have h1 : lt = [] := (congrArg Prod.fst hT).symm
    have h2 : lb = false := (congrArg Prod.snd hT).symm
    have H1 := Lib.hid h1; have H2 := Lib.hid h2; clear hT h1 h2
    go_wp2
    go_ret2
    exact ⟨by rw [H1.out, H2.out] <;> rfl, HB.out⟩
  obtain ⟨⟨xk, xt, xn, xl⟩, rfl⟩ : ∃ x, T = [x] := List.length_eq_one_iff.1 e1
  clear e1
  have t1 : (((([⟨xk, xt, xn, xl⟩] : List Tk).length : Nat) : Int) != 1) = false := rfl
  obtain ⟨ba, oa, hbe, p0, p1, p2, p3⟩ := tok_cells HC.out (k := 0) (by show 0 < 1; omega)
  cases hbe
  simp only [List.getElem_cons_zero, Nat.zero_mul, Nat.add_zero] at p0 p1 p2 p3
  have hlen : ([⟨xk, xt, xn, xl⟩] : List Tk).length = 1 := rfl
  simp only [hlen] at t1 ⊢
  clear hlen
  by_cases e4 : xk = 4
  rotate_left
  · have t4 : (xk != 4) = true := by rw [bne_iff_ne]; exact e4
    have E4 := Lib.hid e4; clear e4
    have hT : ([], false) = (lt, lb) := (litS_no HT.out (.inr (.inr ⟨_, rfl, E4.out⟩))).symm.trans HL.out
    have h1 : lt = [] := (congrArg Prod.fst hT).symm
    have h2 : lb = false := (congrArg Prod.snd hT).symm
    have H1 := Lib.hid h1; have H2 := Lib.hid h2; clear hT h1 h2
    go_wp2
    go_ret2
    exact ⟨by rw [H1.out, H2.out] <;> rfl, HB.out⟩
  have t4 : (xk != 4) = false := by rw [e4]; rfl
  have E4 := Lib.hid e4; clear e4
  obtain ⟨⟨qt, qe⟩, hq⟩ : ∃ R, quoL xt = R := ⟨_, rfl⟩
  have hxt : xt.length ≤ 100000 := HTT.out ⟨xk, xt, xn, xl⟩ (by simp)
  have HQ := Lib.hid hq; clear hq
  have hF := (litS_yes (by rw [HT.out, E0.out]) E4.out HQ.out).symm.trans HL.out
  have h1 : lt = xt := (congrArg Prod.fst hF).symm
  have h2 : lb = (decide (qe = 0) && decide (qt = s)) := (congrArg Prod.snd hF).symm
  have H1 := Lib.hid h1; have H2 := Lib.hid h2; clear hF h1 h2
  go_wp2_with fail
  refine (LQuote_any xt (by omega) _).mono ?_
  rw [HQ.out]
  rintro er w2 ⟨rfl, hb2⟩
  have HB := Lib.hid (btrans HB.out HB.out.size hb2)
  have p1 := cell1_below p1 hb2
  clear p0 p2 p3 hb2
  by_cases e5 : qe = 0
  rotate_left
  · have t5 : (qe == 0) = false := by rw [beq_eq_false_iff_ne]; exact e5
    have H2 := Lib.hid (show lb = false by rw [H2.out, decide_eq_false e5]; rfl)
    clear e5
    go_wp2
    go_ret2
    exact ⟨by rw [H1.out, H2.out] <;> rfl, HB.out⟩
  have t5 : (qe == 0) = true := by rw [e5]; rfl
  have H2 := Lib.hid (show lb = (qt == s) by rw [H2.out, decide_eq_true e5, Bool.true_and]; exact dec_beq qt s)
  clear e5
  go_wp2
  go_ret2
  exact ⟨by rw [H1.out, H2.out] <;> rfl, HB.out⟩
end Go.Proofs.YtkmmdkklpbafdaaGreatDoor
