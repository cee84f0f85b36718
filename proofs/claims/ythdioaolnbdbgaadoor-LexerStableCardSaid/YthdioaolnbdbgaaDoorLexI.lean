/- The walks of the reference's Moved and Feeds and of LexerParts. No conditions. -/
import Derived.Test.YthdioaolnbdbgaaDoorLexS
import Derived.BigFrame
namespace Go.Proofs.YthdioaolnbdbgaaDoor
open Go.RowKit

theorem wpList_append_want {P : Program} {w1 : World} {ops : Array Oper} {rest : List Oper} {o : Oper} {a : Act} {Q : Exit → Act → World → Prop} (hw : Region.wanted o (yielded ops a.tmps) = true) (s x : Operand) (t : TypeId)
    (ho : o.op = .call { callee := .builtin .append, args := #[s, x], argTypes := #[t, t] })
    (B : Nat) (e : TypeId) (i : TypeInfo) (z : Value) (size bytes : Nat) (ht : P.underlying t = some (.slice e)) (hi : P.info? e = some i) (hz : i.zero = some z)
    (hsize : i.size = size) (hby : i.bytes = bytes) (hzs : z.cells.size = size) (hsz : 0 < size)
    (v u : Value) (n m : Nat) (xs ys : List Value) (hs : a.eval s = v) (hown : w1.ownsRow B e size v n xs) (hx : a.eval x = u) (hU : CellsAt w1 u m ys) (hl : ys.length = m * size) (h1 : ∀ y ∈ ys, y.oneCell' = true)
    (h63 : n + m ≤ maxLen) (hbytes : ((n + m) + (n + m) / 4 + 192) * bytes ≤ 281474976710656) (W0 : World) (B0 : Nat) (hbel : Below B0 W0 w1) (hB : B ≤ w1.heap.size) (hB0 : B0 ≤ B)
    (h : ∀ v' w', w'.ownsRow B e size v' (n + m) (xs ++ ys) → Below B0 W0 w' → w1.grownBy w' v.ownBlock → wpList P ops Q rest (a.put o.dst v') w') :
    wpList P ops Q (o :: rest) a w1 := by
  obtain ⟨ad, cap, rfl, hcell⟩ := hU
  cases ad with
  | none =>
    have hM : ys = [] := by
      rcases ys with _ | ⟨y, r⟩
      · rfl
      · obtain ⟨b, off, hh, _⟩ := hcell (by simp)
        cases hh
    subst hM
    have hm : m = 0 := by
      rcases Nat.eq_zero_or_pos m with h0 | h0
      · exact h0
      · have := Nat.mul_pos h0 hsz; rw [← hl] at this; simp at this
    subst hm
    refine BigFrame.wpList_want hw fun K hK => ?_
    have hrun : (Builtin.append_ #[t, t] o.type #[v, .slice none 0 cap]).run P w1 = .ok v w1 := by
      rcases hown.2 with ⟨rfl, rfl⟩ | ⟨g, cap, cur, rfl, _, _, hnc, _⟩
      · simp [Builtin.append_, run_underlying ht, sizeOf, typeInfo, hi, Builtin.lenOf, Builtin.firstCells]
      · simp [Builtin.append_, run_underlying ht, sizeOf, typeInfo, hi, Builtin.lenOf, Builtin.firstCells, hnc, storeCells]
    unfold Oper.wp
    simp [execOp, ho, resolve, invoke, builtin, hs, hx, hrun, Result.andThen]
    exact hK _ _ (h v w1 (by simpa using hown) hbel ⟨rfl, rfl, rfl, Nat.le_refl _, fun _ _ _ => rfl⟩)
  | some ad =>
    have hnews : ∀ j y, ys[j]? = some y → w1.cell? (ad.add j) = some y := by
      intro j y hj
      obtain ⟨b, off, hh, hc⟩ := hcell (by intro h0; rw [h0] at hj; simp at hj)
      cases hh
      have e : (⟨b, off, none⟩ : Addr).add j = ⟨b, off + j, none⟩ := by unfold Addr.add; split <;> simp_all
      rw [e]; exact hc j y hj
    refine BigFrame.wpList_want hw fun K hK => wp_append_own_wide _ s x t ho B e i z size bytes ht hi hz hsize hby hzs hsz v n xs hs hown ad m cap ys hx hl hnews h1 h63 hbytes hB ?_
    intro v' w2 hown2 hgrow _
    exact hK _ _ (h v' w2 hown2 (hbel.grown hgrow (by have := hbel.size; omega) (fun k hk => by have := (hown.lt k hk).1; omega)) hgrow)
theorem take_one {α : Type} (M : List α) (k : Nat) (h : k < M.length) : M.take (k + 1) = M.take k ++ [M[k]] := by rw [List.take_add_one, List.getElem?_eq_getElem h]; rfl
theorem tkLs_app (A B : List Tk) : tkLs (A ++ B) = tkLs A ++ tkLs B := by unfold tkLs; rw [List.flatMap_append]
theorem tk_err : ∀ (n : Nat) (s : List UInt8) (ln : Int) (L : List Tk), s.length ≤ n → (tk s ln L).2.2 ≠ 0 → ln ≤ (tk s ln L).2.1 ∧ (tk s ln L).2.1 ≤ ln + (s.length : Int) := by
  intro n
  induction n with
  | zero => intro s ln L hs h; have : s = [] := List.eq_nil_of_length_eq_zero (by omega)
            subst this; exact absurd rfl h
  | succ n ih =>
    intro s ln L hs h
    cases s with
    | nil => exact absurd rfl h
    | cons c r =>
      rw [List.length_cons] at hs ⊢
      rw [tk_cons] at h ⊢
      split at h
      · rename_i h1; rw [if_pos h1]; have := ih r _ _ (by omega) h; omega
      · rename_i h1
        rw [if_neg h1]
        split at h
        · rename_i h2; rw [if_pos h2]; have := ih r _ _ (by omega) h; omega
        · rename_i h2
          rw [if_neg h2]
          split at h
          · rename_i h3; rw [if_pos h3]; have hl := (List.dropWhile_suffix (l := r) fun x => x != 10).length_le
            have := ih _ _ _ (by omega) h; omega
          · rename_i h3
            rw [if_neg h3]
            split at h
            · rename_i h4
              rw [if_pos h4]
              have hb2 := (tokS_len (c :: r)).2 h4
              have h5 := ih _ _ _ (by rw [List.length_drop, List.length_cons]; omega) h
              rw [List.length_drop, List.length_cons] at h5; omega
            · rename_i h4; rw [if_neg h4]; simp only; omega
theorem tokenS_err {s : List UInt8} {T : List Tk} {r e : Int} (hs : s.length ≤ 400) (h : tokenS s = (T, r, e)) (he : e ≠ 0) : 1 ≤ r ∧ r ≤ 401 := by
  rw [tokenS_tk (by omega)] at h
  have := tk_err s.length s 1 [] (Nat.le_refl _) (by rw [h]; exact he)
  rw [h] at this; simp only at this; omega

set_option maxRecDepth 100000 in
set_option maxHeartbeats 4000000 in
theorem Feeds_any (l : List UInt8) (hl : l.length ≤ 1000000) (w : World) :
    Calls Tryd.prog 19 #[.string (bs l)] w fun e w' => e = .returned (.int .i64 ((cnt l l.length : Nat) : Int)) ∧ w = w' := by
  go_enter Tryd.func19, Tryd.ntmps19
  go_wp2_with fail
  refine (feeds_any l l.length (Nat.le_refl _) hl _).mono ?_
  rintro er w1 ⟨rfl, rfl⟩
  go_wp2
  go_ret
  exact ⟨rfl, rfl⟩
set_option maxRecDepth 100000 in
set_option maxHeartbeats 8000000 in
theorem Moved_any (va : Value) (M : List Tk) (j : Int) (w : World) (hA : CellsAt w va M.length (tkLs M)) (hM : M.length ≤ 1000000) (hln : ∀ x ∈ M, 1 ≤ x.ln ∧ x.ln ≤ 1000000) (hj0 : 0 ≤ j) (hj1 : j ≤ 1000000) :
    Calls Tryd.prog 20 #[va, .int .i64 j] w fun e w' => ∃ v, e = .returned v ∧ CellsAt w' v (M.map (mv j)).length (tkLs (M.map (mv j))) ∧ Below w.heap.size w w' := by
  obtain ⟨aa, ca, rfl, -⟩ := id hA
  have HA := Lib.hid hA; have HLN := Lib.hid hln; clear hA hln
  go_enter Tryd.func20, Tryd.ntmps20
  go_wp2
  go_loopw [5, 6] (fun v i wr => ∃ k : Nat, k ≤ M.length ∧ i = .int .i64 k ∧ wr.ownsRow w.heap.size 37 4 v ((M.take k).map (mv j)).length (tkLs ((M.take k).map (mv j))) ∧ Below w.heap.size w wr) (fun _ i _ => M.length - (intOf i).toNat)
  case atStart => exact ⟨0, Nat.zero_le _, rfl, World.ownsRow_nil _ _ _ _, Below.refl _ _⟩
  case round =>
    obtain ⟨k, hk, rfl, hown, hB⟩ := hrel
    have HT := Lib.hid (show k < M.length → (M.take (k + 1)).map (mv j) = (M.take k).map (mv j) ++ [mv j (M.getD k tk0)] from fun h => by rw [take_one M k h, List.map_append]; simp [h])
    have hll : ((M.take k).map (mv j)).length ≤ 1000000 := by rw [List.length_map, List.length_take]; omega
    have hend := fun h : ¬ k < M.length => List.take_of_length_le (l := M) (i := k) (by omega)
    obtain ⟨L0, hL0⟩ : ∃ L0, (M.take k).map (mv j) = L0 := ⟨_, rfl⟩
    rw [hL0] at hown hll
    have HL0 := Lib.hid hL0; have HEND := Lib.hid hend; clear hL0 hend
    obtain ⟨sa, sc, rfl⟩ := own_sl hown
    have HO := Lib.hid hown; have HB := Lib.hid hB; clear hown hB
    by_cases hlt : k < M.length
    · have hlt' : (k : Int) < (M.length : Int) := by omega
      have hw1 : IntKind.i64.wrap ((k : Int) + 1) = (k : Int) + 1 := by rw [IntKind.wrap_i64]; omega
      obtain ⟨ba, oa, rfl, p0, p1, p2, p3⟩ := tok_cells (HA.out.below HB.out) hlt
      have hxl := HLN.out M[k] (List.getElem_mem hlt)
      have hgd : M.getD k tk0 = M[k] := by simp [hlt]
      obtain ⟨⟨xk, xt, xn, xl⟩, hx⟩ : ∃ x, M[k] = x := ⟨_, rfl⟩
      rw [hx] at p0 p1 p2 p3 hxl hgd
      simp only at p0 p1 p2 p3 hxl
      have hw2 : IntKind.i64.wrap (xl + j) = xl + j := by rw [IntKind.wrap_i64]; omega
      have HX := Lib.hid hx; have HGD := Lib.hid hgd; clear hx hgd
      have hal := (Below.refl wr.heap.size wr).alloc (Nat.le_refl _) (.cells #[.int .i64 xk, .string (bs xt), .int .i64 xn, .int .i64 xl] 37)
      have hwz := HB.out.size
      have HC := Lib.hid hal; have HY := Lib.hid (Bx.new wr #[.int .i64 xk, .string (bs xt), .int .i64 xn, .int .i64 xl] 37); have HB := Lib.hid (btrans HB.out HB.out.size hal); clear hal
      go_upto_region 6 with (fail)
      clear p0 p1 p2 p3
      generalize hW : wr.alloc (.cells #[.int .i64 xk, .string (bs xt), .int .i64 xn, .int .i64 xl] 37) = v1 at HC HY HB ⊢
      clear hW
      have y0 : v1.cell? ⟨wr.heap.size, 0, none⟩ = some (.int .i64 xk) := HY.out.cell 0
      have y1 : v1.cell? ⟨wr.heap.size, 1, none⟩ = some (.string (bs xt)) := HY.out.cell 1
      have y2 : v1.cell? ⟨wr.heap.size, 2, none⟩ = some (.int .i64 xn) := HY.out.cell 2
      have y3 : v1.cell? ⟨wr.heap.size, 3, none⟩ = some (.int .i64 xl) := HY.out.cell 3
      have z0 := HY.out.free 0
      have z1 := HY.out.free 1
      have z2 := HY.out.free 2
      have z3 := HY.out.free 3
      have HY2 := Lib.hid (HY.out.store4_3 (.int .i64 (xl + j))); have HB2 := Lib.hid (below_set HB.out wr.heap.size 3 hwz (.int .i64 (xl + j))); have HC2 := Lib.hid (below_set HC.out wr.heap.size 3 (Nat.le_refl _) (.int .i64 (xl + j)))
      go_upto_region 7 with (fail)
      clear y0 y1 y2 y3
      clear z0 z1 z2 z3
      clear HY HB HC
      generalize hWE : v1.setCell ⟨wr.heap.size, 3, none⟩ (.int .i64 (xl + j)) = v3 at HY2 HB2 HC2 ⊢
      clear hWE
      have y0 : v3.cell? ⟨wr.heap.size, 0, none⟩ = some (.int .i64 xk) := HY2.out.cell 0
      have y1 : v3.cell? ⟨wr.heap.size, 1, none⟩ = some (.string (bs xt)) := HY2.out.cell 1
      have y2 : v3.cell? ⟨wr.heap.size, 2, none⟩ = some (.int .i64 xn) := HY2.out.cell 2
      have y3 : v3.cell? ⟨wr.heap.size, 3, none⟩ = some (.int .i64 (xl + j)) := HY2.out.cell 3
      have HO4 := Lib.hid (own_below HO.out HC2.out)
      clear HO
      go_wp2_with (at_builtin; refine wpList_append_tok rfl _ _ rfl w.heap.size _ L0 ⟨xk, xt, xn, xl + j⟩ HO4.out rfl rfl (by omega) w w.heap.size HB2.out HB2.out.size (Nat.le_refl _) ?_; intro v5 w5 hown5 hb5 _)
      have HO5 := Lib.hid (show w5.ownsRow w.heap.size 37 4 v5 ((M.take (k + 1)).map (mv j)).length (tkLs ((M.take (k + 1)).map (mv j))) by rw [HT.out hlt, HL0.out, HGD.out]; exact hown5); have HB5 := Lib.hid hb5; clear hown5 hb5
      try go_wp2
      go_roundw
      case rel => exact ⟨k + 1, by omega, by go_num, HO5.out, HB5.out⟩
      case measure => simp [intOf]; omega
    · have hlt' : ¬ (k : Int) < (M.length : Int) := by omega
      have HF := Lib.hid (show M.map (mv j) = L0 by rw [← HL0.out, HEND.out hlt])
      have hlen : L0.length = M.length := by rw [← HF.out, List.length_map]
      have HLE := Lib.hid hlen; clear hlen
      go_wp2
      go_ret
      exact ⟨.slice sa L0.length sc, rfl, by rw [HF.out, ← HLE.out]; exact own_tokAt HO.out, HB.out⟩
set_option maxRecDepth 100000 in
set_option maxHeartbeats 16000000 in
theorem partsWalk (a : List UInt8) (ha : a.length ≤ 140737488351232) (b : List UInt8) (hb : b.length ≤ 140737488351232) (w : World) (hL : Laid w) :
    Calls Tryd.prog 5 #[.string (bs a), .string (bs b)] w fun e w' => e = .returned (.bool true) ∧ Below w.heap.size w w' := by
  by_cases h4 : (400 : Int) < (a.length : Int)
  · skip
    go_enter Tryd.func5, Tryd.ntmps5
    go_wp2_with fail
    refine (lives_any _ hL).mono ?_
    rintro er wz ⟨rfl, hbz⟩
    go_wp2
    go_ret
    exact ⟨rfl, hbz⟩
  by_cases h5 : (400 : Int) < (b.length : Int)
  · skip
    go_enter Tryd.func5, Tryd.ntmps5
    go_wp2_with fail
    refine (lives_any _ hL).mono ?_
    rintro er wz ⟨rfl, hbz⟩
    go_wp2
    go_ret
    exact ⟨rfl, hbz⟩
  have ha4 : a.length ≤ 400 := by omega
  have hb4 : b.length ≤ 400 := by omega
  have ha7 : a.length ≤ 9223372036854775807 := by omega
  have hb7 : b.length ≤ 9223372036854775807 := by omega
  obtain ⟨La, ra, ea, h1⟩ : ∃ T x y, tokenS a = (T, x, y) := ⟨_, _, _, rfl⟩
  obtain ⟨Lb, rb, eb, h2⟩ : ∃ T x y, tokenS b = (T, x, y) := ⟨_, _, _, rfl⟩
  have hLa : La.length ≤ 400 := by have := tokenS_count a; rw [h1] at this; exact Nat.le_trans this ha4
  have hLb : Lb.length ≤ 400 := by have := tokenS_count b; rw [h2] at this; exact Nat.le_trans this hb4
  have hlines := tokenS_lines (s := b)
  rw [h2] at hlines
  have hp := parts_ok ha4 hb4 (La := La) (Lb := Lb) (ra := ra) (rb := rb) (eb := eb)
  rw [h1, h2] at hp
  obtain ⟨n, hn⟩ : ∃ n, cnt a a.length = n := ⟨_, rfl⟩
  have hnl := cnt_le a a.length
  rw [hn] at hp hnl
  have hsz1 : ¬ 9223372036854775807 < a.length + 1 := by omega
  have hsz2 : ¬ 9223372036854775807 < (a ++ [10]).length + b.length := by rw [List.length_append]; show ¬ _ < a.length + 1 + b.length; omega
  have hw1 : IntKind.i64.wrap ((n : Int) + 1) = (n : Int) + 1 := by rw [IntKind.wrap_i64]; omega
  have hab : bs a ++ { data := #[10] } ++ bs b = bs (a ++ 10 :: b) := by show bs a ++ bs [10] ++ bs b = _; rw [bs_append, bs_append]; simp
  have habl : (a ++ 10 :: b).length ≤ 9223372036854775807 := by rw [List.length_append, List.length_cons]; omega
  have H1 := Lib.hid h1; have H2 := Lib.hid h2; have HLI := Lib.hid hlines; have HP := Lib.hid hp; have HN := Lib.hid hn; have HAB := Lib.hid hab; clear h1 h2 hlines hp hn hab
  by_cases hea : ea = 0
  rotate_left
  · have te : (ea != 0) = true := by rw [bne_iff_ne]; exact hea
    have HB := Lib.hid (Below.refl w.heap.size w)
    go_enter Tryd.func5, Tryd.ntmps5
    go_wp2_with fail
    refine (Tokenize_any a ha7 _ (hL.below HB.out)).mono ?_
    rw [H1.out]
    rintro er w1 ⟨v1, rfl, hc1, hb1⟩
    have HC1 := Lib.hid hc1
    have HB := Lib.hid (btrans HB.out HB.out.size hb1); clear hc1 hb1
    go_wp2_with fail
    refine (Tokenize_any b hb7 _ (hL.below HB.out)).mono ?_
    rw [H2.out]
    rintro er w2 ⟨v2, rfl, hc2, hb1⟩
    have HC2 := Lib.hid hc2
    have HC1 := Lib.hid (HC1.out.below hb1)
    have HB := Lib.hid (btrans HB.out HB.out.size hb1); clear hc2 hb1
    go_wp2_with fail
    refine (lives_any _ (hL.below HB.out)).mono ?_
    rintro er wz ⟨rfl, hbz⟩
    go_wp2
    go_ret
    exact ⟨rfl, btrans HB.out HB.out.size hbz⟩
  have te : (ea != 0) = false := by rw [hea]; rfl
  subst hea
  have hp := HP.out rfl rfl
  by_cases heb : eb = 0
  rotate_left
  · have tb : (eb != 0) = true := by rw [bne_iff_ne]; exact heb
    rw [if_neg heb] at hp
    have q1 : (eb == eb) = true := by simp
    have hbr : 1 ≤ rb ∧ rb ≤ 1000 := by have := tokenS_err (by omega) H2.out heb; omega
    have hw2 : IntKind.i64.wrap (rb + ((n : Int) + 1)) = rb + ((n : Int) + 1) := by rw [IntKind.wrap_i64]; omega
    have q2 : (rb + ((n : Int) + 1) == rb + ((n : Int) + 1)) = true := by simp
    have HT := Lib.hid hp; have HEB := Lib.hid heb; clear hp heb
    have HB := Lib.hid (Below.refl w.heap.size w)
    go_enter Tryd.func5, Tryd.ntmps5
    go_wp2_with fail
    refine (Tokenize_any a ha7 _ (hL.below HB.out)).mono ?_
    rw [H1.out]
    rintro er w1 ⟨v1, rfl, hc1, hb1⟩
    have HC1 := Lib.hid hc1
    have HB := Lib.hid (btrans HB.out HB.out.size hb1); clear hc1 hb1
    go_wp2_with fail
    refine (Tokenize_any b hb7 _ (hL.below HB.out)).mono ?_
    rw [H2.out]
    rintro er w2 ⟨v2, rfl, hc2, hb1⟩
    have HC2 := Lib.hid hc2
    have HC1 := Lib.hid (HC1.out.below hb1)
    have HB := Lib.hid (btrans HB.out HB.out.size hb1); clear hc2 hb1
    go_wp2_with fail
    rw [HAB.out]
    refine (Tokenize_any (a ++ 10 :: b) habl _ (hL.below HB.out)).mono ?_
    rw [HT.out]
    rintro er w3 ⟨v3, rfl, hc3, hb1⟩
    have HC3 := Lib.hid hc3
    have HC1 := Lib.hid (HC1.out.below hb1)
    have HC2 := Lib.hid (HC2.out.below hb1)
    have HB := Lib.hid (btrans HB.out HB.out.size hb1); clear hc3 hb1
    go_wp2_with fail
    refine (Feeds_any a (by omega) _).mono ?_
    rw [HN.out]
    rintro er wf ⟨rfl, rfl⟩
    obtain ⟨v3a, v3c, rfl, -⟩ := id HC3.out
    go_wp2_with fail
    refine (lives_any _ (hL.below HB.out)).mono ?_
    rintro er wz ⟨rfl, hbz⟩
    go_wp2
    go_ret
    exact ⟨rfl, btrans HB.out HB.out.size hbz⟩
  have tb : (eb != 0) = false := by rw [heb]; rfl
  subst heb
  rw [if_pos rfl] at hp
  have HT := Lib.hid hp; clear hp
  obtain ⟨i0, hi, hz0, hz1, hz2⟩ := info_parts infoTok
  have HB := Lib.hid (Below.refl w.heap.size w)
  go_enter Tryd.func5, Tryd.ntmps5
  go_wp2_with fail
  refine (Tokenize_any a ha7 _ (hL.below HB.out)).mono ?_
  rw [H1.out]
  rintro er w1 ⟨v1, rfl, hc1, hb1⟩
  have HC1 := Lib.hid hc1
  have HB := Lib.hid (btrans HB.out HB.out.size hb1); clear hc1 hb1
  go_wp2_with fail
  refine (Tokenize_any b hb7 _ (hL.below HB.out)).mono ?_
  rw [H2.out]
  rintro er w2 ⟨v2, rfl, hc2, hb1⟩
  have HC2 := Lib.hid hc2
  have HC1 := Lib.hid (HC1.out.below hb1)
  have HB := Lib.hid (btrans HB.out HB.out.size hb1); clear hc2 hb1
  go_wp2_with fail
  rw [HAB.out]
  refine (Tokenize_any (a ++ 10 :: b) habl _ (hL.below HB.out)).mono ?_
  rw [HT.out]
  rintro er w3 ⟨v3, rfl, hc3, hb1⟩
  have HC3 := Lib.hid hc3
  have HC1 := Lib.hid (HC1.out.below hb1)
  have HC2 := Lib.hid (HC2.out.below hb1)
  have HB := Lib.hid (btrans HB.out HB.out.size hb1); clear hc3 hb1
  go_wp2_with fail
  refine (Feeds_any a (by omega) _).mono ?_
  rw [HN.out]
  rintro er wf ⟨rfl, rfl⟩
  obtain ⟨v1a, v1c, rfl, -⟩ := id HC1.out
  obtain ⟨v2a, v2c, rfl, -⟩ := id HC2.out
  obtain ⟨v3a, v3c, rfl, -⟩ := id HC3.out
  go_wp2_with (at_builtin; refine wpList_append_want (by kernel_rfl) _ _ 27 rfl w3.heap.size 37 i0 (.agg #[.int .i64 0, .string ⟨#[]⟩, .int .i64 0, .int .i64 0]) 4 40 Tryd.underlying27 hi hz0 hz1 hz2 rfl (by decide) (.slice none 0 0) _ 0 La.length [] (tkLs La) rfl (World.ownsRow_nil _ _ _ _) rfl HC1.out (tkLs_length _) (tkLs_one _) (by unfold maxLen; omega) (by omega) w3 w3.heap.size (Below.refl _ _) (Nat.le_refl _) (Nat.le_refl _) ?_)
  intro v4 w4 hown4 hb4 _
  (try simp only [Nat.zero_add, List.nil_append] at hown4)
  have HC2 := Lib.hid (HC2.out.below hb4); have HO := Lib.hid hown4; have HX := Lib.hid hb4; clear hown4 hb4
  go_wp2_with fail
  refine (Moved_any _ Lb ((n : Int) + 1) _ HC2.out (by omega) (fun x hx => by have := HLI.out x hx; omega) (by omega) (by omega)).mono ?_
  rintro er w5 ⟨v5, rfl, hc5, hb1⟩
  have HC5 := Lib.hid hc5; have HO := Lib.hid (own_below HO.out hb1); have HX := Lib.hid (btrans HX.out HX.out.size hb1); clear hc5 hb1
  have hmvl : (Lb.map (mv ((n : Int) + 1))).length = Lb.length := by rw [List.length_map]
  have hc5 := HC5.out
  rw [hmvl] at hc5
  obtain ⟨v5a, v5c, rfl, -⟩ := id hc5
  have HC5 := Lib.hid hc5; clear hc5
  have HMV := Lib.hid hmvl; clear hmvl
  go_wp2_with (at_builtin; refine wpList_append_want (by kernel_rfl) _ _ 27 rfl w3.heap.size 37 i0 (.agg #[.int .i64 0, .string ⟨#[]⟩, .int .i64 0, .int .i64 0]) 4 40 Tryd.underlying27 hi hz0 hz1 hz2 rfl (by decide) v4 _ La.length Lb.length (tkLs La) (tkLs (Lb.map (mv ((n : Int) + 1)))) rfl HO.out rfl HC5.out (by rw [tkLs_length, HMV.out]) (tkLs_one _) (by unfold maxLen; omega) (by omega) w3 w3.heap.size HX.out HX.out.size (Nat.le_refl _) ?_)
  intro v6 w6 hown6 hb6 _
  have hC6 := own_tokAt (L := La ++ Lb.map (mv ((n : Int) + 1))) (by rw [List.length_append, HMV.out, tkLs_app]; exact hown6)
  have hc3 : CellsAt w6 (.slice v3a (La.length + Lb.length) v3c) (La ++ Lb.map (mv ((n : Int) + 1))).length (tkLs (La ++ Lb.map (mv ((n : Int) + 1)))) := by
    have h := HC3.out.below hb6
    have e : (La ++ Lb.map (mv ((n : Int) + 1))).length = La.length + Lb.length := by rw [List.length_append, HMV.out]
    rw [e] at h ⊢; exact h
  have HC3 := Lib.hid hc3; have HC6 := Lib.hid hC6; have HB := Lib.hid (btrans HB.out HB.out.size hb6); clear hC6 hc3 hown6 hb6
  go_wp2_with fail
  refine (Same_any _ _ _ (La ++ Lb.map (mv ((n : Int) + 1))) _ HC3.out HC6.out (by rw [List.length_append, HMV.out]; omega)).mono ?_
  rw [decide_eq_true rfl]
  rintro er w7 ⟨rfl, hb1⟩
  have HB := Lib.hid (btrans HB.out HB.out.size hb1); clear hb1
  go_wp2_with fail
  refine (lives_any _ (hL.below HB.out)).mono ?_
  rintro er wz ⟨rfl, hbz⟩
  go_wp2
  go_ret
  exact ⟨rfl, btrans HB.out HB.out.size hbz⟩
end Go.Proofs.YthdioaolnbdbgaaDoor
