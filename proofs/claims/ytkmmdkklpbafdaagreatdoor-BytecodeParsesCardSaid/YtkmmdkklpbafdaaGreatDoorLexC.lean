/- The walks of layer 7's literal, ofWord and first. No conditions. -/
import Derived.Test.YtkmmdkklpbafdaaGreatDoorLexB
import Derived.Outline
namespace Go.Proofs.YtkmmdkklpbafdaaGreatDoor
open Go.RowKit

theorem own_sl {w : World} {base size n : Nat} {e : TypeId} {v : Value} {xs : List Value} (h : w.ownsRow base e size v n xs) : ∃ a cap, v = .slice a n cap := by
  rcases own_form h with ⟨rfl, rfl⟩ | ⟨g, cap, rfl, _⟩
  · exact ⟨none, 0, rfl⟩
  · exact ⟨_, cap, rfl⟩
theorem Bx.sets4 {b : Nat} {T : TypeId} {W : World} {z0 z1 z2 z3 : Value} (h : Bx b #[z0, z1, z2, z3] T W) (u0 u1 u2 u3 : Value) :
    Bx b #[u0, u1, u2, u3] T ((((W.setCell ⟨b, 0, none⟩ u0).setCell ⟨b, 1, none⟩ u1).setCell ⟨b, 2, none⟩ u2).setCell ⟨b, 3, none⟩ u3) := by
  have h1 := (((h.set 0 u0).set 1 u1).set 2 u2).set 3 u3
  simpa using h1
theorem below_sets4 {B : Nat} {w W : World} (h : Below B w W) (b : Nat) (hb : B ≤ b) (u0 u1 u2 u3 : Value) :
    Below B w ((((W.setCell ⟨b, 0, none⟩ u0).setCell ⟨b, 1, none⟩ u1).setCell ⟨b, 2, none⟩ u2).setCell ⟨b, 3, none⟩ u3) :=
  below_set (below_set (below_set (below_set h b 0 hb u0) b 1 hb u1) b 2 hb u2) b 3 hb u3
theorem ne34 {c : UInt8} (h : c = 92) : c ≠ 34 := by rw [h]; decide
theorem lit_cons (L r : List UInt8) (c : UInt8) (i : Nat) : lit L (c :: r) i = if c = 34 then (L, i + 1, 0) else if c = 92 then (match r with | [] => ([], 0, 6) | d :: t => if d = 34 ∨ d = 92 then (if L.length = 64 then ([], 0, 2) else lit (L ++ [d]) t (i + 2)) else ([], 0, 5)) else if okc c = true then (if L.length = 64 then ([], 0, 2) else lit (L ++ [c]) r (i + 1)) else ([], 0, 5) := by
  cases r <;> rfl
section
variable {L l : List UInt8} {k k1 : Nat}
theorem lit_end (h : ¬ k < l.length) : lit L (l.drop k) k = ([], 0, 6) := by rw [List.drop_of_length_le (by omega)]; rfl
theorem lit_34 (hk : k < l.length) (h : l[k] = 34) : lit L (l.drop k) k = (L, k + 1, 0) := by rw [List.drop_eq_getElem_cons hk, lit_cons, if_pos h]
theorem lit_no (hk : k < l.length) (h1 : l[k] ≠ 34) (h2 : l[k] ≠ 92) (h : okc l[k] = false) : lit L (l.drop k) k = ([], 0, 5) := by
  rw [List.drop_eq_getElem_cons hk, lit_cons, if_neg h1, if_neg h2, if_neg (by rw [h]; simp)]
theorem lit_full (hk : k < l.length) (h1 : l[k] ≠ 34) (h2 : l[k] ≠ 92) (h : okc l[k] = true) (hL : L.length = 64) : lit L (l.drop k) k = ([], 0, 2) := by
  rw [List.drop_eq_getElem_cons hk, lit_cons, if_neg h1, if_neg h2, if_pos h, if_pos hL]
theorem lit_go (e : k + 1 = k1) (hk : k < l.length) (h1 : l[k] ≠ 34) (h2 : l[k] ≠ 92) (h : okc l[k] = true) (hL : ¬ L.length = 64) : lit L (l.drop k) k = lit (L ++ [l[k]]) (l.drop k1) k1 := by
  subst e; rw [List.drop_eq_getElem_cons hk, lit_cons, if_neg h1, if_neg h2, if_pos h, if_neg hL]
theorem lit_92e (e : k + 1 = k1) (hk : k < l.length) (h : l[k] = 92) (he : ¬ k1 < l.length) : lit L (l.drop k) k = ([], 0, 6) := by
  subst e; rw [List.drop_eq_getElem_cons hk, lit_cons, if_neg (ne34 h), if_pos h, List.drop_of_length_le (by omega)]
theorem lit_92b (e : k + 1 = k1) (hk : k < l.length) (h : l[k] = 92) (he : k1 < l.length) (h1 : l[k1] ≠ 34) (h2 : l[k1] ≠ 92) : lit L (l.drop k) k = ([], 0, 5) := by
  subst e; rw [List.drop_eq_getElem_cons hk, lit_cons, if_neg (ne34 h), if_pos h, List.drop_eq_getElem_cons he]; exact if_neg (fun h => h.elim h1 h2)
theorem lit_92f (e : k + 1 = k1) (hk : k < l.length) (h : l[k] = 92) (he : k1 < l.length) (h1 : l[k1] = 34 ∨ l[k1] = 92) (hL : L.length = 64) : lit L (l.drop k) k = ([], 0, 2) := by
  subst e; rw [List.drop_eq_getElem_cons hk, lit_cons, if_neg (ne34 h), if_pos h, List.drop_eq_getElem_cons he]; exact (if_pos h1).trans (if_pos hL)
theorem lit_92 (e : k + 1 = k1) (hk : k < l.length) (h : l[k] = 92) (he : k1 < l.length) (h1 : l[k1] = 34 ∨ l[k1] = 92) (hL : ¬ L.length = 64) : lit L (l.drop k) k = lit (L ++ [l[k1]]) (l.drop (k1 + 1)) (k1 + 1) := by
  subst e; rw [List.drop_eq_getElem_cons hk, lit_cons, if_neg (ne34 h), if_pos h, List.drop_eq_getElem_cons he]; exact (if_pos h1).trans (if_neg hL)
set_option maxRecDepth 100000 in
theorem par_us (h0 : 0 < l.length) (h : l[0] = 95) : parseS l = (0, 5) := by
  cases l with
  | nil => simp at h0
  | cons c r =>
    have hc : c = 95 := h
    subst hc
    refine parse_bad ?_
    rw [good_of' (by unfold minus; simp)]
    exact canon_bad 0 (by simp) (by rfl)
theorem wTok_eq (h0 : 0 < l.length) : wTok l = if ltr l[0] = true then (if isKw l = true then (⟨2, l, 0, 0⟩, 0) else if isNm l = true then (⟨1, l, 0, 0⟩, 0) else (tk0, 2)) else if (parseS l).2 = 0 then (⟨3, [], (parseS l).1, 0⟩, 0) else (tk0, (parseS l).2) := by
  cases l with
  | nil => simp at h0
  | cons c r => rfl
end

set_option maxRecDepth 100000 in
set_option maxHeartbeats 8000000 in
theorem literal_any (l : List UInt8) (hl0 : 1 ≤ l.length) (hl : l.length ≤ 100000) (w : World) :
    Calls Tryz.prog 157 #[.string (bs l)] w fun e w' => e = .returned (.tuple #[.string (bs (lit [] (l.drop 1) 1).1), .int .i64 ((lit [] (l.drop 1) 1).2.1 : Nat), .int .i64 (lit [] (l.drop 1) 1).2.2]) ∧ Below w.heap.size w w' := by
  obtain ⟨T, q, e, he⟩ : ∃ T q e, lit [] (l.drop 1) 1 = (T, q, e) := ⟨_, _, _, rfl⟩
  rw [he]
  have HU := Lib.hid he; clear he
  go_enter Tryz.func157, Tryz.ntmps157
  go_wp2
  go_loopw [5, 6] (fun v i wr => ∃ (k : Nat) (L0 : List UInt8), k ≤ l.length ∧ i = .int .i64 k ∧ wr.ownsRow w.heap.size 5 1 v L0.length (bcs L0) ∧ L0.length ≤ 64 ∧ Hid (lit L0 (l.drop k) k = (T, q, e)) ∧ Below w.heap.size w wr) (fun _ i _ => l.length - (intOf i).toNat)
  case atStart => exact ⟨1, [], hl0, rfl, World.ownsRow_nil _ _ _ _, Nat.zero_le _, HU, Below.refl _ _⟩
  case round =>
    obtain ⟨k, L0, hk, rfl, hown, hL0, HQ, hB⟩ := hrel
    obtain ⟨sa, sc, rfl⟩ := own_sl hown
    clear HU
    have HO := Lib.hid hown; have HB := Lib.hid hB; clear hown hB
    by_cases hlt : k < l.length
    · have hlt' : (k : Int) < (l.length : Int) := by omega
      have hlt1 : (k : Int) + 1 ≤ (l.length : Int) := by omega
      obtain ⟨k1, hk1⟩ : ∃ k1, k + 1 = k1 := ⟨_, rfl⟩
      have hw1 : IntKind.i64.wrap ((k : Int) + 1) = (k1 : Int) := by rw [IntKind.wrap_i64]; omega
      have hle2 : k1 ≤ l.length := by omega
      have HK1 := Lib.hid hk1; clear hk1
      by_cases h34 : l[k] = 34
      · have t34 := is34 h34
        have hcv := own_conv HO.out
        have HF := Lib.hid (lit_34 (L := L0) hlt h34); clear h34
        have HE := Lib.hid (HQ.out.symm.trans (HF.out))
        have hT : T = L0 := congrArg Prod.fst HE.out
        have hq : q = k + 1 := congrArg (fun x => x.2.1) HE.out
        have hE : e = 0 := congrArg (fun x => x.2.2) HE.out
        have HT := Lib.hid hT; have HQQ := Lib.hid hq; have HEE := Lib.hid hE; clear hT hE hq HE
        go_wp2
        go_ret3
        exact ⟨by rw [HT.out, HQQ.out, HEE.out, HK1.out] <;> rfl, HB.out⟩
      have t34 := not34 h34
      by_cases h92 : l[k] = 92
      · have t92 := is92 h92
        by_cases he : k1 < l.length
        · have he' : ((k1 : Int) == (l.length : Int)) = false := by rw [beq_eq_false_iff_ne]; omega
          have he2 : (k1 : Int) < (l.length : Int) := by omega
          have hw2 : IntKind.i64.wrap ((k1 : Int) + 1) = ((k1 + 1 : Nat) : Int) := by rw [IntKind.wrap_i64]; omega
          by_cases a34 : l[k1] = 34
          · have s34 := eq34 a34
            have p1 := pl34 (Or.inl a34); have p2 := pm34 (Or.inl a34)
            by_cases hL : L0.length = 64
            · have hL' : ((L0.length : Int) == 64) = true := by rw [beq_iff_eq]; omega
              have HF := Lib.hid (lit_92f (L := L0) HK1.out hlt h92 he (Or.inl a34) hL); clear h34 h92 a34 hL
              have HE := Lib.hid (HQ.out.symm.trans (HF.out))
              have hT : T = [] := congrArg Prod.fst HE.out
              have hq : q = 0 := congrArg (fun x => x.2.1) HE.out
              have hE : e = 2 := congrArg (fun x => x.2.2) HE.out
              have HT := Lib.hid hT; have HQQ := Lib.hid hq; have HEE := Lib.hid hE; clear hT hE hq HE
              go_wp2
              go_ret3
              exact ⟨by rw [HT.out, HQQ.out, HEE.out] <;> rfl, HB.out⟩
            have hL' : ((L0.length : Int) == 64) = false := by rw [beq_eq_false_iff_ne]; omega
            have HN := Lib.hid (HQ.out.symm.trans (lit_92 (L := L0) HK1.out hlt h92 he (Or.inl a34) hL)); clear h34 h92 a34
            go_wp2_with (at_builtin; refine wpList_append_byte rfl _ _ rfl w.heap.size _ L0 l[k1] HO.out rfl rfl (by omega) w HB.out HB.out.size _ rfl ?_; intro v2 w2 hown2 hbel2 _)
            go_roundw
            case rel => exact ⟨k1 + 1, L0 ++ [l[k1]], by omega, by go_num, hown2, by rw [List.length_append]; show _ + 1 ≤ _; omega, Lib.hid HN.out.symm, hbel2⟩
            case measure => have := HK1.out; simp [intOf]; omega
          have s34 := neq34 a34
          by_cases a92 : l[k1] = 92
          · have s92 := eq92 a92
            have p1 := pl34 (Or.inr a92); have p2 := pm34 (Or.inr a92)
            by_cases hL : L0.length = 64
            · have hL' : ((L0.length : Int) == 64) = true := by rw [beq_iff_eq]; omega
              have HF := Lib.hid (lit_92f (L := L0) HK1.out hlt h92 he (Or.inr a92) hL); clear h34 h92 a34 a92 hL
              have HE := Lib.hid (HQ.out.symm.trans (HF.out))
              have hT : T = [] := congrArg Prod.fst HE.out
              have hq : q = 0 := congrArg (fun x => x.2.1) HE.out
              have hE : e = 2 := congrArg (fun x => x.2.2) HE.out
              have HT := Lib.hid hT; have HQQ := Lib.hid hq; have HEE := Lib.hid hE; clear hT hE hq HE
              go_wp2
              go_ret3
              exact ⟨by rw [HT.out, HQQ.out, HEE.out] <;> rfl, HB.out⟩
            have hL' : ((L0.length : Int) == 64) = false := by rw [beq_eq_false_iff_ne]; omega
            have HN := Lib.hid (HQ.out.symm.trans (lit_92 (L := L0) HK1.out hlt h92 he (Or.inr a92) hL)); clear h34 h92 a34 a92
            go_wp2_with (at_builtin; refine wpList_append_byte rfl _ _ rfl w.heap.size _ L0 l[k1] HO.out rfl rfl (by omega) w HB.out HB.out.size _ rfl ?_; intro v2 w2 hown2 hbel2 _)
            go_roundw
            case rel => exact ⟨k1 + 1, L0 ++ [l[k1]], by omega, by go_num, hown2, by rw [List.length_append]; show _ + 1 ≤ _; omega, Lib.hid HN.out.symm, hbel2⟩
            case measure => have := HK1.out; simp [intOf]; omega
          have s92 := neq92 a92
          have HE0 := Lib.hid (lit_92b (L := L0) HK1.out hlt h92 he a34 a92); clear h34 h92 a34 a92
          have HE := Lib.hid (HQ.out.symm.trans (HE0.out))
          have hT : T = [] := congrArg Prod.fst HE.out
          have hq : q = 0 := congrArg (fun x => x.2.1) HE.out
          have hE : e = 5 := congrArg (fun x => x.2.2) HE.out
          have HT := Lib.hid hT; have HQQ := Lib.hid hq; have HEE := Lib.hid hE; clear hT hE hq HE
          go_wp2
          go_ret3
          exact ⟨by rw [HT.out, HQQ.out, HEE.out] <;> rfl, HB.out⟩
        have he' : ((k1 : Int) == (l.length : Int)) = true := by have := HK1.out; rw [beq_iff_eq]; omega
        have HE0 := Lib.hid (lit_92e (L := L0) HK1.out hlt h92 he); clear h34 h92
        have HE := Lib.hid (HQ.out.symm.trans (HE0.out))
        have hT : T = [] := congrArg Prod.fst HE.out
        have hq : q = 0 := congrArg (fun x => x.2.1) HE.out
        have hE : e = 6 := congrArg (fun x => x.2.2) HE.out
        have HT := Lib.hid hT; have HQQ := Lib.hid hq; have HEE := Lib.hid hE; clear hT hE hq HE
        go_wp2
        go_ret3
        exact ⟨by rw [HT.out, HQQ.out, HEE.out] <;> rfl, HB.out⟩
      have t92 := not92 h92
      by_cases h1 : (l[k].toNat : Int) < 32
      · have HE0 := Lib.hid (lit_no (L := L0) hlt h34 h92 (okc_lo h1)); clear h34 h92
        have HE := Lib.hid (HQ.out.symm.trans (HE0.out))
        have hT : T = [] := congrArg Prod.fst HE.out
        have hq : q = 0 := congrArg (fun x => x.2.1) HE.out
        have hE : e = 5 := congrArg (fun x => x.2.2) HE.out
        have HT := Lib.hid hT; have HQQ := Lib.hid hq; have HEE := Lib.hid hE; clear hT hE hq HE
        go_wp2
        go_ret3
        exact ⟨by rw [HT.out, HQQ.out, HEE.out] <;> rfl, HB.out⟩
      by_cases h2 : (126 : Int) < (l[k].toNat : Int)
      · have HE0 := Lib.hid (lit_no (L := L0) hlt h34 h92 (okc_hi h2)); clear h34 h92
        have HE := Lib.hid (HQ.out.symm.trans (HE0.out))
        have hT : T = [] := congrArg Prod.fst HE.out
        have hq : q = 0 := congrArg (fun x => x.2.1) HE.out
        have hE : e = 5 := congrArg (fun x => x.2.2) HE.out
        have HT := Lib.hid hT; have HQQ := Lib.hid hq; have HEE := Lib.hid hE; clear hT hE hq HE
        go_wp2
        go_ret3
        exact ⟨by rw [HT.out, HQQ.out, HEE.out] <;> rfl, HB.out⟩
      by_cases hL : L0.length = 64
      · have hL' : ((L0.length : Int) == 64) = true := by rw [beq_iff_eq]; omega
        have HF := Lib.hid (lit_full (L := L0) hlt h34 h92 ((okc_iff _).2 (by omega)) hL); clear h34 h92 hL
        have HE := Lib.hid (HQ.out.symm.trans (HF.out))
        have hT : T = [] := congrArg Prod.fst HE.out
        have hq : q = 0 := congrArg (fun x => x.2.1) HE.out
        have hE : e = 2 := congrArg (fun x => x.2.2) HE.out
        have HT := Lib.hid hT; have HQQ := Lib.hid hq; have HEE := Lib.hid hE; clear hT hE hq HE
        go_wp2
        go_ret3
        exact ⟨by rw [HT.out, HQQ.out, HEE.out] <;> rfl, HB.out⟩
      have hL' : ((L0.length : Int) == 64) = false := by rw [beq_eq_false_iff_ne]; omega
      have HN := Lib.hid (HQ.out.symm.trans (lit_go (L := L0) HK1.out hlt h34 h92 ((okc_iff _).2 (by omega)) hL)); clear h34 h92
      go_wp2_with (at_builtin; refine wpList_append_byte rfl _ _ rfl w.heap.size _ L0 l[k] HO.out rfl rfl (by omega) w HB.out HB.out.size _ rfl ?_; intro v2 w2 hown2 hbel2 _)
      go_roundw
      case rel => exact ⟨k1, L0 ++ [l[k]], by omega, by go_num, hown2, by rw [List.length_append]; show _ + 1 ≤ _; omega, Lib.hid HN.out.symm, hbel2⟩
      case measure => have := HK1.out; simp [intOf]; omega
    · have hlt' : ¬ (k : Int) < (l.length : Int) := by omega
      have HE0 := Lib.hid (lit_end (L := L0) hlt)
      have HE := Lib.hid (HQ.out.symm.trans (HE0.out))
      have hT : T = [] := congrArg Prod.fst HE.out
      have hq : q = 0 := congrArg (fun x => x.2.1) HE.out
      have hE : e = 6 := congrArg (fun x => x.2.2) HE.out
      have HT := Lib.hid hT; have HQQ := Lib.hid hq; have HEE := Lib.hid hE; clear hT hE hq HE
      go_wp2
      go_ret3
      exact ⟨by rw [HT.out, HQQ.out, HEE.out] <;> rfl, HB.out⟩
set_option maxRecDepth 100000 in
set_option maxHeartbeats 8000000 in
theorem ofWord_any (l : List UInt8) (h0 : 0 < l.length) (hl : l.length ≤ 100000) (w : World) (hL : Laid w) :
    Calls Tryz.prog 156 #[.string (bs l)] w fun e w' => e = .returned (.tuple #[.agg (tkV (wTok l).1), .int .i64 (wTok l).2]) ∧ Below w.heap.size w w' := by
  rw [wTok_eq h0]
  have h0i : (1 : Int) ≤ (l.length : Int) := by omega
  have hc0 : IntKind.i32.wrap (l[0].toNat : Int) = (l[0].toNat : Int) := by have := l[0].toNat_lt; simp only [IntKind.wrap, IntKind.signed, IntKind.bits]; simp; omega
  by_cases hu : l[0] = 95
  · have tu : ((l[0].toNat : Int) == 95) = true := by rw [hu]; rfl
    rw [if_neg (by rw [hu]; decide), par_us h0 hu, if_neg (by decide)]
    show Calls _ _ _ _ fun e w' => e = .returned (.tuple #[.agg (tkV (tk0)), .int .i64 5]) ∧ _
    simp only [tkV, tk0]
    have HU := Lib.hid hu; clear hu
    have HR := Lib.hid (Bx.new w #[.int .i64 0, .string ⟨#[]⟩, .int .i64 0, .int .i64 0] 113); have HB := Lib.hid ((Below.refl w.heap.size w).alloc (Nat.le_refl _) (.cells #[.int .i64 0, .string ⟨#[]⟩, .int .i64 0, .int .i64 0] 113))
    go_enter Tryz.func156, Tryz.ntmps156
    go_upto_region 1 with (fail)
    generalize hW : w.alloc (.cells #[.int .i64 0, .string ⟨#[]⟩, .int .i64 0, .int .i64 0] 113) = v0 at HR HB ⊢
    clear hW
    have r0 : v0.cell? ⟨w.heap.size, 0, none⟩ = some (.int .i64 0) := HR.out.cell 0
    have r1 : v0.cell? ⟨w.heap.size, 1, none⟩ = some (.string ⟨#[]⟩) := HR.out.cell 1
    have r2 : v0.cell? ⟨w.heap.size, 2, none⟩ = some (.int .i64 0) := HR.out.cell 2
    have r3 : v0.cell? ⟨w.heap.size, 3, none⟩ = some (.int .i64 0) := HR.out.cell 3
    have f0 := HR.out.free 0
    have f1 := HR.out.free 1
    have f2 := HR.out.free 2
    have f3 := HR.out.free 3
    have HK := Lib.hid (HR.out.sets4 (.int .i64 0) (.string ⟨#[]⟩) (.int .i64 0) (.int .i64 0))
    go_wp2
    have k0 := HK.out.cell 0
    have k1 := HK.out.cell 1
    have k2 := HK.out.cell 2
    have k3 := HK.out.cell 3
    simp only [List.getElem?_toArray, List.getElem?_cons_zero, List.getElem?_cons_succ] at k0 k1 k2 k3
    refine bodyPost_ret (v := .tuple #[.agg #[.int .i64 0, .string (bs []), .int .i64 0, .int .i64 0], .int .i64 5]) (by simp [results, Tryz.results156, go_sem, k0, k1, k2, k3] <;> rfl) rfl ⟨rfl, ?_⟩
    exact below_sets4 HB.out w.heap.size (Nat.le_refl _) _ _ _ _
  have tu : ((l[0].toNat : Int) == 95) = false := by rw [beq_eq_false_iff_ne]; intro e; exact hu (UInt8.toNat_inj.1 (by show l[0].toNat = 95; omega))
  have HU := Lib.hid hu; clear hu
  cases h1 : ltr l[0] with
  | true =>
    rw [if_pos rfl]
    have H1 := Lib.hid ((ltrI_byte l[0]).trans h1); clear h1
    cases hk : isKw l with
    | true =>
      rw [if_pos rfl]
      have HK1 := Lib.hid hk; clear hk
      show Calls _ _ _ _ fun e w' => e = .returned (.tuple #[.agg (tkV (⟨2, l, 0, 0⟩)), .int .i64 0]) ∧ _
      simp only [tkV]
      have HR := Lib.hid (Bx.new w #[.int .i64 0, .string ⟨#[]⟩, .int .i64 0, .int .i64 0] 113); have HB := Lib.hid ((Below.refl w.heap.size w).alloc (Nat.le_refl _) (.cells #[.int .i64 0, .string ⟨#[]⟩, .int .i64 0, .int .i64 0] 113))
      go_enter Tryz.func156, Tryz.ntmps156
      go_upto_region 1 with (fail)
      generalize hW : w.alloc (.cells #[.int .i64 0, .string ⟨#[]⟩, .int .i64 0, .int .i64 0] 113) = v0 at HR HB ⊢
      clear hW
      go_wp2_with fail
      refine (letter_any _ _).mono ?_
      rw [H1.out]
      rintro er w1 ⟨rfl, rfl⟩
      go_wp2_with fail
      refine (IsKeyword_any l _).mono ?_
      rw [HK1.out]
      rintro er w2 ⟨rfl, rfl⟩
      have r0 : v0.cell? ⟨w.heap.size, 0, none⟩ = some (.int .i64 0) := HR.out.cell 0
      have r1 : v0.cell? ⟨w.heap.size, 1, none⟩ = some (.string ⟨#[]⟩) := HR.out.cell 1
      have r2 : v0.cell? ⟨w.heap.size, 2, none⟩ = some (.int .i64 0) := HR.out.cell 2
      have r3 : v0.cell? ⟨w.heap.size, 3, none⟩ = some (.int .i64 0) := HR.out.cell 3
      have f0 := HR.out.free 0
      have f1 := HR.out.free 1
      have f2 := HR.out.free 2
      have f3 := HR.out.free 3
      have HK := Lib.hid (HR.out.sets4 (.int .i64 2) (.string (bs l)) (.int .i64 0) (.int .i64 0))
      go_wp2
      have k0 := HK.out.cell 0
      have k1 := HK.out.cell 1
      have k2 := HK.out.cell 2
      have k3 := HK.out.cell 3
      simp only [List.getElem?_toArray, List.getElem?_cons_zero, List.getElem?_cons_succ] at k0 k1 k2 k3
      refine bodyPost_ret (v := .tuple #[.agg #[.int .i64 2, .string (bs l), .int .i64 0, .int .i64 0], .int .i64 0]) (by simp [results, Tryz.results156, go_sem, k0, k1, k2, k3] <;> rfl) rfl ⟨rfl, ?_⟩
      exact below_sets4 HB.out w.heap.size (Nat.le_refl _) _ _ _ _
    | false =>
      rw [if_neg (by simp)]
      have HK1 := Lib.hid hk; clear hk
      cases hn : isNm l with
      | true =>
        rw [if_pos rfl]
        have HN := Lib.hid hn; clear hn
        show Calls _ _ _ _ fun e w' => e = .returned (.tuple #[.agg (tkV (⟨1, l, 0, 0⟩)), .int .i64 0]) ∧ _
        simp only [tkV]
        have HR := Lib.hid (Bx.new w #[.int .i64 0, .string ⟨#[]⟩, .int .i64 0, .int .i64 0] 113); have HB := Lib.hid ((Below.refl w.heap.size w).alloc (Nat.le_refl _) (.cells #[.int .i64 0, .string ⟨#[]⟩, .int .i64 0, .int .i64 0] 113))
        go_enter Tryz.func156, Tryz.ntmps156
        go_upto_region 1 with (fail)
        generalize hW : w.alloc (.cells #[.int .i64 0, .string ⟨#[]⟩, .int .i64 0, .int .i64 0] 113) = v0 at HR HB ⊢
        clear hW
        go_wp2_with fail
        refine (letter_any _ _).mono ?_
        rw [H1.out]
        rintro er w1 ⟨rfl, rfl⟩
        go_wp2_with fail
        refine (IsKeyword_any l _).mono ?_
        rw [HK1.out]
        rintro er w2 ⟨rfl, rfl⟩
        go_wp2_with fail
        refine (IsName_any l (by omega) _).mono ?_
        rw [HN.out]
        rintro er w3 ⟨rfl, hb1⟩
        have HR := Lib.hid (HR.out.call hb1)
        have HB := Lib.hid (btrans HB.out HB.out.size hb1); clear hb1
        have r0 : w3.cell? ⟨w.heap.size, 0, none⟩ = some (.int .i64 0) := HR.out.cell 0
        have r1 : w3.cell? ⟨w.heap.size, 1, none⟩ = some (.string ⟨#[]⟩) := HR.out.cell 1
        have r2 : w3.cell? ⟨w.heap.size, 2, none⟩ = some (.int .i64 0) := HR.out.cell 2
        have r3 : w3.cell? ⟨w.heap.size, 3, none⟩ = some (.int .i64 0) := HR.out.cell 3
        have f0 := HR.out.free 0
        have f1 := HR.out.free 1
        have f2 := HR.out.free 2
        have f3 := HR.out.free 3
        have HK := Lib.hid (HR.out.sets4 (.int .i64 1) (.string (bs l)) (.int .i64 0) (.int .i64 0))
        go_wp2
        have k0 := HK.out.cell 0
        have k1 := HK.out.cell 1
        have k2 := HK.out.cell 2
        have k3 := HK.out.cell 3
        simp only [List.getElem?_toArray, List.getElem?_cons_zero, List.getElem?_cons_succ] at k0 k1 k2 k3
        refine bodyPost_ret (v := .tuple #[.agg #[.int .i64 1, .string (bs l), .int .i64 0, .int .i64 0], .int .i64 0]) (by simp [results, Tryz.results156, go_sem, k0, k1, k2, k3] <;> rfl) rfl ⟨rfl, ?_⟩
        exact below_sets4 HB.out w.heap.size (Nat.le_refl _) _ _ _ _
      | false =>
        rw [if_neg (by simp)]
        have HN := Lib.hid hn; clear hn
        show Calls _ _ _ _ fun e w' => e = .returned (.tuple #[.agg (tkV (tk0)), .int .i64 2]) ∧ _
        simp only [tkV, tk0]
        have HR := Lib.hid (Bx.new w #[.int .i64 0, .string ⟨#[]⟩, .int .i64 0, .int .i64 0] 113); have HB := Lib.hid ((Below.refl w.heap.size w).alloc (Nat.le_refl _) (.cells #[.int .i64 0, .string ⟨#[]⟩, .int .i64 0, .int .i64 0] 113))
        go_enter Tryz.func156, Tryz.ntmps156
        go_upto_region 1 with (fail)
        generalize hW : w.alloc (.cells #[.int .i64 0, .string ⟨#[]⟩, .int .i64 0, .int .i64 0] 113) = v0 at HR HB ⊢
        clear hW
        go_wp2_with fail
        refine (letter_any _ _).mono ?_
        rw [H1.out]
        rintro er w1 ⟨rfl, rfl⟩
        go_wp2_with fail
        refine (IsKeyword_any l _).mono ?_
        rw [HK1.out]
        rintro er w2 ⟨rfl, rfl⟩
        go_wp2_with fail
        refine (IsName_any l (by omega) _).mono ?_
        rw [HN.out]
        rintro er w3 ⟨rfl, hb1⟩
        have HR := Lib.hid (HR.out.call hb1)
        have HB := Lib.hid (btrans HB.out HB.out.size hb1); clear hb1
        have r0 : w3.cell? ⟨w.heap.size, 0, none⟩ = some (.int .i64 0) := HR.out.cell 0
        have r1 : w3.cell? ⟨w.heap.size, 1, none⟩ = some (.string ⟨#[]⟩) := HR.out.cell 1
        have r2 : w3.cell? ⟨w.heap.size, 2, none⟩ = some (.int .i64 0) := HR.out.cell 2
        have r3 : w3.cell? ⟨w.heap.size, 3, none⟩ = some (.int .i64 0) := HR.out.cell 3
        have f0 := HR.out.free 0
        have f1 := HR.out.free 1
        have f2 := HR.out.free 2
        have f3 := HR.out.free 3
        have HK := Lib.hid (HR.out.sets4 (.int .i64 0) (.string ⟨#[]⟩) (.int .i64 0) (.int .i64 0))
        go_wp2
        have k0 := HK.out.cell 0
        have k1 := HK.out.cell 1
        have k2 := HK.out.cell 2
        have k3 := HK.out.cell 3
        simp only [List.getElem?_toArray, List.getElem?_cons_zero, List.getElem?_cons_succ] at k0 k1 k2 k3
        refine bodyPost_ret (v := .tuple #[.agg #[.int .i64 0, .string (bs []), .int .i64 0, .int .i64 0], .int .i64 2]) (by simp [results, Tryz.results156, go_sem, k0, k1, k2, k3] <;> rfl) rfl ⟨rfl, ?_⟩
        exact below_sets4 HB.out w.heap.size (Nat.le_refl _) _ _ _ _
  | false =>
    rw [if_neg (by simp)]
    have H1 := Lib.hid ((ltrI_byte l[0]).trans h1); clear h1
    obtain ⟨⟨n, pe⟩, hp⟩ : ∃ r, parseS l = r := ⟨_, rfl⟩
    rw [hp]
    have HP := Lib.hid hp; clear hp
    by_cases he : pe = 0
    · have te : (pe != 0) = false := by rw [he]; rfl
      rw [if_pos (by show pe = 0; exact he)]
      have HE := Lib.hid he; clear he
      show Calls _ _ _ _ fun e w' => e = .returned (.tuple #[.agg (tkV (⟨3, [], n, 0⟩)), .int .i64 0]) ∧ _
      simp only [tkV]
      have HR := Lib.hid (Bx.new w #[.int .i64 0, .string ⟨#[]⟩, .int .i64 0, .int .i64 0] 113); have HB := Lib.hid ((Below.refl w.heap.size w).alloc (Nat.le_refl _) (.cells #[.int .i64 0, .string ⟨#[]⟩, .int .i64 0, .int .i64 0] 113))
      go_enter Tryz.func156, Tryz.ntmps156
      go_upto_region 1 with (fail)
      generalize hW : w.alloc (.cells #[.int .i64 0, .string ⟨#[]⟩, .int .i64 0, .int .i64 0] 113) = v0 at HR HB ⊢
      clear hW
      go_wp2_with fail
      refine (letter_any _ _).mono ?_
      rw [H1.out]
      rintro er w1 ⟨rfl, rfl⟩
      go_wp2_with fail
      refine (Parse_any l _ (by omega) (hL.below HB.out)).mono ?_
      rw [HP.out]
      rintro er w2 ⟨rfl, hb1⟩
      have HR := Lib.hid (HR.out.call hb1)
      have HB := Lib.hid (btrans HB.out HB.out.size hb1); clear hb1
      have r0 : w2.cell? ⟨w.heap.size, 0, none⟩ = some (.int .i64 0) := HR.out.cell 0
      have r1 : w2.cell? ⟨w.heap.size, 1, none⟩ = some (.string ⟨#[]⟩) := HR.out.cell 1
      have r2 : w2.cell? ⟨w.heap.size, 2, none⟩ = some (.int .i64 0) := HR.out.cell 2
      have r3 : w2.cell? ⟨w.heap.size, 3, none⟩ = some (.int .i64 0) := HR.out.cell 3
      have f0 := HR.out.free 0
      have f1 := HR.out.free 1
      have f2 := HR.out.free 2
      have f3 := HR.out.free 3
      have HK := Lib.hid (HR.out.sets4 (.int .i64 3) (.string (⟨#[]⟩)) (.int .i64 n) (.int .i64 0))
      go_wp2
      have k0 := HK.out.cell 0
      have k1 := HK.out.cell 1
      have k2 := HK.out.cell 2
      have k3 := HK.out.cell 3
      simp only [List.getElem?_toArray, List.getElem?_cons_zero, List.getElem?_cons_succ] at k0 k1 k2 k3
      refine bodyPost_ret (v := .tuple #[.agg #[.int .i64 3, .string (bs []), .int .i64 n, .int .i64 0], .int .i64 0]) (by simp [results, Tryz.results156, go_sem, k0, k1, k2, k3] <;> rfl) rfl ⟨rfl, ?_⟩
      exact below_sets4 HB.out w.heap.size (Nat.le_refl _) _ _ _ _
    · have te : (pe != 0) = true := by rw [bne_iff_ne]; exact he
      rw [if_neg (by show ¬ pe = 0; exact he)]
      have HE := Lib.hid he; clear he
      show Calls _ _ _ _ fun e w' => e = .returned (.tuple #[.agg (tkV (tk0)), .int .i64 pe]) ∧ _
      simp only [tkV, tk0]
      have HR := Lib.hid (Bx.new w #[.int .i64 0, .string ⟨#[]⟩, .int .i64 0, .int .i64 0] 113); have HB := Lib.hid ((Below.refl w.heap.size w).alloc (Nat.le_refl _) (.cells #[.int .i64 0, .string ⟨#[]⟩, .int .i64 0, .int .i64 0] 113))
      go_enter Tryz.func156, Tryz.ntmps156
      go_upto_region 1 with (fail)
      generalize hW : w.alloc (.cells #[.int .i64 0, .string ⟨#[]⟩, .int .i64 0, .int .i64 0] 113) = v0 at HR HB ⊢
      clear hW
      go_wp2_with fail
      refine (letter_any _ _).mono ?_
      rw [H1.out]
      rintro er w1 ⟨rfl, rfl⟩
      go_wp2_with fail
      refine (Parse_any l _ (by omega) (hL.below HB.out)).mono ?_
      rw [HP.out]
      rintro er w2 ⟨rfl, hb1⟩
      have HR := Lib.hid (HR.out.call hb1)
      have HB := Lib.hid (btrans HB.out HB.out.size hb1); clear hb1
      have r0 : w2.cell? ⟨w.heap.size, 0, none⟩ = some (.int .i64 0) := HR.out.cell 0
      have r1 : w2.cell? ⟨w.heap.size, 1, none⟩ = some (.string ⟨#[]⟩) := HR.out.cell 1
      have r2 : w2.cell? ⟨w.heap.size, 2, none⟩ = some (.int .i64 0) := HR.out.cell 2
      have r3 : w2.cell? ⟨w.heap.size, 3, none⟩ = some (.int .i64 0) := HR.out.cell 3
      have f0 := HR.out.free 0
      have f1 := HR.out.free 1
      have f2 := HR.out.free 2
      have f3 := HR.out.free 3
      have HK := Lib.hid (HR.out.sets4 (.int .i64 0) (.string ⟨#[]⟩) (.int .i64 0) (.int .i64 0))
      go_wp2
      have k0 := HK.out.cell 0
      have k1 := HK.out.cell 1
      have k2 := HK.out.cell 2
      have k3 := HK.out.cell 3
      simp only [List.getElem?_toArray, List.getElem?_cons_zero, List.getElem?_cons_succ] at k0 k1 k2 k3
      refine bodyPost_ret (v := .tuple #[.agg #[.int .i64 0, .string (bs []), .int .i64 0, .int .i64 0], .int .i64 pe]) (by simp [results, Tryz.results156, go_sem, k0, k1, k2, k3] <;> rfl) rfl ⟨rfl, ?_⟩
      exact below_sets4 HB.out w.heap.size (Nat.le_refl _) _ _ _ _
set_option maxRecDepth 100000 in
set_option maxHeartbeats 8000000 in
theorem first_any (l : List UInt8) (h0 : 0 < l.length) (hl : l.length ≤ 100000) (w : World) (hL : Laid w) :
    Calls Tryz.prog 128 #[.string (bs l)] w fun e w' => e = .returned (.tuple #[.agg (tkV (tokS l).1), .int .i64 ((tokS l).2.1 : Nat), .int .i64 (tokS l).2.2]) ∧ Below w.heap.size w w' := by
  unfold tokS
  have h0i : (1 : Int) ≤ (l.length : Int) := by omega
  have hwl := wlen_le l
  obtain ⟨m, hm⟩ : ∃ m, wlen l = m := ⟨_, rfl⟩
  rw [hm] at hwl ⊢
  have HM := Lib.hid hm; clear hm
  by_cases hp : 0 < m
  · have hpi : (0 : Int) < (m : Int) := by omega
    have hml : (m : Int) ≤ (l.length : Int) := by omega
    rw [if_pos hp]
    have htl : (l.take m).length = m := by rw [List.length_take]; omega
    obtain ⟨⟨⟨xk, xt, xn, xl⟩, xe⟩, hx⟩ : ∃ r, wTok (l.take m) = r := ⟨_, rfl⟩
    rw [hx]
    simp only [tkV]
    have HX := Lib.hid hx; clear hx
    have HR := Lib.hid (Bx.new w #[.int .i64 0, .string ⟨#[]⟩, .int .i64 0, .int .i64 0] 113); have HB := Lib.hid ((Below.refl w.heap.size w).alloc (Nat.le_refl _) (.cells #[.int .i64 0, .string ⟨#[]⟩, .int .i64 0, .int .i64 0] 113))
    go_enter Tryz.func128, Tryz.ntmps128
    go_upto_region 1 with (fail)
    generalize hW : w.alloc (.cells #[.int .i64 0, .string ⟨#[]⟩, .int .i64 0, .int .i64 0] 113) = v0 at HR HB ⊢
    clear hW
    go_wp2_with fail
    refine (word_any l _).mono ?_
    rw [HM.out]
    rintro er w1 ⟨rfl, hb1⟩
    have HR := Lib.hid (HR.out.call hb1)
    have HB := Lib.hid (btrans HB.out HB.out.size hb1); clear hb1
    go_wp2_with fail
    refine (ofWord_any (l.take m) (by rw [htl]; exact hp) (by rw [htl]; omega) _ (hL.below HB.out)).mono ?_
    rw [HX.out]
    simp only [tkV]
    rintro er w2 ⟨rfl, hb1⟩
    have hal := (Below.refl w2.heap.size w2).alloc (Nat.le_refl _) (.cells #[.int .i64 xk, .string (bs xt), .int .i64 xn, .int .i64 xl] 113)
    have HR := Lib.hid ((HR.out.call hb1).call hal)
    have HY := Lib.hid (Bx.new w2 #[.int .i64 xk, .string (bs xt), .int .i64 xn, .int .i64 xl] 113)
    have HB := Lib.hid (btrans (btrans HB.out HB.out.size hb1) (btrans HB.out HB.out.size hb1).size hal); clear hb1 hal
    go_upto_region 4 with (fail)
    generalize hW : w2.alloc (.cells #[.int .i64 xk, .string (bs xt), .int .i64 xn, .int .i64 xl] 113) = v2 at HB HR HY ⊢
    clear hW
    have y0 : v2.cell? ⟨w2.heap.size, 0, none⟩ = some (.int .i64 xk) := HY.out.cell 0
    have y1 : v2.cell? ⟨w2.heap.size, 1, none⟩ = some (.string (bs xt)) := HY.out.cell 1
    have y2 : v2.cell? ⟨w2.heap.size, 2, none⟩ = some (.int .i64 xn) := HY.out.cell 2
    have y3 : v2.cell? ⟨w2.heap.size, 3, none⟩ = some (.int .i64 xl) := HY.out.cell 3
    have r0 : v2.cell? ⟨w.heap.size, 0, none⟩ = some (.int .i64 0) := HR.out.cell 0
    have r1 : v2.cell? ⟨w.heap.size, 1, none⟩ = some (.string ⟨#[]⟩) := HR.out.cell 1
    have r2 : v2.cell? ⟨w.heap.size, 2, none⟩ = some (.int .i64 0) := HR.out.cell 2
    have r3 : v2.cell? ⟨w.heap.size, 3, none⟩ = some (.int .i64 0) := HR.out.cell 3
    have f0 := HR.out.free 0
    have f1 := HR.out.free 1
    have f2 := HR.out.free 2
    have f3 := HR.out.free 3
    have HK := Lib.hid (HR.out.sets4 (.int .i64 xk) (.string (bs xt)) (.int .i64 xn) (.int .i64 xl))
    go_wp2
    have k0 := HK.out.cell 0
    have k1 := HK.out.cell 1
    have k2 := HK.out.cell 2
    have k3 := HK.out.cell 3
    simp only [List.getElem?_toArray, List.getElem?_cons_zero, List.getElem?_cons_succ] at k0 k1 k2 k3
    refine bodyPost_ret (v := .tuple #[.agg #[.int .i64 xk, .string (bs xt), .int .i64 xn, .int .i64 xl], .int .i64 (m : Int), .int .i64 xe]) (by simp [results, Tryz.results128, go_sem, k0, k1, k2, k3] <;> rfl) rfl ⟨rfl, ?_⟩
    exact below_sets4 HB.out w.heap.size (Nat.le_refl _) _ _ _ _
  have hpi : ¬ (0 : Int) < (m : Int) := by omega
  rw [if_neg hp]
  by_cases hq : l.head? = some 34
  · have t34 : ((l[0].toNat : Int) == 34) = true := is34 (by cases l with | nil => simp at h0 | cons c r => simp at hq; exact hq)
    rw [if_pos hq]
    obtain ⟨T, qq, qe, hx⟩ : ∃ T q e, lit [] (l.drop 1) 1 = (T, q, e) := ⟨_, _, _, rfl⟩
    rw [hx]
    simp only [tkV]
    have HX := Lib.hid hx; have HQ := Lib.hid hq; clear hx hq
    have HR := Lib.hid (Bx.new w #[.int .i64 0, .string ⟨#[]⟩, .int .i64 0, .int .i64 0] 113); have HB := Lib.hid ((Below.refl w.heap.size w).alloc (Nat.le_refl _) (.cells #[.int .i64 0, .string ⟨#[]⟩, .int .i64 0, .int .i64 0] 113))
    go_enter Tryz.func128, Tryz.ntmps128
    go_upto_region 1 with (fail)
    generalize hW : w.alloc (.cells #[.int .i64 0, .string ⟨#[]⟩, .int .i64 0, .int .i64 0] 113) = v0 at HR HB ⊢
    clear hW
    go_wp2_with fail
    refine (word_any l _).mono ?_
    rw [HM.out]
    rintro er w1 ⟨rfl, hb1⟩
    have HR := Lib.hid (HR.out.call hb1)
    have HB := Lib.hid (btrans HB.out HB.out.size hb1); clear hb1
    go_wp2_with fail
    refine (literal_any l (by omega) hl _).mono ?_
    rw [HX.out]
    rintro er w2 ⟨rfl, hb1⟩
    have HR := Lib.hid (HR.out.call hb1)
    have HB := Lib.hid (btrans HB.out HB.out.size hb1); clear hb1
    have r0 : w2.cell? ⟨w.heap.size, 0, none⟩ = some (.int .i64 0) := HR.out.cell 0
    have r1 : w2.cell? ⟨w.heap.size, 1, none⟩ = some (.string ⟨#[]⟩) := HR.out.cell 1
    have r2 : w2.cell? ⟨w.heap.size, 2, none⟩ = some (.int .i64 0) := HR.out.cell 2
    have r3 : w2.cell? ⟨w.heap.size, 3, none⟩ = some (.int .i64 0) := HR.out.cell 3
    have f0 := HR.out.free 0
    have f1 := HR.out.free 1
    have f2 := HR.out.free 2
    have f3 := HR.out.free 3
    have HK := Lib.hid (HR.out.sets4 (.int .i64 4) (.string (bs T)) (.int .i64 0) (.int .i64 0))
    go_wp2
    have k0 := HK.out.cell 0
    have k1 := HK.out.cell 1
    have k2 := HK.out.cell 2
    have k3 := HK.out.cell 3
    simp only [List.getElem?_toArray, List.getElem?_cons_zero, List.getElem?_cons_succ] at k0 k1 k2 k3
    refine bodyPost_ret (v := .tuple #[.agg #[.int .i64 4, .string (bs T), .int .i64 0, .int .i64 0], .int .i64 (qq : Int), .int .i64 qe]) (by simp [results, Tryz.results128, go_sem, k0, k1, k2, k3] <;> rfl) rfl ⟨rfl, ?_⟩
    exact below_sets4 HB.out w.heap.size (Nat.le_refl _) _ _ _ _
  have t34 : ((l[0].toNat : Int) == 34) = false := not34 (by cases l with | nil => simp at h0 | cons c r => intro e; apply hq; simp at e; rw [e]; rfl)
  rw [if_neg hq]
  obtain ⟨M, hmk⟩ : ∃ M, mkS l = M := ⟨_, rfl⟩
  rw [hmk]
  have HMK := Lib.hid hmk; have HQ := Lib.hid hq; clear hmk hq
  by_cases he : M = []
  · subst he
    rw [if_pos rfl]
    simp only [tkV, tk0]
    have HR := Lib.hid (Bx.new w #[.int .i64 0, .string ⟨#[]⟩, .int .i64 0, .int .i64 0] 113); have HB := Lib.hid ((Below.refl w.heap.size w).alloc (Nat.le_refl _) (.cells #[.int .i64 0, .string ⟨#[]⟩, .int .i64 0, .int .i64 0] 113))
    go_enter Tryz.func128, Tryz.ntmps128
    go_upto_region 1 with (fail)
    generalize hW : w.alloc (.cells #[.int .i64 0, .string ⟨#[]⟩, .int .i64 0, .int .i64 0] 113) = v0 at HR HB ⊢
    clear hW
    go_wp2_with fail
    refine (word_any l _).mono ?_
    rw [HM.out]
    rintro er w1 ⟨rfl, hb1⟩
    have HR := Lib.hid (HR.out.call hb1)
    have HB := Lib.hid (btrans HB.out HB.out.size hb1); clear hb1
    go_wp2_with fail
    refine (mark_any l (by omega) _).mono ?_
    rw [HMK.out]
    rintro er w2 ⟨rfl, rfl⟩
    have r0 : w1.cell? ⟨w.heap.size, 0, none⟩ = some (.int .i64 0) := HR.out.cell 0
    have r1 : w1.cell? ⟨w.heap.size, 1, none⟩ = some (.string ⟨#[]⟩) := HR.out.cell 1
    have r2 : w1.cell? ⟨w.heap.size, 2, none⟩ = some (.int .i64 0) := HR.out.cell 2
    have r3 : w1.cell? ⟨w.heap.size, 3, none⟩ = some (.int .i64 0) := HR.out.cell 3
    have f0 := HR.out.free 0
    have f1 := HR.out.free 1
    have f2 := HR.out.free 2
    have f3 := HR.out.free 3
    have HK := Lib.hid (HR.out.sets4 (.int .i64 0) (.string ⟨#[]⟩) (.int .i64 0) (.int .i64 0))
    go_wp2
    have k0 := HK.out.cell 0
    have k1 := HK.out.cell 1
    have k2 := HK.out.cell 2
    have k3 := HK.out.cell 3
    simp only [List.getElem?_toArray, List.getElem?_cons_zero, List.getElem?_cons_succ] at k0 k1 k2 k3
    refine bodyPost_ret (v := .tuple #[.agg #[.int .i64 0, .string (bs []), .int .i64 0, .int .i64 0], .int .i64 0, .int .i64 5]) (by simp [results, Tryz.results128, go_sem, k0, k1, k2, k3] <;> rfl) rfl ⟨rfl, ?_⟩
    exact below_sets4 HB.out w.heap.size (Nat.le_refl _) _ _ _ _
  rw [if_neg he]
  simp only [tkV]
  have te : M.isEmpty = false := by cases M with | nil => exact absurd rfl he | cons c r => rfl
  have te2 : (M == []) = false := by rw [beq_eq_false_iff_ne]; exact he
  clear he
  have HR := Lib.hid (Bx.new w #[.int .i64 0, .string ⟨#[]⟩, .int .i64 0, .int .i64 0] 113); have HB := Lib.hid ((Below.refl w.heap.size w).alloc (Nat.le_refl _) (.cells #[.int .i64 0, .string ⟨#[]⟩, .int .i64 0, .int .i64 0] 113))
  go_enter Tryz.func128, Tryz.ntmps128
  go_upto_region 1 with (fail)
  generalize hW : w.alloc (.cells #[.int .i64 0, .string ⟨#[]⟩, .int .i64 0, .int .i64 0] 113) = v0 at HR HB ⊢
  clear hW
  go_wp2_with fail
  refine (word_any l _).mono ?_
  rw [HM.out]
  rintro er w1 ⟨rfl, hb1⟩
  have HR := Lib.hid (HR.out.call hb1)
  have HB := Lib.hid (btrans HB.out HB.out.size hb1); clear hb1
  go_wp2_with fail
  refine (mark_any l (by omega) _).mono ?_
  rw [HMK.out]
  rintro er w2 ⟨rfl, rfl⟩
  have r0 : w1.cell? ⟨w.heap.size, 0, none⟩ = some (.int .i64 0) := HR.out.cell 0
  have r1 : w1.cell? ⟨w.heap.size, 1, none⟩ = some (.string ⟨#[]⟩) := HR.out.cell 1
  have r2 : w1.cell? ⟨w.heap.size, 2, none⟩ = some (.int .i64 0) := HR.out.cell 2
  have r3 : w1.cell? ⟨w.heap.size, 3, none⟩ = some (.int .i64 0) := HR.out.cell 3
  have f0 := HR.out.free 0
  have f1 := HR.out.free 1
  have f2 := HR.out.free 2
  have f3 := HR.out.free 3
  have HK := Lib.hid (HR.out.sets4 (.int .i64 5) (.string (bs M)) (.int .i64 0) (.int .i64 0))
  go_wp2
  have k0 := HK.out.cell 0
  have k1 := HK.out.cell 1
  have k2 := HK.out.cell 2
  have k3 := HK.out.cell 3
  simp only [List.getElem?_toArray, List.getElem?_cons_zero, List.getElem?_cons_succ] at k0 k1 k2 k3
  refine bodyPost_ret (v := .tuple #[.agg #[.int .i64 5, .string (bs M), .int .i64 0, .int .i64 0], .int .i64 (M.length : Int), .int .i64 0]) (by simp [results, Tryz.results128, go_sem, k0, k1, k2, k3] <;> rfl) rfl ⟨rfl, ?_⟩
  exact below_sets4 HB.out w.heap.size (Nat.le_refl _) _ _ _ _
end Go.Proofs.YtkmmdkklpbafdaaGreatDoor
