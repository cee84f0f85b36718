/- Layer 16, plain: valid code is read back from its text. No conditions. -/
import Derived.Test.YtkmmdkklpbafdaaGreatDoorBytP
import Derived.Test.YtkmmdkklpbafdaaGreatDoorBytT
namespace Go.Proofs.YtkmmdkklpbafdaaGreatDoor
open Go.RowKit

set_option maxRecDepth 100000 in
theorem itoa_byte {n : Int} : ∀ c ∈ Lib.itoa n, isDig c = true ∨ c = 45 := by
  intro c hc
  unfold Lib.itoa at hc
  have hall := fun (m : Nat) (c : UInt8) (h : c ∈ Lib.decDigits m) => List.all_eq_true.1 (decDigits_all m) c h
  split at hc
  · rcases List.mem_cons.1 hc with h | h
    · exact .inr h
    · exact .inl (hall _ _ h)
  · exact .inl (hall _ _ hc)
theorem dig_no {c : UInt8} {d : UInt8} (h : isDig c = true ∨ c = 45) (hd : isDig d = false ∧ d ≠ 45) : c ≠ d := by
  intro e; subst e
  rcases h with h | h
  · rw [hd.1] at h; cases h
  · exact hd.2 h
theorem itoa_no {n : Int} {d : UInt8} (hd : isDig d = false ∧ d ≠ 45) : d ∉ Lib.itoa n := fun h => dig_no (itoa_byte d h) hd rfl
theorem d32 : isDig 32 = false ∧ (32 : UInt8) ≠ 45 := by decide
theorem d10 : isDig 10 = false ∧ (10 : UInt8) ≠ 45 := by decide
set_option maxRecDepth 100000 in
theorem splX_ne (x : UInt8) : ∀ l, splX x l ≠ []
  | [] => by simp [splX]
  | c :: r => by
    unfold splX
    split
    · simp
    · cases h : splX x r with
      | nil => simp
      | cons a b => simp
theorem splX_cons_ne {x c : UInt8} (h : c ≠ x) (r : List UInt8) : ∃ a t, splX x r = a :: t ∧ splX x (c :: r) = (c :: a) :: t := by
  cases e : splX x r with
  | nil => exact absurd e (splX_ne x r)
  | cons a t => exact ⟨a, t, rfl, by unfold splX; rw [if_neg h, e]⟩
theorem splX_one {x : UInt8} : ∀ {a : List UInt8}, x ∉ a → splX x a = [a]
  | [], _ => rfl
  | c :: r, h => by
    have hc : c ≠ x := fun e => h (by simp [e])
    have ih := splX_one (x := x) (a := r) (fun e => h (List.mem_cons_of_mem _ e))
    unfold splX; rw [if_neg hc, ih]
set_option maxRecDepth 100000 in
theorem splX_app {x : UInt8} : ∀ {a : List UInt8} (r : List UInt8), x ∉ a → splX x (a ++ x :: r) = a :: splX x r
  | [], r, _ => by show splX x (x :: r) = _; unfold splX; rw [if_pos rfl]; cases r <;> rfl
  | c :: t, r, h => by
    have hc : c ≠ x := fun e => h (by simp [e])
    have ih := splX_app (x := x) (a := t) r (fun e => h (List.mem_cons_of_mem _ e))
    show splX x (c :: (t ++ x :: r)) = _
    rw [splX, if_neg hc, ih]
theorem cutX_no {x : UInt8} : ∀ {a : List UInt8}, x ∉ a → cutX x a = (a, [], false)
  | [], _ => rfl
  | c :: r, h => by
    have hc : c ≠ x := fun e => h (by simp [e])
    have ih := cutX_no (x := x) (a := r) (fun e => h (List.mem_cons_of_mem _ e))
    unfold cutX; rw [if_neg hc, ih]
set_option maxRecDepth 100000 in
theorem cutX_app {x : UInt8} : ∀ {a : List UInt8} (r : List UInt8), x ∉ a → cutX x (a ++ x :: r) = (a, r, true)
  | [], r, _ => by show cutX x (x :: r) = _; unfold cutX; rw [if_pos rfl]
  | c :: t, r, h => by
    have hc : c ≠ x := fun e => h (by simp [e])
    have ih := cutX_app (x := x) (a := t) r (fun e => h (List.mem_cons_of_mem _ e))
    show cutX x (c :: (t ++ x :: r)) = _
    unfold cutX; rw [if_neg hc, ih]
theorem chop_lines : ∀ (L : List (List UInt8)) (t : List (List UInt8)), t = [] ∨ t = [[]] → chop (L ++ t) = if t = [] then chop L else L := by
  intro L t ht
  rcases ht with rfl | rfl
  · simp
  · unfold chop
    rw [if_pos (by simp), if_neg (by simp)]; simp
set_option maxRecDepth 100000 in
theorem splX_ty : ∀ (p : List Int), p.all tyB = true → splX 32 (p.flatMap tyT) = [] :: p.map fun t => (tyT t).drop 1
  | [], _ => rfl
  | t :: r, h => by
    simp only [List.all_cons, Bool.and_eq_true] at h
    have ih := splX_ty r h.2
    have ht : t = 1 ∨ t = 2 := by have := h.1; unfold tyB at this; simpa using this
    rw [List.flatMap_cons]
    have key : ∀ (w : List UInt8), 32 ∉ w → splX 32 ((32 :: w) ++ r.flatMap tyT) = [] :: w :: r.map fun t => (tyT t).drop 1 := by
      intro w hw
      show splX 32 ([] ++ 32 :: (w ++ r.flatMap tyT)) = _
      rw [splX_app _ (by simp)]
      congr 1
      cases r with
      | nil => rw [List.flatMap_nil, List.append_nil, splX_one hw]; rfl
      | cons u v =>
        have h3 : ∃ z, (u :: v).flatMap tyT = 32 :: z := by
          rw [List.flatMap_cons]; unfold tyT; split
          · exact ⟨_, rfl⟩
          · exact ⟨_, rfl⟩
        obtain ⟨z, hz⟩ := h3
        rw [hz] at ih ⊢
        rw [splX_app _ hw]
        have e : splX 32 (32 :: z) = [] :: splX 32 z := by rw [splX, if_pos rfl]
        rw [e] at ih
        rw [(List.cons.inj ih).2]
    rcases ht with rfl | rfl
    · exact key [105, 110, 116] (by decide)
    · exact key [115, 116, 114] (by decide)
set_option maxRecDepth 100000 in
theorem parG_ty : ∀ (p acc : List Int), p.all tyB = true → parG acc (p.map fun t => (tyT t).drop 1) = (acc ++ p, true)
  | [], acc, _ => by simp [parG]
  | t :: r, acc, h => by
    simp only [List.all_cons, Bool.and_eq_true] at h
    have ht : t = 1 ∨ t = 2 := by have := h.1; unfold tyB at this; simpa using this
    rcases ht with rfl | rfl
    · show parG acc ([105, 110, 116] :: _) = _
      unfold parG; rw [if_pos rfl, parG_ty r _ h.2]; simp
    · show parG acc ([115, 116, 114] :: _) = _
      unfold parG; rw [if_neg (by decide), if_pos rfl, parG_ty r _ h.2]; simp
set_option maxRecDepth 100000 in
theorem parP_ty (p : List Int) (h : p.all tyB = true) : parP ([112, 97, 114, 97, 109, 115] ++ p.flatMap tyT) = (p, true) := by
  have e : splX 32 ([112, 97, 114, 97, 109, 115] ++ p.flatMap tyT) = [112, 97, 114, 97, 109, 115] :: p.map fun t => (tyT t).drop 1 := by
    cases p with
    | nil => rfl
    | cons t r =>
      have h1 := splX_ty (t :: r) h
      have h3 : ∃ z, (t :: r).flatMap tyT = 32 :: z := by
        rw [List.flatMap_cons]; unfold tyT; split
        · exact ⟨_, rfl⟩
        · exact ⟨_, rfl⟩
      obtain ⟨z, hz⟩ := h3
      rw [hz] at h1 ⊢
      have e2 : splX 32 (32 :: z) = [] :: splX 32 z := by rw [splX, if_pos rfl]
      rw [e2] at h1
      rw [splX_app _ (by decide), (List.cons.inj h1).2]
  unfold parP
  rw [e]
  show (if _ then parG [] _ else _) = _
  rw [if_pos rfl, parG_ty p [] h]; rfl
set_option maxRecDepth 100000 in
/-- a literal is read back -/
theorem lit_back {s : List UInt8} (h : plainS s = true) : litS (quoL s).1 = (s, true) ∧ (quoL s).1 = quoS s := by
  unfold plainS at h
  simp only [Bool.and_eq_true, decide_eq_true_eq] at h
  have hq : quoL s = (quoS s, 0) := by unfold quoL; rw [if_neg (by omega), if_pos h.1]
  have hv : valT ⟨4, s, 0, 1⟩ = true := by unfold valT; simp [h.1, h.2]
  have hj : joinT [⟨4, s, 0, 1⟩] = (quoS s, 0) := by
    have hl : (quoS s).length ≤ 2 * s.length + 2 := by
      unfold quoS
      have : ∀ l : List UInt8, (l.flatMap esc).length ≤ 2 * l.length := by
        intro l
        induction l with
        | nil => simp
        | cons c r ih =>
          rw [List.flatMap_cons, List.length_append, List.length_cons]
          have : (esc c).length ≤ 2 := by unfold esc; split <;> simp
          omega
      have := this s
      simp only [List.length_cons, List.length_append, List.length_nil]; omega
    unfold joinT
    rw [if_pos (by simp [hv])]
    have hc : catT [⟨4, s, 0, 1⟩] = quoS s := by
      show txtT ⟨4, s, 0, 1⟩ = _
      unfold txtT; simp [hq]
    rw [hc, if_neg (by omega)]
  have ht := join_trip (M := [⟨4, s, 0, 1⟩]) (by intro x hx; simp only [List.mem_singleton] at hx; subst hx; show (0 : Int) ≤ _; decide) (by rw [hj])
  rw [hj] at ht
  refine ⟨?_, by rw [hq]⟩
  unfold litS
  rw [hq]
  show (match tokenS (quoS s) with | ([x], _, e) => _ | _ => _) = _
  rw [show tokenS (quoS s) = ([⟨4, s, 0, 1⟩], 0, 0) from ht]
  simp [hq]
set_option maxRecDepth 100000 in
theorem quoS_no10 {s : List UInt8} (h : s.all okc = true) : (10 : UInt8) ∉ quoS s := by
  unfold quoS
  intro hm
  rcases List.mem_cons.1 hm with e | hm
  · exact absurd e (by decide)
  rcases List.mem_append.1 hm with hm | hm
  · obtain ⟨c, hc, hx⟩ := List.mem_flatMap.1 hm
    have hk := (okc_iff c).1 (List.all_eq_true.1 h c hc)
    unfold esc at hx
    split at hx
    · simp only [List.mem_cons, List.not_mem_nil, or_false] at hx
      rcases hx with e | e
      · exact absurd e (by decide)
      · rw [← e] at hk; exact absurd hk.1 (by decide)
    · simp only [List.mem_cons, List.not_mem_nil, or_false] at hx
      rw [← hx] at hk; exact absurd hk.1 (by decide)
  · simp only [List.mem_cons, List.not_mem_nil, or_false] at hm
    exact absurd hm (by decide)
theorem fits_small {n : Int} (h : 0 ≤ n) (h1 : n ≤ 1000000) : fits n = true := (fits_iff n).2 ⟨by omega, by omega⟩
theorem num1 {op a : Int} (h : fits a = true) : numsI op (splX 32 (Lib.itoa a)) = layN op [a] := by
  unfold numsI
  rw [splX_one (itoa_no d32)]
  unfold numG; rw [parse_itoa a h]; simp [numG]
theorem num3 {op a b n : Int} (h : fits a = true) (hb : fits b = true) (hn : fits n = true) : numsI op (splX 32 (Lib.itoa a ++ 32 :: (Lib.itoa b ++ 32 :: Lib.itoa n))) = layN op [a, b, n] := by
  unfold numsI
  rw [splX_app _ (itoa_no d32), splX_app _ (itoa_no d32), splX_one (itoa_no d32)]
  simp [numG, parse_itoa a h, parse_itoa b hb, parse_itoa n hn]
theorem pre_drop (i : Nat) (t : List UInt8) : (Lib.itoa (i : Int) ++ [32]).isPrefixOf (Lib.itoa (i : Int) ++ 32 :: t) = true ∧ (Lib.itoa (i : Int) ++ 32 :: t).drop (Lib.itoa (i : Int) ++ [32]).length = t := by
  have e : Lib.itoa (i : Int) ++ 32 :: t = (Lib.itoa (i : Int) ++ [32]) ++ t := by simp
  rw [e]
  exact ⟨by rw [List.isPrefixOf_iff_prefix]; exact List.prefix_append _ _, List.drop_left⟩
set_option maxRecDepth 100000 in
theorem insP_more {i : Nat} {nm t : List UInt8} {k : Nat} (hk : OPN.idxOf nm = k) (h14 : k < 14) (hn : 32 ∉ nm) : insP i (Lib.itoa (i : Int) ++ (32 :: (nm ++ 32 :: t))) =
    (let op : Int := (k : Int) + 1
     if op = 2 then (if (litS t).2 = true then some ⟨2, 0, 0, 0, (litS t).1⟩ else none)
      else if op = 5 then (if OPR.idxOf t < 21 then some ⟨5, (OPR.idxOf t : Int) + 4, 0, 0, []⟩ else none)
      else numsI op (splX 32 t)) := by
  unfold insP
  rw [if_pos (pre_drop i _).1, (pre_drop i _).2]
  simp only [cutX_app t hn, hk, if_pos h14, if_neg (Bool.noConfusion : ¬ true = false)]
theorem insP_bare {i : Nat} {nm : List UInt8} {k : Nat} (hk : OPN.idxOf nm = k) (h14 : k < 14) (hn : 32 ∉ nm) : insP i (Lib.itoa (i : Int) ++ (32 :: nm)) = (if fldS ((k : Int) + 1) = 0 then some ⟨(k : Int) + 1, 0, 0, 0, []⟩ else none) := by
  unfold insP
  rw [if_pos (pre_drop i _).1, (pre_drop i _).2]
  simp only [cutX_no hn, hk, if_pos h14, if_true]
set_option maxRecDepth 100000 in
theorem arS_rng {a : Int} (h : 1 ≤ arS a) : 4 ≤ a ∧ a ≤ 24 := by
  unfold arS at h
  split at h
  · omega
  · split at h
    · omega
    · omega
theorem OPR_idx : ∀ k, k < 21 → OPR.idxOf (OPR.getD k []) = k := by decide
theorem OPR_no : ∀ k, k < 21 → (10 : UInt8) ∉ OPR.getD k [] := by decide
set_option maxRecDepth 100000 in
/-- an instruction is read back from its line -/
theorem ins_back {sl n : Int} {x : Ins} (i : Nat) (hsl : sl ≤ 64) (hn : n ≤ 4096) (hf : fits x.n = true) (h : insS sl n x = true) : insP i (lineT i x) = some x ∧ (10 : UInt8) ∉ lineT i x := by
  obtain ⟨op, a, b, m, s⟩ := x
  unfold insS at h
  simp only [Bool.and_eq_true, decide_eq_true_eq] at h
  obtain ⟨⟨h1, h2⟩, hu, h3⟩ := h
  unfold unuS at hu
  simp only at hu h1 h2 hf
  have n10 : (10 : UInt8) ∉ Lib.itoa (i : Int) := itoa_no d10
  have m10 : ∀ q : Int, (10 : UInt8) ∉ Lib.itoa q := fun q => itoa_no d10
  have hop : op = 1 ∨ op = 2 ∨ op = 3 ∨ op = 4 ∨ op = 5 ∨ op = 6 ∨ op = 7 ∨ op = 8 ∨ op = 9 ∨ op = 10 ∨ op = 11 ∨ op = 12 ∨ op = 13 ∨ op = 14 := by omega
  unfold lineT fldT
  rcases hop with rfl | rfl | rfl | rfl | rfl | rfl | rfl | rfl | rfl | rfl | rfl | rfl | rfl | rfl
  · simp [uA, uB, uN, uS] at hu
    obtain ⟨rfl, rfl, rfl⟩ := hu
    simp only [nameS, uA, uB, uN, uS]
    refine ⟨?_, by simp [n10, m10, OPN]⟩
    have e := insP_more (i := i) (t := Lib.itoa m) (show OPN.idxOf [105, 110, 116] = 0 by decide) (by decide) (by decide)
    simp [num1 hf, layN, uA, uB, uN] at e
    simpa [OPN] using e
  · simp [uA, uB, uN, uS] at hu
    obtain ⟨rfl, rfl, rfl⟩ := hu
    simp only [if_true] at h3
    obtain ⟨g1, g2⟩ := lit_back h3
    have g3 : (10 : UInt8) ∉ quoS s := quoS_no10 (by unfold plainS at h3; simp only [Bool.and_eq_true] at h3; exact h3.1)
    simp only [nameS, uA, uB, uN, uS]
    refine ⟨?_, by simp [n10, OPN, g2, g3]⟩
    have e := insP_more (i := i) (t := (quoL s).1) (show OPN.idxOf [115, 116, 114] = 1 by decide) (by decide) (by decide)
    simp [g1] at e
    simpa [OPN] using e
  · simp [uA, uB, uN, uS] at hu
    obtain ⟨rfl, rfl, rfl⟩ := hu
    simp [inR] at h3
    simp only [nameS, uA, uB, uN, uS]
    refine ⟨?_, by simp [n10, m10, OPN]⟩
    have e := insP_more (i := i) (t := Lib.itoa a) (show OPN.idxOf [108, 111, 97, 100] = 2 by decide) (by decide) (by decide)
    simp [num1 (fits_small h3.1 (by omega)), layN, uA, uB, uN] at e
    simpa [OPN] using e
  · simp [uA, uB, uN, uS] at hu
    obtain ⟨rfl, rfl, rfl⟩ := hu
    simp [inR] at h3
    simp only [nameS, uA, uB, uN, uS]
    refine ⟨?_, by simp [n10, m10, OPN]⟩
    have e := insP_more (i := i) (t := Lib.itoa a) (show OPN.idxOf [115, 116, 111, 114, 101] = 3 by decide) (by decide) (by decide)
    simp [num1 (fits_small h3.1 (by omega)), layN, uA, uB, uN] at e
    simpa [OPN] using e
  · simp [uA, uB, uN, uS] at hu
    obtain ⟨rfl, rfl, rfl⟩ := hu
    simp at h3
    have hr := arS_rng h3
    have hk : (a - 4).toNat < 21 := by omega
    have ha : a = ((a - 4).toNat : Int) + 4 := by omega
    generalize (a - 4).toNat = k at hk ha
    subst ha
    simp only [nameS, uA, uB, uN, uS]
    refine ⟨?_, by have := OPR_no k hk; simp [n10, OPN]; simpa using this⟩
    have e := insP_more (i := i) (t := OPR.getD k []) (show OPN.idxOf [111, 112] = 4 by decide) (by decide) (by decide)
    rw [OPR_idx k hk] at e
    simp [hk] at e
    simpa [OPN] using e
  · simp [uA, uB, uN, uS] at hu
    obtain ⟨rfl, rfl, rfl⟩ := hu
    simp [inR] at h3
    simp only [nameS, uA, uB, uN, uS]
    refine ⟨?_, by simp [n10, m10, OPN]⟩
    have e := insP_more (i := i) (t := Lib.itoa a) (show OPN.idxOf [106, 117, 109, 112] = 5 by decide) (by decide) (by decide)
    simp [num1 (fits_small h3.1 (by omega)), layN, uA, uB, uN] at e
    simpa [OPN] using e
  · simp [uA, uB, uN, uS] at hu
    obtain ⟨rfl, rfl, rfl⟩ := hu
    simp [inR] at h3
    simp only [nameS, uA, uB, uN, uS]
    refine ⟨?_, by simp [n10, m10, OPN]⟩
    have e := insP_more (i := i) (t := Lib.itoa a) (show OPN.idxOf [102, 97, 108, 115, 101] = 6 by decide) (by decide) (by decide)
    simp [num1 (fits_small h3.1 (by omega)), layN, uA, uB, uN] at e
    simpa [OPN] using e
  · simp [uA, uB, uN, uS] at hu
    obtain ⟨rfl, rfl, rfl, rfl⟩ := hu
    simp only [nameS, uA, uB, uN, uS]
    refine ⟨?_, by simp [n10, OPN]⟩
    have e := insP_bare (i := i) (show OPN.idxOf [112, 117, 116] = 7 by decide) (by decide) (by decide)
    simp [fldS, uA, uB, uN, uS] at e
    simpa [OPN] using e
  · simp [uA, uB, uN, uS] at hu
    obtain ⟨rfl, rfl, rfl, rfl⟩ := hu
    simp only [nameS, uA, uB, uN, uS]
    refine ⟨?_, by simp [n10, OPN]⟩
    have e := insP_bare (i := i) (show OPN.idxOf [100, 101, 108] = 8 by decide) (by decide) (by decide)
    simp [fldS, uA, uB, uN, uS] at e
    simpa [OPN] using e
  · simp [uA, uB, uN, uS] at hu
    obtain ⟨rfl, rfl, rfl, rfl⟩ := hu
    simp only [nameS, uA, uB, uN, uS]
    refine ⟨?_, by simp [n10, OPN]⟩
    have e := insP_bare (i := i) (show OPN.idxOf [101, 109, 105, 116] = 9 by decide) (by decide) (by decide)
    simp [fldS, uA, uB, uN, uS] at e
    simpa [OPN] using e
  · simp [uA, uB, uN, uS] at hu
    obtain ⟨rfl, rfl, rfl⟩ := hu
    simp [inR] at h3
    simp only [nameS, uA, uB, uN, uS]
    refine ⟨?_, by simp [n10, m10, OPN]⟩
    have e := insP_more (i := i) (t := Lib.itoa a) (show OPN.idxOf [97, 98, 111, 114, 116] = 10 by decide) (by decide) (by decide)
    simp [num1 (fits_small h3.1 (by omega)), layN, uA, uB, uN] at e
    simpa [OPN] using e
  · simp [uA, uB, uN, uS] at hu
    subst hu
    simp [inR] at h3
    simp only [nameS, uA, uB, uN, uS]
    refine ⟨?_, by simp [n10, m10, OPN]⟩
    have e := insP_more (i := i) (t := Lib.itoa a ++ 32 :: (Lib.itoa b ++ 32 :: Lib.itoa m)) (show OPN.idxOf [108, 111, 111, 112] = 11 by decide) (by decide) (by decide)
    simp [num3 (fits_small h3.1.1 (by omega)) (fits_small h3.2.1.1 (by omega)) hf, layN, uA, uB, uN] at e
    simpa [OPN] using e
  · simp [uA, uB, uN, uS] at hu
    obtain ⟨rfl, rfl, rfl, rfl⟩ := hu
    simp only [nameS, uA, uB, uN, uS]
    refine ⟨?_, by simp [n10, OPN]⟩
    have e := insP_bare (i := i) (show OPN.idxOf [101, 110, 100] = 12 by decide) (by decide) (by decide)
    simp [fldS, uA, uB, uN, uS] at e
    simpa [OPN] using e
  · simp [uA, uB, uN, uS] at hu
    obtain ⟨rfl, rfl, rfl, rfl⟩ := hu
    simp only [nameS, uA, uB, uN, uS]
    refine ⟨?_, by simp [n10, OPN]⟩
    have e := insP_bare (i := i) (show OPN.idxOf [116, 105, 99, 107] = 13 by decide) (by decide) (by decide)
    simp [fldS, uA, uB, uN, uS] at e
    simpa [OPN] using e
set_option maxRecDepth 100000 in
/-- the lines of instructions, read back from the pieces -/
theorem lin_back {sl n : Int} (hsl : sl ≤ 64) (hn : n ≤ 4096) : ∀ (l : List Ins) (i : Nat) (acc : List Ins), (∀ x ∈ l, fits x.n = true ∧ insS sl n x = true) →
    ∃ L, splX 10 (linesT i l) = L ++ [[]] ∧ linG acc i L = (acc ++ l, none)
  | [], i, acc, _ => ⟨[], rfl, by simp [linG]⟩
  | x :: r, i, acc, h => by
    obtain ⟨L, h1, h2⟩ := lin_back hsl hn r (i + 1) (acc ++ [x]) (fun y hy => h y (by simp [hy]))
    obtain ⟨h3, h4⟩ := ins_back i hsl hn (h x (by simp)).1 (h x (by simp)).2
    refine ⟨lineT i x :: L, ?_, ?_⟩
    · show splX 10 (lineT i x ++ 10 :: linesT (i + 1) r) = _
      rw [splX_app _ h4, h1]; rfl
    · unfold linG; rw [h3]
      show linG (acc ++ [x]) (i + 1) L = _
      rw [h2]; simp
set_option maxRecDepth 100000 in
theorem ty_no10 (p : List Int) : (10 : UInt8) ∉ p.flatMap tyT := by
  intro h
  obtain ⟨t, _, hx⟩ := List.mem_flatMap.1 h
  unfold tyT at hx
  split at hx
  · exact absurd hx (by decide)
  · exact absurd hx (by decide)
set_option maxRecDepth 100000 in
theorem valC_parts {c : Cd} (h : valC c = 0) : c.l.length ≤ 4096 ∧ c.sl ≤ 64 ∧ c.p.all tyB = true ∧ (c.p.length : Int) ≤ c.sl ∧ c.l.all (insS c.sl (c.l.length : Int)) = true ∧ c.l.length ≠ 0 ∧ (depG [] 0 c.l).2 = true ∧ leaI (lastI c.l) = true ∧ c.l.all (jokS (depG [] 0 c.l).1) = true := by
  unfold valC at h
  split at h
  · exact absurd h (by decide)
  rename_i h1
  split at h
  · exact absurd h (by decide)
  rename_i h2
  split at h
  · exact absurd h (by decide)
  rename_i h3
  split at h
  · exact absurd h (by decide)
  rename_i h4
  split at h
  · exact absurd h (by decide)
  rename_i h5
  split at h
  · exact absurd h (by decide)
  rename_i h6
  simp only [not_or, Bool.not_eq_false] at h1 h2 h3 h4 h5 h6
  exact ⟨by omega, by omega, h2, by omega, h4, h3.2, h5.1, h5.2, h6⟩
set_option maxRecDepth 100000 in
/-- valid code is read back from its text -/
theorem trip_code {c : Cd} (hf : ∀ x ∈ c.l, fits x.n = true) (h : valC c = 0) : parC (textC c) = (c, 0, 0) := by
  obtain ⟨h1, h2, h3, h4, h5, h6, _⟩ := valC_parts h
  obtain ⟨L, e1, e2⟩ := lin_back h2 (by omega : (c.l.length : Int) ≤ 4096) c.l 0 [] (fun x hx => ⟨hf x hx, List.all_eq_true.1 h5 x hx⟩)
  have et : textC c = ([112, 97, 114, 97, 109, 115] ++ c.p.flatMap tyT) ++ 10 :: (([115, 108, 111, 116, 115, 32] ++ Lib.itoa c.sl) ++ 10 :: linesT 0 c.l) := by
    unfold textC headT; simp
  have hno1 : (10 : UInt8) ∉ [112, 97, 114, 97, 109, 115] ++ c.p.flatMap tyT := by
    intro hm
    rcases List.mem_append.1 hm with hm | hm
    · exact absurd hm (by decide)
    · exact ty_no10 _ hm
  have hno2 : (10 : UInt8) ∉ [115, 108, 111, 116, 115, 32] ++ Lib.itoa c.sl := by
    intro hm
    rcases List.mem_append.1 hm with hm | hm
    · exact absurd hm (by decide)
    · exact itoa_no d10 hm
  unfold parC
  rw [et, splX_app _ hno1, splX_app _ hno2, e1]
  have hch : chop (([112, 97, 114, 97, 109, 115] ++ c.p.flatMap tyT) :: ([115, 108, 111, 116, 115, 32] ++ Lib.itoa c.sl) :: (L ++ [[]])) = ([112, 97, 114, 97, 109, 115] ++ c.p.flatMap tyT) :: ([115, 108, 111, 116, 115, 32] ++ Lib.itoa c.sl) :: L := by
    have := chop_lines (([112, 97, 114, 97, 109, 115] ++ c.p.flatMap tyT) :: ([115, 108, 111, 116, 115, 32] ++ Lib.itoa c.sl) :: L) [[]] (.inr rfl)
    rw [if_neg (by simp)] at this
    exact this
  rw [hch]
  have hp := parP_ty c.p h3
  unfold parL
  simp only [hp]
  have hsl : parseS (([115, 108, 111, 116, 115, 32] ++ Lib.itoa c.sl).drop 6) = (c.sl, 0) := by
    rw [List.drop_left' (by rfl)]
    exact parse_itoa _ ((fits_iff _).2 ⟨by omega, by omega⟩)
  rw [hsl, e2]
  simp only [List.nil_append]
  rw [if_neg (by simp), if_pos ⟨by rw [List.isPrefixOf_iff_prefix]; exact List.prefix_append _ _, trivial⟩]
  have hc : (⟨c.p, c.sl, c.l⟩ : Cd) = c := rfl
  rw [hc, if_pos h]
set_option maxRecDepth 100000 in
theorem par_err {s : List UInt8} {c : Cd} {n e : Int} (h : parC s = (c, n, e)) (he : e ≠ 0) : c = cd0 := by
  unfold parC parL at h
  split at h
  · exact (congrArg Prod.fst h).symm
  · split at h
    · exact (congrArg Prod.fst h).symm
    · split at h
      · exact (congrArg Prod.fst h).symm
      · split at h
        · split at h
          · exact (congrArg Prod.fst h).symm
          · split at h
            · exact absurd (congrArg (fun x => x.2.2) h).symm he
            · exact (congrArg Prod.fst h).symm
        · exact (congrArg Prod.fst h).symm
set_option maxRecDepth 100000 in
theorem par_valid {s : List UInt8} {c : Cd} {n : Int} (h : parC s = (c, n, 0)) : valC c = 0 ∧ n = 0 := by
  unfold parC parL at h
  split at h
  · exact absurd (show (5 : Int) = 0 from congrArg (fun x => x.2.2) h) (by decide)
  · split at h
    · exact absurd (show (5 : Int) = 0 from congrArg (fun x => x.2.2) h) (by decide)
    · split at h
      · exact absurd (show (5 : Int) = 0 from congrArg (fun x => x.2.2) h) (by decide)
      · split at h
        · split at h
          · exact absurd (show (5 : Int) = 0 from congrArg (fun x => x.2.2) h) (by decide)
          · split at h
            · rename_i hv
              have h1 := congrArg Prod.fst h
              have h2 := congrArg (fun x => x.2.1) h
              simp only at h1 h2
              rw [← h1]; exact ⟨hv, h2.symm⟩
            · rename_i hv
              exact absurd (congrArg (fun x => x.2.2) h) hv
        · exact absurd (show (5 : Int) = 0 from congrArg (fun x => x.2.2) h) (by decide)
end Go.Proofs.YtkmmdkklpbafdaaGreatDoor
