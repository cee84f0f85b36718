/- The walks of layer 7's IsName, mark, Quote and of the reference's. No conditions. -/
import Derived.Test.YtkmmdkklpbafdaaGreatDoorLexA
import Derived.Lib.IndexLaws
namespace Go.Proofs.YtkmmdkklpbafdaaGreatDoor
open Go.RowKit

theorem esc_take (l : List UInt8) (k : Nat) (h : k < l.length) : (l.take (k + 1)).flatMap esc = (l.take k).flatMap esc ++ esc l[k] := by
  rw [ltake_snoc l k h, List.flatMap_append]; simp
theorem esc_yes {c : UInt8} (h : c = 34 ∨ c = 92) : esc c = [92, c] := by unfold esc; rw [if_pos h]
theorem esc_no {c : UInt8} (h : ¬ (c = 34 ∨ c = 92)) : esc c = [c] := by unfold esc; rw [if_neg h]
set_option maxRecDepth 100000 in
theorem esc_len (l : List UInt8) : (l.flatMap esc).length ≤ 2 * l.length := by
  induction l with
  | nil => simp
  | cons c r ih =>
    rw [List.flatMap_cons, List.length_append, List.length_cons]
    have : (esc c).length ≤ 2 := by unfold esc; split <;> simp
    omega
theorem is34 {c : UInt8} (h : c = 34) : ((c.toNat : Int) == 34) = true := by rw [h]; rfl
theorem not34 {c : UInt8} (h : c ≠ 34) : ((c.toNat : Int) == 34) = false := by
  rw [beq_eq_false_iff_ne]; intro e; apply h; apply UInt8.toNat_inj.1; show c.toNat = 34; omega
theorem is92 {c : UInt8} (h : c = 92) : ((c.toNat : Int) == 92) = true := by rw [h]; rfl
theorem not92 {c : UInt8} (h : c ≠ 92) : ((c.toNat : Int) == 92) = false := by
  rw [beq_eq_false_iff_ne]; intro e; apply h; apply UInt8.toNat_inj.1; show c.toNat = 92; omega
theorem bc_snoc (l : List UInt8) (c : UInt8) : Lib.byteCells l ++ [.int .u8 (c.toNat : Int)] = Lib.byteCells (l ++ [c]) := by simp [Lib.byteCells]
theorem str_eq {a : ByteArray} {l : List UInt8} (h : a.data.toList = l) : Value.string a = .string (bs l) := by rw [← h, bs_toList]
/-- the builder in block b holds the bytes l -/
def Bd (b : Nat) (l : List UInt8) (w : World) : Prop := Lib.IsBuilder 47 5 b b (Lib.byteCells l) w
theorem Bd.new (w : World) : Bd w.heap.size [] (w.alloc (.cells #[.pointer none, .slice none 0 0] 47)) :=
  .inl ⟨Nat.le_refl _, .slice none 0 0, heap_alloc_new w _, World.ownsRow_nil _ _ _ _, by simp [Value.ownBlock]⟩
theorem Bd.write (b : Nat) (l : List UInt8) (c : UInt8) (w : World) (h : Bd b l w) (hl : l.length ≤ 1000000) (hb : b ≤ w.heap.size) :
    Calls Tryz.prog 91 #[.pointer (some ⟨b, 0, none⟩), .int .u8 (c.toNat : Int)] w fun e w' => e = .returned .nilIface ∧ Bd b (l ++ [c]) w' ∧ Below b w w' := by
  refine (WriteByte_any b b (Lib.byteCells l) (c.toNat : Int) w h (by rw [Lib.byteCells_length]; omega) hb).mono ?_
  rintro e w' ⟨rfl, h1, h2⟩
  rw [bc_snoc] at h1
  exact ⟨rfl, h1, h2⟩
theorem Bd.string (b : Nat) (l : List UInt8) (w : World) (h : Bd b l w) (hb : b ≤ w.heap.size) :
    Calls Tryz.prog 29 #[.pointer (some ⟨b, 0, none⟩)] w fun e w' => e = .returned (.string (bs l)) ∧ Below b w w' := Tryz.Builder_String_any b b l w h hb
theorem eq34 {c : UInt8} (h : c = 34) : ((c.toNat : Int) != 34) = false := by rw [h]; rfl
theorem neq34 {c : UInt8} (h : c ≠ 34) : ((c.toNat : Int) != 34) = true := by unfold bne; rw [not34 h]; rfl
theorem eq92 {c : UInt8} (h : c = 92) : ((c.toNat : Int) != 92) = false := by rw [h]; rfl
theorem neq92 {c : UInt8} (h : c ≠ 92) : ((c.toNat : Int) != 92) = true := by unfold bne; rw [not92 h]; rfl
theorem pl34 {c : UInt8} (h : c = 34 ∨ c = 92) : ¬ (c.toNat : Int) < 32 := by rcases h with h | h <;> rw [h] <;> decide
theorem pm34 {c : UInt8} (h : c = 34 ∨ c = 92) : ¬ (126 : Int) < (c.toNat : Int) := by rcases h with h | h <;> rw [h] <;> decide
theorem one_at (l : List UInt8) (k k1 : Nat) (e : k + 1 = k1) (h : k < l.length) : (l.take k1).drop k = [l[k]] := by
  subst e; rw [ltake_snoc l k h, List.drop_left' (by rw [List.length_take]; omega)]
theorem isNm_eq (l : List UInt8) (h : 0 < l.length) : isNm l = (decide (l.length ≤ 16) && (ltr l[0] && (decide (wlen l = l.length) && !isKw l))) := by
  cases l with
  | nil => simp at h
  | cons c r => rfl
/-- the marks of two bytes, and those of one -/
def M2 : List (List UInt8) := [[61, 61], [33, 61], [60, 61], [62, 61], [43, 43]]
def M1 : List UInt8 := [40, 41, 123, 125, 44, 59, 58, 61, 60, 62, 43, 45, 42, 47, 37]
theorem MK_eq : MK = M2 ++ M1.map fun x => [x] := rfl
set_option maxRecDepth 100000 in
theorem find_one (c : UInt8) (r : List UInt8) : ∀ O : List UInt8, (O.map fun x => [x]).find? (fun m => m.isPrefixOf (c :: r)) = if c ∈ O then some [c] else none
  | [] => by simp
  | x :: O => by
    rw [List.map_cons, List.find?_cons]
    have e : ([x] : List UInt8).isPrefixOf (c :: r) = (x == c) := by simp [List.isPrefixOf]
    rw [e, find_one c r O]
    by_cases h : x = c
    · subst h; simp
    · have h2 : (x == c) = false := by rw [beq_eq_false_iff_ne]; exact h
      rw [h2]
      by_cases h3 : c ∈ O
      · simp [h3]
      · have : ¬ c = x := fun e => h e.symm
        simp [h3, this]
set_option maxRecDepth 100000 in
theorem find_two (l : List UInt8) : ∀ T : List (List UInt8), (∀ m ∈ T, m.length = 2) → (∀ m ∈ T, l.take 2 ≠ m) → T.find? (fun m => m.isPrefixOf l) = none := by
  intro T hT hn
  rw [List.find?_eq_none]
  intro m hm hp
  have hp : m <+: l := by simpa using hp
  obtain ⟨t, rfl⟩ := hp
  exact hn m hm (by rw [List.take_left' (hT m hm)])
set_option maxRecDepth 100000 in
theorem find_hit (l K : List UInt8) (hl : l.take 2 = K) (hK : K.length = 2) : ∀ T : List (List UInt8), (∀ m ∈ T, m.length = 2) → K ∈ T → T.find? (fun m => m.isPrefixOf l) = some K
  | [], _, h => by simp at h
  | m :: T, hT, h => by
    rw [List.find?_cons]
    by_cases e : m = K
    · have : m.isPrefixOf l = true := by rw [List.isPrefixOf_iff_prefix, e, ← hl]; exact List.take_prefix 2 l
      rw [this, e]
    · have : m.isPrefixOf l = false := by
        rw [Bool.eq_false_iff]; intro hp
        have hp := List.isPrefixOf_iff_prefix.1 hp
        obtain ⟨t, rfl⟩ := hp
        rw [List.take_left' (hT m (by simp))] at hl
        exact e hl
      rw [this]
      exact find_hit l K hl hK T (fun q hq => hT q (by simp [hq])) ((List.mem_cons.1 h).resolve_left fun x => e x.symm)
theorem M2_two : ∀ m ∈ M2, m.length = 2 := by decide
theorem mk_two {l K : List UInt8} (h : l.take 2 = K) (hK : K ∈ M2) : mkS l = K := by
  unfold mkS; rw [MK_eq, List.find?_append, find_hit l K h (M2_two K hK) M2 M2_two hK]; rfl
theorem mk_one {l : List UInt8} (h0 : 0 < l.length) (h : ∀ m ∈ M2, l.take 2 ≠ m) : mkS l = if l[0] ∈ M1 then [l[0]] else [] := by
  unfold mkS; rw [MK_eq, List.find?_append, find_two l M2 M2_two h]
  cases l with
  | nil => simp at h0
  | cons c r => rw [find_one]; show (if c ∈ M1 then some [c] else none).getD [] = if c ∈ M1 then [c] else []; split <;> rfl
theorem mk_nil : mkS [] = [] := rfl
set_option maxRecDepth 100000 in
theorem ib_in (O : List UInt8) (c : UInt8) : (0 ≤ Lib.indexByte O c) ↔ c ∈ O := by
  constructor
  · intro h
    obtain ⟨n, hn⟩ := Int.eq_ofNat_of_zero_le h
    exact List.mem_of_getElem? (Lib.indexByte_some hn).1
  · intro h
    have := Lib.indexByte_ge O c
    rcases Int.lt_or_le (Lib.indexByte O c) 0 with h2 | h2
    · obtain ⟨k, hk⟩ := List.getElem?_of_mem h
      exact absurd hk (Lib.indexByte_none (by omega) k)
    · exact h2
theorem quoL_long {l : List UInt8} (h : 64 < l.length) : quoL l = ([], 2) := by unfold quoL; rw [if_pos h]
theorem quoL_bad {l : List UInt8} (h : ¬ 64 < l.length) (hp : l.all okc = false) : quoL l = ([], 1) := by unfold quoL; rw [if_neg h, if_neg (by rw [hp]; simp)]
theorem quoL_ok {l : List UInt8} (h : ¬ 64 < l.length) (hp : l.all okc = true) : quoL l = (quoS l, 0) := by unfold quoL; rw [if_neg h, if_pos hp]

set_option maxRecDepth 100000 in
set_option maxHeartbeats 4000000 in
theorem Keywords_any (w : World) :
    Calls Tryz.prog 179 #[] w fun e w' => ∃ v, e = .returned v ∧ StrS w' v KW ∧ Below w.heap.size w w' := by
  have HB := Lib.hid ((Below.refl w.heap.size w).alloc (Nat.le_refl _) (.cells #[.string (bs [112, 114, 111, 99]), .string (bs [108, 101, 116]), .string (bs [112, 117, 116]), .string (bs [100, 101, 108, 101, 116, 101]), .string (bs [105, 102]), .string (bs [101, 108, 115, 101]), .string (bs [102, 111, 114]), .string (bs [116, 111]), .string (bs [109, 97, 120]), .string (bs [101, 109, 105, 116]), .string (bs [97, 98, 111, 114, 116]), .string (bs [110, 111, 116]), .string (bs [97, 110, 100]), .string (bs [111, 114]), .string (bs [105, 110, 116]), .string (bs [115, 116, 114]), .string (bs [98, 111, 111, 108]), .string (bs [116, 101, 120, 116]), .string (bs [108, 101, 110]), .string (bs [103, 101, 116, 105, 110, 116]), .string (bs [103, 101, 116, 115, 116, 114]), .string (bs [104, 97, 115]), .string (bs [110, 111, 119]), .string (bs [114, 97, 110, 100, 111, 109]), .string (bs [110, 111, 100, 101])] 9)); have HX := Lib.hid (Bx.new w #[.string (bs [112, 114, 111, 99]), .string (bs [108, 101, 116]), .string (bs [112, 117, 116]), .string (bs [100, 101, 108, 101, 116, 101]), .string (bs [105, 102]), .string (bs [101, 108, 115, 101]), .string (bs [102, 111, 114]), .string (bs [116, 111]), .string (bs [109, 97, 120]), .string (bs [101, 109, 105, 116]), .string (bs [97, 98, 111, 114, 116]), .string (bs [110, 111, 116]), .string (bs [97, 110, 100]), .string (bs [111, 114]), .string (bs [105, 110, 116]), .string (bs [115, 116, 114]), .string (bs [98, 111, 111, 108]), .string (bs [116, 101, 120, 116]), .string (bs [108, 101, 110]), .string (bs [103, 101, 116, 105, 110, 116]), .string (bs [103, 101, 116, 115, 116, 114]), .string (bs [104, 97, 115]), .string (bs [110, 111, 119]), .string (bs [114, 97, 110, 100, 111, 109]), .string (bs [110, 111, 100, 101])] 9)
  go_enter Tryz.func179, Tryz.ntmps179
  go_wp2
  go_ret
  refine ⟨_, rfl, ⟨some ⟨w.heap.size, 0, none⟩, 25, rfl, Nat.le_refl _, fun _ => ⟨w.heap.size, 0, rfl, fun i hi => ?_⟩⟩, HB.out⟩
  refine (HX.out.cell (0 + i)).trans ?_
  rw [Nat.zero_add]
  have hi2 : i < 25 := hi
  match i, hi, hi2 with
  | 0, _, _ => rfl
  | 1, _, _ => rfl
  | 2, _, _ => rfl
  | 3, _, _ => rfl
  | 4, _, _ => rfl
  | 5, _, _ => rfl
  | 6, _, _ => rfl
  | 7, _, _ => rfl
  | 8, _, _ => rfl
  | 9, _, _ => rfl
  | 10, _, _ => rfl
  | 11, _, _ => rfl
  | 12, _, _ => rfl
  | 13, _, _ => rfl
  | 14, _, _ => rfl
  | 15, _, _ => rfl
  | 16, _, _ => rfl
  | 17, _, _ => rfl
  | 18, _, _ => rfl
  | 19, _, _ => rfl
  | 20, _, _ => rfl
  | 21, _, _ => rfl
  | 22, _, _ => rfl
  | 23, _, _ => rfl
  | 24, _, _ => rfl
  | q + 25, h, h2 => exact absurd h2 (by omega)
set_option maxRecDepth 100000 in
set_option maxHeartbeats 4000000 in
theorem Marks_any (w : World) :
    Calls Tryz.prog 163 #[] w fun e w' => ∃ v, e = .returned v ∧ StrS w' v MK ∧ Below w.heap.size w w' := by
  have HB := Lib.hid ((Below.refl w.heap.size w).alloc (Nat.le_refl _) (.cells #[.string (bs [61, 61]), .string (bs [33, 61]), .string (bs [60, 61]), .string (bs [62, 61]), .string (bs [43, 43]), .string (bs [40]), .string (bs [41]), .string (bs [123]), .string (bs [125]), .string (bs [44]), .string (bs [59]), .string (bs [58]), .string (bs [61]), .string (bs [60]), .string (bs [62]), .string (bs [43]), .string (bs [45]), .string (bs [42]), .string (bs [47]), .string (bs [37])] 9)); have HX := Lib.hid (Bx.new w #[.string (bs [61, 61]), .string (bs [33, 61]), .string (bs [60, 61]), .string (bs [62, 61]), .string (bs [43, 43]), .string (bs [40]), .string (bs [41]), .string (bs [123]), .string (bs [125]), .string (bs [44]), .string (bs [59]), .string (bs [58]), .string (bs [61]), .string (bs [60]), .string (bs [62]), .string (bs [43]), .string (bs [45]), .string (bs [42]), .string (bs [47]), .string (bs [37])] 9)
  go_enter Tryz.func163, Tryz.ntmps163
  go_wp2
  go_ret
  refine ⟨_, rfl, ⟨some ⟨w.heap.size, 0, none⟩, 20, rfl, Nat.le_refl _, fun _ => ⟨w.heap.size, 0, rfl, fun i hi => ?_⟩⟩, HB.out⟩
  refine (HX.out.cell (0 + i)).trans ?_
  rw [Nat.zero_add]
  have hi2 : i < 20 := hi
  match i, hi, hi2 with
  | 0, _, _ => rfl
  | 1, _, _ => rfl
  | 2, _, _ => rfl
  | 3, _, _ => rfl
  | 4, _, _ => rfl
  | 5, _, _ => rfl
  | 6, _, _ => rfl
  | 7, _, _ => rfl
  | 8, _, _ => rfl
  | 9, _, _ => rfl
  | 10, _, _ => rfl
  | 11, _, _ => rfl
  | 12, _, _ => rfl
  | 13, _, _ => rfl
  | 14, _, _ => rfl
  | 15, _, _ => rfl
  | 16, _, _ => rfl
  | 17, _, _ => rfl
  | 18, _, _ => rfl
  | 19, _, _ => rfl
  | q + 20, h, h2 => exact absurd h2 (by omega)
set_option maxRecDepth 100000 in
set_option maxHeartbeats 4000000 in
theorem has_any (v : Value) (M : List (List UInt8)) (s : List UInt8) (w : World) (hS : StrS w v M) (hM : M.length ≤ 1000) :
    Calls Tryz.prog 178 #[v, .string (bs s)] w fun e w' => e = .returned (.bool (decide (s ∈ M))) ∧ w = w' := by
  obtain ⟨a, cap, rfl, hcap, hcells⟩ := hS
  obtain ⟨R, hR⟩ : ∃ R, decide (s ∈ M) = R := ⟨_, rfl⟩
  rw [hR]
  have HR := Lib.hid (show decide (s ∈ M.drop 0) = R from hR); have HC := Lib.hid hcells; clear hR hcells
  go_enter Tryz.func178, Tryz.ntmps178
  go_wp2
  go_loop [5] (fun i => ∃ k : Nat, k ≤ M.length ∧ i = .int .i64 k ∧ Hid (decide (s ∈ M.drop k) = R)) (fun i => M.length - (intOf i).toNat)
  case atStart => exact ⟨0, Nat.zero_le _, rfl, HR⟩
  case round =>
    obtain ⟨k, hk, rfl, HQ⟩ := hrel
    clear HR
    by_cases hlt : k < M.length
    · have hlt' : (k : Int) < (M.length : Int) := by omega
      obtain ⟨b, off, rfl, hcell⟩ := HC.out (by intro h; rw [h] at hlt; simp at hlt)
      have c0 : w.cell? ⟨b, off + k, none⟩ = some (.string (bs M[k])) := hcell k hlt
      have hw1 : IntKind.i64.wrap ((k : Int) + 1) = (k : Int) + 1 := by rw [IntKind.wrap_i64]; omega
      clear hcell
      have HD := Lib.hid (List.drop_eq_getElem_cons hlt)
      by_cases he : M[k] = s
      · have te : (M[k] == s) = true := by rw [he]; simp
        have HF := Lib.hid (show R = true by rw [← HQ.out, HD.out, he]; simp)
        have HE := Lib.hid he; clear he
        go_wp2
        go_ret
        exact ⟨by rw [HF.out] <;> rfl, rfl⟩
      · have te : (M[k] == s) = false := by rw [beq_eq_false_iff_ne]; exact he
        have HN := Lib.hid (show decide (s ∈ M.drop (k + 1)) = R by have h9 := HQ.out; rw [HD.out] at h9; rw [← h9]; congr 1; rw [eq_iff_iff, List.mem_cons]; exact ⟨.inr, fun h => h.resolve_left (fun e => he e.symm)⟩)
        have HE := Lib.hid he; clear he
        go_wp2
        go_round
        case rel => exact ⟨k + 1, by omega, by go_num, HN⟩
        case measure => simp [intOf]; omega
    · have hlt' : ¬ (k : Int) < (M.length : Int) := by omega
      have HF := Lib.hid (show R = false by rw [← HQ.out, List.drop_of_length_le (by omega)]; simp)
      go_wp2
      go_ret
      exact ⟨by rw [HF.out] <;> rfl, rfl⟩
set_option maxRecDepth 100000 in
set_option maxHeartbeats 4000000 in
theorem RIsKeyword_any (s : List UInt8) (w : World) :
    Calls Tryz.prog 176 #[.string (bs s)] w fun e w' => e = .returned (.bool (isKw s)) ∧ Below w.heap.size w w' := by
  go_enter Tryz.func176, Tryz.ntmps176
  go_wp2_with fail
  refine (Keywords_any _).mono ?_
  rintro er w1 ⟨v, rfl, hS, hb1⟩
  have HS := Lib.hid hS; clear hS
  go_wp2_with fail
  refine (has_any v KW s _ HS.out (by decide)).mono ?_
  rintro er w2 ⟨rfl, rfl⟩
  go_wp2
  go_ret
  exact ⟨rfl, hb1⟩
set_option maxRecDepth 100000 in
set_option maxHeartbeats 8000000 in
theorem IsName_any (l : List UInt8) (hl : l.length ≤ 1000000) (w : World) :
    Calls Tryz.prog 172 #[.string (bs l)] w fun e w' => e = .returned (.bool (isNm l)) ∧ Below w.heap.size w w' := by
  by_cases h0 : 0 < l.length
  rotate_left
  · have : l = [] := List.eq_nil_of_length_eq_zero (by omega)
    subst this
    have hr : isNm [] = false := rfl
    rw [hr]; clear hr
    go_enter Tryz.func172, Tryz.ntmps172
    go_wp2
    go_ret
    exact ⟨rfl, Below.refl _ _⟩
  rw [isNm_eq l h0]
  have h0i : (1 : Int) ≤ (l.length : Int) := by omega
  have e0 : l.isEmpty = false := by cases l with | nil => simp at h0 | cons c r => rfl
  have hc0 : IntKind.i32.wrap (l[0].toNat : Int) = (l[0].toNat : Int) := by have := l[0].toNat_lt; simp only [IntKind.wrap, IntKind.signed, IntKind.bits]; simp; omega
  by_cases h16 : l.length ≤ 16
  rotate_left
  · have hr : (decide (l.length ≤ 16) && (ltr l[0] && (decide (wlen l = l.length) && !isKw l))) = false := by rw [decide_eq_false h16]; rfl
    rw [hr]; clear hr
    have h16' : ¬ (l.length : Int) ≤ 16 := by omega
    go_enter Tryz.func172, Tryz.ntmps172
    go_wp2
    go_ret
    exact ⟨rfl, Below.refl _ _⟩
  have h16' : (l.length : Int) ≤ 16 := by omega
  rw [decide_eq_true h16, Bool.true_and]
  cases h1 : ltr l[0] with
  | false =>
    have H1 := Lib.hid ((ltrI_byte l[0]).trans h1); clear h1
    go_enter Tryz.func172, Tryz.ntmps172
    go_wp2_with fail
    refine (letter_any _ _).mono ?_
    rw [H1.out]
    rintro er w1 ⟨rfl, rfl⟩
    go_wp2
    go_ret
    exact ⟨rfl, Below.refl _ _⟩
  | true =>
    have H1 := Lib.hid ((ltrI_byte l[0]).trans h1); clear h1
    obtain ⟨m, hm⟩ : ∃ m, wlen l = m := ⟨_, rfl⟩
    rw [hm, Bool.true_and]
    by_cases he : m = l.length
    rotate_left
    · have te : ((m : Int) == (l.length : Int)) = false := by rw [beq_eq_false_iff_ne]; omega
      have hr : (decide (m = l.length) && !isKw l) = false := by rw [decide_eq_false he]; rfl
      rw [hr]; have HM := Lib.hid hm; have HE := Lib.hid he; clear hr hm he
      go_enter Tryz.func172, Tryz.ntmps172
      go_wp2_with fail
      refine (letter_any _ _).mono ?_
      rw [H1.out]
      rintro er w1 ⟨rfl, rfl⟩
      go_wp2_with fail
      refine (word_any l _).mono ?_
      rw [HM.out]
      rintro er w2 ⟨rfl, hb1⟩
      go_wp2
      go_ret
      exact ⟨rfl, hb1⟩
    have te : ((m : Int) == (l.length : Int)) = true := by rw [beq_iff_eq]; omega
    obtain ⟨b, hb⟩ : ∃ b, isKw l = b := ⟨_, rfl⟩
    have hr : (decide (m = l.length) && !isKw l) = !b := by rw [decide_eq_true he, hb]; rfl
    rw [hr]; have HM := Lib.hid hm; have HE := Lib.hid he; have HK := Lib.hid hb; clear hr hm he hb
    go_enter Tryz.func172, Tryz.ntmps172
    go_wp2_with fail
    refine (letter_any _ _).mono ?_
    rw [H1.out]
    rintro er w1 ⟨rfl, rfl⟩
    go_wp2_with fail
    refine (word_any l _).mono ?_
    rw [HM.out]
    rintro er w2 ⟨rfl, hb1⟩
    go_wp2_with fail
    refine (IsKeyword_any l _).mono ?_
    rw [HK.out]
    rintro er w3 ⟨rfl, rfl⟩
    go_wp2
    go_ret
    exact ⟨rfl, hb1⟩
set_option maxRecDepth 100000 in
set_option maxHeartbeats 8000000 in
theorem RIsName_any (l : List UInt8) (hl : l.length ≤ 1000000) (w : World) :
    Calls Tryz.prog 177 #[.string (bs l)] w fun e w' => e = .returned (.bool (isNm l)) ∧ Below w.heap.size w w' := by
  by_cases h0 : 0 < l.length
  rotate_left
  · have : l = [] := List.eq_nil_of_length_eq_zero (by omega)
    subst this
    have hr : isNm [] = false := rfl
    rw [hr]; clear hr
    go_enter Tryz.func177, Tryz.ntmps177
    go_wp2
    go_ret
    exact ⟨rfl, Below.refl _ _⟩
  rw [isNm_eq l h0]
  have h0i : (1 : Int) ≤ (l.length : Int) := by omega
  have e0 : l.isEmpty = false := by cases l with | nil => simp at h0 | cons c r => rfl
  have hc0 : IntKind.i32.wrap (l[0].toNat : Int) = (l[0].toNat : Int) := by have := l[0].toNat_lt; simp only [IntKind.wrap, IntKind.signed, IntKind.bits]; simp; omega
  by_cases h16 : l.length ≤ 16
  rotate_left
  · have hr : (decide (l.length ≤ 16) && (ltr l[0] && (decide (wlen l = l.length) && !isKw l))) = false := by rw [decide_eq_false h16]; rfl
    rw [hr]; clear hr
    have h16' : ¬ (l.length : Int) ≤ 16 := by omega
    go_enter Tryz.func177, Tryz.ntmps177
    go_wp2
    go_ret
    exact ⟨rfl, Below.refl _ _⟩
  have h16' : (l.length : Int) ≤ 16 := by omega
  rw [decide_eq_true h16, Bool.true_and]
  cases h1 : ltr l[0] with
  | false =>
    have H1 := Lib.hid h1; clear h1
    go_enter Tryz.func177, Tryz.ntmps177
    go_wp2_with fail
    refine (Rletter_any l[0] _).mono ?_
    rw [H1.out]
    rintro er w1 ⟨rfl, rfl⟩
    go_wp2
    go_ret
    exact ⟨rfl, Below.refl _ _⟩
  | true =>
    have H1 := Lib.hid h1; clear h1
    obtain ⟨m, hm⟩ : ∃ m, wlen l = m := ⟨_, rfl⟩
    rw [hm, Bool.true_and]
    by_cases he : m = l.length
    rotate_left
    · have te : ((m : Int) == (l.length : Int)) = false := by rw [beq_eq_false_iff_ne]; omega
      have hr : (decide (m = l.length) && !isKw l) = false := by rw [decide_eq_false he]; rfl
      rw [hr]; have HM := Lib.hid hm; have HE := Lib.hid he; clear hr hm he
      go_enter Tryz.func177, Tryz.ntmps177
      go_wp2_with fail
      refine (Rletter_any l[0] _).mono ?_
      rw [H1.out]
      rintro er w1 ⟨rfl, rfl⟩
      go_wp2_with fail
      refine (Rword_any l 0 (Nat.zero_le _) hl _).mono ?_
      rw [List.drop_zero, Nat.zero_add, HM.out]
      rintro er w2 ⟨rfl, rfl⟩
      go_wp2
      go_ret
      exact ⟨rfl, (Below.refl _ _)⟩
    have te : ((m : Int) == (l.length : Int)) = true := by rw [beq_iff_eq]; omega
    obtain ⟨b, hb⟩ : ∃ b, isKw l = b := ⟨_, rfl⟩
    have hr : (decide (m = l.length) && !isKw l) = !b := by rw [decide_eq_true he, hb]; rfl
    rw [hr]; have HM := Lib.hid hm; have HE := Lib.hid he; have HK := Lib.hid hb; clear hr hm he hb
    go_enter Tryz.func177, Tryz.ntmps177
    go_wp2_with fail
    refine (Rletter_any l[0] _).mono ?_
    rw [H1.out]
    rintro er w1 ⟨rfl, rfl⟩
    go_wp2_with fail
    refine (Rword_any l 0 (Nat.zero_le _) hl _).mono ?_
    rw [List.drop_zero, Nat.zero_add, HM.out]
    rintro er w2 ⟨rfl, rfl⟩
    go_wp2_with fail
    refine (RIsKeyword_any l _).mono ?_
    rw [HK.out]
    rintro er w3 ⟨rfl, hb2⟩
    go_wp2
    go_ret
    exact ⟨rfl, hb2⟩
set_option maxRecDepth 100000 in
set_option maxHeartbeats 8000000 in
theorem mark_any (l : List UInt8) (hl : l.length ≤ 1000000) (w : World) :
    Calls Tryz.prog 158 #[.string (bs l)] w fun e w' => e = .returned (.string (bs (mkS l))) ∧ w = w' := by
  by_cases h2 : 2 ≤ l.length
  · have h2' : (2 : Int) ≤ (l.length : Int) := by omega
    have h0 : 0 < l.length := by omega
    have e0 : l.isEmpty = false := by cases l with | nil => simp at h0 | cons c r => rfl
    by_cases g0 : l.take 2 = [61, 61]
    · have t0 : (l.take 2 == [61, 61]) = true := by rw [g0]; simp
      rw [mk_two g0 (by decide)]
      have HG := Lib.hid g0; clear g0
      go_enter Tryz.func158, Tryz.ntmps158
      go_wp2
      go_ret
      exact ⟨by simp [bs, HG.out], rfl⟩
    have t0 : (l.take 2 == [61, 61]) = false := by rw [beq_eq_false_iff_ne]; exact g0
    by_cases g1 : l.take 2 = [33, 61]
    · have t1 : (l.take 2 == [33, 61]) = true := by rw [g1]; simp
      rw [mk_two g1 (by decide)]
      have HG := Lib.hid g1; clear g0 g1
      go_enter Tryz.func158, Tryz.ntmps158
      go_wp2
      go_ret
      exact ⟨by simp [bs, HG.out], rfl⟩
    have t1 : (l.take 2 == [33, 61]) = false := by rw [beq_eq_false_iff_ne]; exact g1
    by_cases g2 : l.take 2 = [60, 61]
    · have t2 : (l.take 2 == [60, 61]) = true := by rw [g2]; simp
      rw [mk_two g2 (by decide)]
      have HG := Lib.hid g2; clear g0 g1 g2
      go_enter Tryz.func158, Tryz.ntmps158
      go_wp2
      go_ret
      exact ⟨by simp [bs, HG.out], rfl⟩
    have t2 : (l.take 2 == [60, 61]) = false := by rw [beq_eq_false_iff_ne]; exact g2
    by_cases g3 : l.take 2 = [62, 61]
    · have t3 : (l.take 2 == [62, 61]) = true := by rw [g3]; simp
      rw [mk_two g3 (by decide)]
      have HG := Lib.hid g3; clear g0 g1 g2 g3
      go_enter Tryz.func158, Tryz.ntmps158
      go_wp2
      go_ret
      exact ⟨by simp [bs, HG.out], rfl⟩
    have t3 : (l.take 2 == [62, 61]) = false := by rw [beq_eq_false_iff_ne]; exact g3
    by_cases g4 : l.take 2 = [43, 43]
    · have t4 : (l.take 2 == [43, 43]) = true := by rw [g4]; simp
      rw [mk_two g4 (by decide)]
      have HG := Lib.hid g4; clear g0 g1 g2 g3 g4
      go_enter Tryz.func158, Tryz.ntmps158
      go_wp2
      go_ret
      exact ⟨by simp [bs, HG.out], rfl⟩
    have t4 : (l.take 2 == [43, 43]) = false := by rw [beq_eq_false_iff_ne]; exact g4
    rw [mk_one h0 (by unfold M2; simp only [List.mem_cons, List.not_mem_nil, or_false]; rintro m (rfl | rfl | rfl | rfl | rfl) <;> assumption)]
    clear g0 g1 g2 g3 g4
    have hI := ib_in M1 l[0]
    obtain ⟨j, hj⟩ : ∃ j, Lib.indexByte M1 l[0] = j := ⟨_, rfl⟩
    rw [hj] at hI
    have HJ := Lib.hid hj; clear hj
    have hu : ((l[0].toNat : Int)).toNat.toUInt8 = l[0] := by simp
    have HU := Lib.hid hu; clear hu
    have ht1 : l.take 1 = [l[0]] := by cases l with | nil => simp at h0 | cons c r => rfl
    have HT1 := Lib.hid ht1; clear ht1
    have h0i : (1 : Int) ≤ (l.length : Int) := by omega
    by_cases hin : l[0] ∈ M1
    · have g : (0 : Int) ≤ j := hI.2 hin
      rw [if_pos hin]
      have HIN := Lib.hid hin; clear hin hI
      go_enter Tryz.func158, Tryz.ntmps158
      go_wp2_with fail
      refine (Tryz.strings_IndexByte (bs [40, 41, 123, 125, 44, 59, 58, 61, 60, 62, 43, 45, 42, 47, 37]) _ _).mono ?_
      rw [toList_bs, HU.out, show Lib.indexByte [40, 41, 123, 125, 44, 59, 58, 61, 60, 62, 43, 45, 42, 47, 37] l[0] = j from HJ.out]
      rintro er w1 ⟨rfl, rfl⟩
      go_wp2
      go_ret
      exact ⟨by simp [bs, HT1.out], rfl⟩
    · have g : ¬ (0 : Int) ≤ j := fun h => hin (hI.1 h)
      rw [if_neg hin]
      have HIN := Lib.hid hin; clear hin hI
      go_enter Tryz.func158, Tryz.ntmps158
      go_wp2_with fail
      refine (Tryz.strings_IndexByte (bs [40, 41, 123, 125, 44, 59, 58, 61, 60, 62, 43, 45, 42, 47, 37]) _ _).mono ?_
      rw [toList_bs, HU.out, show Lib.indexByte [40, 41, 123, 125, 44, 59, 58, 61, 60, 62, 43, 45, 42, 47, 37] l[0] = j from HJ.out]
      rintro er w1 ⟨rfl, rfl⟩
      go_wp2
      go_ret
      exact ⟨rfl, rfl⟩
  have h2' : ¬ (2 : Int) ≤ (l.length : Int) := by omega
  by_cases h0 : 0 < l.length
  rotate_left
  · have : l = [] := List.eq_nil_of_length_eq_zero (by omega)
    subst this
    rw [mk_nil]
    go_enter Tryz.func158, Tryz.ntmps158
    go_wp2
    go_ret
    exact ⟨rfl, rfl⟩
  have e0 : l.isEmpty = false := by cases l with | nil => simp at h0 | cons c r => rfl
  rw [mk_one h0 (by intro m hm e; have := M2_two m hm; rw [← e, List.length_take] at this; omega)]
  have hI := ib_in M1 l[0]
  obtain ⟨j, hj⟩ : ∃ j, Lib.indexByte M1 l[0] = j := ⟨_, rfl⟩
  rw [hj] at hI
  have HJ := Lib.hid hj; clear hj
  have hu : ((l[0].toNat : Int)).toNat.toUInt8 = l[0] := by simp
  have HU := Lib.hid hu; clear hu
  have ht1 : l.take 1 = [l[0]] := by cases l with | nil => simp at h0 | cons c r => rfl
  have HT1 := Lib.hid ht1; clear ht1
  have h0i : (1 : Int) ≤ (l.length : Int) := by omega
  by_cases hin : l[0] ∈ M1
  · have g : (0 : Int) ≤ j := hI.2 hin
    rw [if_pos hin]
    have HIN := Lib.hid hin; clear hin hI
    go_enter Tryz.func158, Tryz.ntmps158
    go_wp2_with fail
    refine (Tryz.strings_IndexByte (bs [40, 41, 123, 125, 44, 59, 58, 61, 60, 62, 43, 45, 42, 47, 37]) _ _).mono ?_
    rw [toList_bs, HU.out, show Lib.indexByte [40, 41, 123, 125, 44, 59, 58, 61, 60, 62, 43, 45, 42, 47, 37] l[0] = j from HJ.out]
    rintro er w1 ⟨rfl, rfl⟩
    go_wp2
    go_ret
    exact ⟨by simp [bs, HT1.out], rfl⟩
  · have g : ¬ (0 : Int) ≤ j := fun h => hin (hI.1 h)
    rw [if_neg hin]
    have HIN := Lib.hid hin; clear hin hI
    go_enter Tryz.func158, Tryz.ntmps158
    go_wp2_with fail
    refine (Tryz.strings_IndexByte (bs [40, 41, 123, 125, 44, 59, 58, 61, 60, 62, 43, 45, 42, 47, 37]) _ _).mono ?_
    rw [toList_bs, HU.out, show Lib.indexByte [40, 41, 123, 125, 44, 59, 58, 61, 60, 62, 43, 45, 42, 47, 37] l[0] = j from HJ.out]
    rintro er w1 ⟨rfl, rfl⟩
    go_wp2
    go_ret
    exact ⟨rfl, rfl⟩
set_option maxRecDepth 100000 in
set_option maxHeartbeats 8000000 in
theorem LQuote_any (s : List UInt8) (hl : s.length ≤ 9223372036854775807) (w : World) :
    Calls Tryz.prog 59 #[.string (bs s)] w fun e w' => e = .returned (.tuple #[.string (bs (quoL s).1), .int .i64 (quoL s).2]) ∧ Below w.heap.size w w' := by
  by_cases h64 : 64 < s.length
  · have h64' : (64 : Int) < (s.length : Int) := by omega
    rw [quoL_long h64]
    go_enter Tryz.func59, Tryz.ntmps59
    go_wp2
    go_ret2
    exact ⟨rfl, Below.refl _ _⟩
  have h64' : ¬ (64 : Int) < (s.length : Int) := by omega
  cases hp : s.all okc with
  | false =>
    rw [quoL_bad h64 hp]
    have HP := Lib.hid hp; clear hp
    go_enter Tryz.func59, Tryz.ntmps59
    go_wp2_with fail
    refine (plain_any s hl _).mono ?_
    rw [HP.out]
    rintro er w1 ⟨rfl, rfl⟩
    go_wp2
    go_ret2
    exact ⟨rfl, Below.refl _ _⟩
  | true =>
    rw [quoL_ok h64 hp]
    have HP := Lib.hid hp; clear hp
    obtain ⟨q, hqq⟩ : ∃ q, quoS s = q := ⟨_, rfl⟩
    rw [hqq]
    have HQQ := Lib.hid hqq; clear hqq
    go_enter Tryz.func59, Tryz.ntmps59
    go_wp2_with fail
    refine (plain_any s hl _).mono ?_
    rw [HP.out]
    rintro er w1 ⟨rfl, rfl⟩
    have hal := (Below.refl w.heap.size w).alloc (Nat.le_refl _) (.cells #[.pointer none, .slice none 0 0] 47)
    have HD := Lib.hid (Bd.new w); have HB := Lib.hid hal; have hzb : w.heap.size ≤ (w.alloc (.cells #[.pointer none, .slice none 0 0] 47)).heap.size := hal.size; clear hal
    go_upto_region 6 with (fail)
    generalize hW : w.alloc (.cells #[.pointer none, .slice none 0 0] 47) = v1 at HB HD hzb ⊢
    clear hW
    go_wp2_with fail
    refine (Bd.write w.heap.size [] 34 _ HD.out (by first | omega | exact Nat.zero_le _ | (rw [List.length_append]; show _ + 1 ≤ _; omega)) hzb).mono ?_
    rintro er w2 ⟨rfl, hD2, hb2⟩
    have HD := Lib.hid hD2; have HB := Lib.hid (HB.out.trans hb2); have hzb := Nat.le_trans hzb hb2.size; clear hD2 hb2
    go_wp2
    go_loopw [15] (fun i wr => ∃ k : Nat, k ≤ s.length ∧ i = .int .i64 k ∧ Bd w.heap.size (34 :: (s.take k).flatMap esc) wr ∧ w.heap.size ≤ wr.heap.size ∧ Below w.heap.size w wr) (fun i _ => s.length - (intOf i).toNat)
    case atStart => exact ⟨0, Nat.zero_le _, rfl, HD.out, hzb, HB.out⟩
    case round =>
      obtain ⟨k, hk, rfl, hD, hzb, hB⟩ := hrel
      clear HD HB
      have HB := Lib.hid hB; clear hB
      by_cases hlt : k < s.length
      · have hlt' : (k : Int) < (s.length : Int) := by omega
        have HET := Lib.hid (esc_take s k hlt)
        have hln : (34 :: (s.take k).flatMap esc).length ≤ 1000 := by have h9 := esc_len (s.take k); rw [List.length_take] at h9; rw [List.length_cons]; omega
        obtain ⟨L0, hL0⟩ : ∃ L0, 34 :: (s.take k).flatMap esc = L0 := ⟨_, rfl⟩
        rw [hL0] at hln hD
        have HL0 := Lib.hid hL0; have HD := Lib.hid hD; clear hL0 hD
        by_cases h34 : s[k] = 34
        · have t34 := is34 h34
          have HE := Lib.hid (esc_yes (Or.inl h34)); clear h34
          go_wp2_with fail
          refine (Bd.write w.heap.size L0 92 _ HD.out (by first | omega | exact Nat.zero_le _ | (rw [List.length_append]; show _ + 1 ≤ _; omega)) hzb).mono ?_
          rintro er w3 ⟨rfl, hD2, hb2⟩
          have HD := Lib.hid hD2; have HB := Lib.hid (HB.out.trans hb2); have hzb := Nat.le_trans hzb hb2.size; clear hD2 hb2
          go_wp2_with fail
          refine (Bd.write w.heap.size (L0 ++ [92]) s[k] _ HD.out (by first | omega | exact Nat.zero_le _ | (rw [List.length_append]; show _ + 1 ≤ _; omega)) hzb).mono ?_
          rintro er w4 ⟨rfl, hD2, hb2⟩
          have HD := Lib.hid hD2; have HB := Lib.hid (HB.out.trans hb2); have hzb := Nat.le_trans hzb hb2.size; clear hD2 hb2
          go_wp2
          go_roundw
          case rel => exact ⟨k + 1, by omega, by go_num, by rw [HET.out, HE.out, ← List.cons_append, HL0.out]; have h9 := HD.out; rw [List.append_assoc] at h9; exact h9, hzb, HB.out⟩
          case measure => simp [intOf]; omega
        · have t34 := not34 h34
          by_cases h92 : s[k] = 92
          · have t92 := is92 h92
            have HE := Lib.hid (esc_yes (Or.inr h92)); clear h34 h92
            go_wp2_with fail
            refine (Bd.write w.heap.size L0 92 _ HD.out (by first | omega | exact Nat.zero_le _ | (rw [List.length_append]; show _ + 1 ≤ _; omega)) hzb).mono ?_
            rintro er w3 ⟨rfl, hD2, hb2⟩
            have HD := Lib.hid hD2; have HB := Lib.hid (HB.out.trans hb2); have hzb := Nat.le_trans hzb hb2.size; clear hD2 hb2
            go_wp2_with fail
            refine (Bd.write w.heap.size (L0 ++ [92]) s[k] _ HD.out (by first | omega | exact Nat.zero_le _ | (rw [List.length_append]; show _ + 1 ≤ _; omega)) hzb).mono ?_
            rintro er w4 ⟨rfl, hD2, hb2⟩
            have HD := Lib.hid hD2; have HB := Lib.hid (HB.out.trans hb2); have hzb := Nat.le_trans hzb hb2.size; clear hD2 hb2
            go_wp2
            go_roundw
            case rel => exact ⟨k + 1, by omega, by go_num, by rw [HET.out, HE.out, ← List.cons_append, HL0.out]; have h9 := HD.out; rw [List.append_assoc] at h9; exact h9, hzb, HB.out⟩
            case measure => simp [intOf]; omega
          · have t92 := not92 h92
            have HE := Lib.hid (esc_no (c := s[k]) (by rintro (h | h) <;> contradiction)); clear h34 h92
            go_wp2_with fail
            refine (Bd.write w.heap.size L0 s[k] _ HD.out (by first | omega | exact Nat.zero_le _ | (rw [List.length_append]; show _ + 1 ≤ _; omega)) hzb).mono ?_
            rintro er w3 ⟨rfl, hD2, hb2⟩
            have HD := Lib.hid hD2; have HB := Lib.hid (HB.out.trans hb2); have hzb := Nat.le_trans hzb hb2.size; clear hD2 hb2
            go_wp2
            go_roundw
            case rel => exact ⟨k + 1, by omega, by go_num, by rw [HET.out, HE.out, ← List.cons_append, HL0.out]; exact HD.out, hzb, HB.out⟩
            case measure => simp [intOf]; omega
      · have hlt' : ¬ (k : Int) < (s.length : Int) := by omega
        have hq : q = (34 :: (s.take k).flatMap esc) ++ [34] := by rw [← HQQ.out]; unfold quoS; rw [ltake_all s hlt]; rfl
        have hln : (34 :: (s.take k).flatMap esc).length ≤ 1000 := by have h9 := esc_len (s.take k); rw [List.length_take] at h9; rw [List.length_cons]; omega
        obtain ⟨L0, hL0⟩ : ∃ L0, 34 :: (s.take k).flatMap esc = L0 := ⟨_, rfl⟩
        rw [hL0] at hln hD
        have hq2 : q = L0 ++ [34] := by rw [hq, hL0]
        have HQ2 := Lib.hid hq2; clear hq hq2
        have HD := Lib.hid hD
        clear hL0 hD
        go_wp2_with fail
        refine (Bd.write w.heap.size L0 34 _ HD.out (by first | omega | exact Nat.zero_le _ | (rw [List.length_append]; show _ + 1 ≤ _; omega)) hzb).mono ?_
        rintro er w3 ⟨rfl, hD2, hb2⟩
        have HD := Lib.hid hD2; have HB := Lib.hid (HB.out.trans hb2); have hzb := Nat.le_trans hzb hb2.size; clear hD2 hb2
        go_wp2_with fail
        refine (Bd.string w.heap.size (L0 ++ [34]) _ HD.out hzb).mono ?_
        rintro er w4 ⟨rfl, hb2⟩
        go_wp2
        go_ret2
        exact ⟨by rw [HQ2.out] <;> rfl, HB.out.trans hb2⟩
set_option maxRecDepth 100000 in
set_option maxHeartbeats 8000000 in
theorem RLQuote_any (s : List UInt8) (hl : s.length ≤ 9223372036854775807) (w : World) :
    Calls Tryz.prog 83 #[.string (bs s)] w fun e w' => e = .returned (.tuple #[.string (bs (quoL s).1), .int .i64 (quoL s).2]) ∧ Below w.heap.size w w' := by
  by_cases h64 : 64 < s.length
  · have h64' : (64 : Int) < (s.length : Int) := by omega
    rw [quoL_long h64]
    go_enter Tryz.func83, Tryz.ntmps83
    go_wp2
    go_ret2
    exact ⟨rfl, Below.refl _ _⟩
  have h64' : ¬ (64 : Int) < (s.length : Int) := by omega
  cases hp : s.all okc with
  | false =>
    rw [quoL_bad h64 hp]
    have HP := Lib.hid hp; clear hp
    go_enter Tryz.func83, Tryz.ntmps83
    go_wp2_with fail
    refine (Printable_any s hl _).mono ?_
    rw [HP.out]
    rintro er w1 ⟨rfl, rfl⟩
    go_wp2
    go_ret2
    exact ⟨rfl, Below.refl _ _⟩
  | true =>
    rw [quoL_ok h64 hp]
    have HP := Lib.hid hp; clear hp
    obtain ⟨q, hqq⟩ : ∃ q, quoS s = q := ⟨_, rfl⟩
    rw [hqq]
    have HQQ := Lib.hid hqq; clear hqq
    go_enter Tryz.func83, Tryz.ntmps83
    go_wp2_with fail
    refine (Printable_any s hl _).mono ?_
    rw [HP.out]
    rintro er w1 ⟨rfl, rfl⟩
    go_wp2
    go_loop [4, 5] (fun s0 i => ∃ k : Nat, k ≤ s.length ∧ i = .int .i64 k ∧ s0 = .string (bs (34 :: (s.take k).flatMap esc))) (fun _ i => s.length - (intOf i).toNat)
    case atStart => exact ⟨0, Nat.zero_le _, rfl, rfl⟩
    case round =>
      obtain ⟨k, hk, rfl, hs⟩ := hrel
      have hln : (34 :: (s.take k).flatMap esc).length ≤ 3000000 := by have h9 := esc_len (s.take k); rw [List.length_take] at h9; rw [List.length_cons]; omega
      obtain ⟨L0, hL0⟩ : ∃ L0, 34 :: (s.take k).flatMap esc = L0 := ⟨_, rfl⟩
      rw [hL0] at hs hln
      subst hs
      have HL0 := Lib.hid hL0; clear hL0
      by_cases hlt : k < s.length
      · have hlt' : (k : Int) < (s.length : Int) := by omega
        have hlt1 : (k : Int) + 1 ≤ (s.length : Int) := by omega
        have hw1 : IntKind.i64.wrap ((k : Int) + 1) = (k : Int) + 1 := by rw [IntKind.wrap_i64]; omega
        have het := esc_take s k hlt
        have htk := one_at s k (k + 1) rfl hlt
        have HTK := Lib.hid htk; have HET := Lib.hid het; clear htk het
        by_cases h34 : s[k] = 34
        · have t34 := is34 h34
          have HE := Lib.hid (esc_yes (Or.inl h34)); clear h34
          go_wp2
          go_round
          case rel => exact ⟨k + 1, by omega, by go_num, str_eq (by rw [HET.out, HE.out, ← List.cons_append, HL0.out]; simp [bs, HTK.out])⟩
          case measure => simp [intOf]; omega
        · have t34 := not34 h34
          by_cases h92 : s[k] = 92
          · have t92 := is92 h92
            have HE := Lib.hid (esc_yes (Or.inr h92)); clear h34 h92
            go_wp2
            go_round
            case rel => exact ⟨k + 1, by omega, by go_num, str_eq (by rw [HET.out, HE.out, ← List.cons_append, HL0.out]; simp [bs, HTK.out])⟩
            case measure => simp [intOf]; omega
          · have t92 := not92 h92
            have HE := Lib.hid (esc_no (c := s[k]) (by rintro (h | h) <;> contradiction)); clear h34 h92
            go_wp2
            go_round
            case rel => exact ⟨k + 1, by omega, by go_num, str_eq (by rw [HET.out, HE.out, ← List.cons_append, HL0.out]; simp [bs, HTK.out])⟩
            case measure => simp [intOf]; omega
      · have hlt' : ¬ (k : Int) < (s.length : Int) := by omega
        have hq2 : q = L0 ++ [34] := by rw [← HQQ.out, ← HL0.out]; unfold quoS; rw [ltake_all s hlt]; rfl
        have HQ2 := Lib.hid hq2; clear hq2
        go_wp2
        go_ret2
        exact ⟨by rw [HQ2.out]; simp [bs]; exact bs_append L0 [34], Below.refl _ _⟩
end Go.Proofs.YtkmmdkklpbafdaaGreatDoor
