/- What checksum's Hex and Unhex return, and strings.IndexByte at the digits. No conditions but the numbers' own ranges. -/
import Derived.Test.YtilfhcnliagdjaaSumRef
import Derived.Lib.Bytealg
namespace Go.Proofs.Ytilfhcnliagdjaa
open Go.RowKit
set_option maxHeartbeats 400000 in
theorem IndexByteL_any (l : List UInt8) (c : Int) (w : World) :
    Calls Try.prog 32 #[.string (bs l), .int .u8 c] w fun e w' => e = .returned (.int .i64 (Lib.indexByte l c.toNat.toUInt8)) ∧ w = w' := by
  go_enter Try.func32, Try.ntmps32
  go_wp2
  rw [run_callFunc_extern Try.func33 (by kernel_rfl) (by kernel_rfl) (by kernel_rfl) (e := Extern.BytealgIndexByte.indexByte) (by kernel_rfl), Lib.run_indexByteString, toList_bs]
  simp only [Result.andThen]
  rw [Oper.upon_value]
  go_wp2
  go_ret
  exact ⟨rfl, rfl⟩
set_option maxHeartbeats 400000 in
theorem IndexByte_any (l : List UInt8) (c : Int) (w : World) :
    Calls Try.prog 30 #[.string (bs l), .int .u8 c] w fun e w' => e = .returned (.int .i64 (Lib.indexByte l c.toNat.toUInt8)) ∧ w = w' := by
  go_enter Try.func30, Try.ntmps30
  go_wp2_with (go_at_call 32; refine (IndexByteL_any _ _ _).mono ?_; rintro e w' ⟨rfl, rfl⟩)
  go_ret
  exact ⟨rfl, rfl⟩
def DIG : List UInt8 := [48, 49, 50, 51, 52, 53, 54, 55, 56, 57, 97, 98, 99, 100, 101, 102]
theorem DIG_str : ByteArray.mk #[48, 49, 50, 51, 52, 53, 54, 55, 56, 57, 97, 98, 99, 100, 101, 102] = bs DIG := rfl

theorem and15 (x : Int) (h0 : 0 ≤ x) (h1 : x < 18446744073709551616) : bits .and .u64 x 15 = x % 16 := by
  obtain ⟨c, rfl⟩ := Int.eq_ofNat_of_zero_le h0
  have e : (BitVec.ofInt 64 (c : Int)).toNat = c := by
    rw [BitVec.ofInt_natCast, BitVec.toNat_ofNat]; exact Nat.mod_eq_of_lt (by omega)
  show IntKind.u64.wrap ((BitVec.ofInt 64 (c : Int) &&& BitVec.ofInt 64 15).toNat : Int) = _
  rw [BitVec.toNat_and, e, show (BitVec.ofInt 64 15).toNat = 2 ^ 4 - 1 from by decide, Nat.and_two_pow_sub_one_eq_mod, IntKind.wrap_u64]
  omega

/-! ### digits -/
def dig (d : Nat) : UInt8 := DIG.getD d 0
def hexl : Nat → Nat → List UInt8
  | _, 0 => []
  | u, n + 1 => hexl (u / 16) n ++ [dig (u % 16)]
def hex (u : Nat) : List UInt8 := hexl u 16
theorem hexl_length (u n : Nat) : (hexl u n).length = n := by
  induction n generalizing u with
  | zero => rfl
  | succ n ih => simp [hexl, ih]
theorem hexl_get (u n j : Nat) (h : j < (hexl u n).length) : (hexl u n)[j] = dig (u / 16 ^ (n - 1 - j) % 16) := by
  induction n generalizing u j with
  | zero => simp [hexl] at h
  | succ n ih =>
    have hj : j < n + 1 := by rw [hexl_length] at h; exact h
    simp only [hexl]
    by_cases e : j = n
    · subst e
      rw [List.getElem_append_right (by rw [hexl_length]; omega)]
      simp [hexl_length]
    · rw [List.getElem_append_left (by rw [hexl_length]; omega), ih]
      rw [Nat.div_div_eq_div_mul, ← Nat.pow_succ', show (n - 1 - j).succ = n + 1 - 1 - j by omega]
theorem hexl_cons (u n : Nat) : hexl u (n + 1) = dig (u / 16 ^ n % 16) :: hexl u n := by
  apply List.ext_getElem
  · simp [hexl_length]
  · intro j h1 h2
    rw [hexl_get]
    cases j with
    | zero => simp
    | succ j => rw [List.getElem_cons_succ, hexl_get, show n + 1 - 1 - (j + 1) = n - 1 - j by omega]

theorem shr_dig (h : Int) (k : Nat) (h0 : 0 ≤ h) (h1 : h < 18446744073709551616) :
    bits .and .u64 (h / 2 ^ (60 - 4 * k)) 15 = ((h.toNat / 16 ^ (15 - k) % 16 : Nat) : Int) := by
  obtain ⟨u, rfl⟩ := Int.eq_ofNat_of_zero_le h0
  rw [and15 _ (Int.ediv_nonneg h0 (Int.pow_nonneg (by decide))) (Int.lt_of_le_of_lt (Int.ediv_le_self _ h0) h1)]
  rw [show 60 - 4 * k = 4 * (15 - k) by omega, Int.pow_mul, Int.toNat_natCast, show ((2 : Int) ^ 4) = 16 from rfl]
  simp
theorem dig_at (d : Nat) (h : d < 16) : (ByteArray.mk #[48, 49, 50, 51, 52, 53, 54, 55, 56, 57, 97, 98, 99, 100, 101, 102])[d]'h = dig d := by
  show DIG[d]'h = dig d
  unfold dig
  rw [List.getD_eq_getElem?_getD, List.getElem?_eq_getElem (by exact h)]; rfl

set_option maxHeartbeats 400000 in
theorem Hex_any (h : Int) (w : World) (h0 : 0 ≤ h) (h1 : h < 18446744073709551616) :
    Calls Try.prog 25 #[.int .u64 h] w fun e w' => e = .returned (.string (bs (hex h.toNat))) ∧ Below w.heap.size w w' := by
  obtain ⟨i0, hi, hz0, hz1, hz2⟩ := info_parts Try.info5
  have hmk : ∀ w, (Instr.makeSlice 28 (.int .i64 16) (.int .i64 16)).run Try.prog w = .ok (.slice (some ⟨w.heap.size, 0, none⟩) 16 16) (w.alloc (.cells (madeCells #[.int .u8 0] 16) 5)) := by
    intro w
    have h := run_make (P := Try.prog) w 28 5 i0 (.int .u8 0) Try.underlying28 hi hz0 .i64 .i64 16 16 (by omega) (by omega) (by rw [hz2]; omega) (by omega)
    simpa [hz1, Value.cells] using h
  clear hz0 hz1 hz2 hi
  go_enter Try.func25, Try.ntmps25
  go_wp2
  clear hmk
  go_loopw [6] (fun c wr => ∃ (k : Nat) (C : Array Value), k ≤ 16 ∧ c = .int .i64 k ∧ C.size = 16 ∧ wr = w.alloc (.cells C 5) ∧ (∀ j, j < k → C[j]? = some (.int .u8 ((dig (h.toNat / 16 ^ (15 - j) % 16)).toNat : Int)))) (fun c _ => 16 - (intOf c).toNat)
  case atStart => exact ⟨0, _, Nat.zero_le _, rfl, size_madeCells _ _, rfl, fun j hj => absurd hj (Nat.not_lt_zero _)⟩
  case round =>
    obtain ⟨k, C, hk, rfl, hC, rfl, hcells⟩ := hrel
    have HC := Lib.hid hcells; clear hcells
    have HS := Lib.hid hC; clear hC
    by_cases hlt : k < 16
    · have hC : k < C.size := by rw [HS.out]; exact hlt
      have ha := shr_dig h k h0 h1
      have hd : h.toNat / 16 ^ (15 - k) % 16 < 16 := Nat.mod_lt _ (by decide)
      obtain ⟨d, hde⟩ : ∃ d, d = h.toNat / 16 ^ (15 - k) % 16 := ⟨_, rfl⟩
      rw [← hde] at ha hd
      have HD := Lib.hid hde; clear hde
      go_wp2
      go_roundw
      case rel =>
        refine ⟨k + 1, _, by omega, by go_num, by rw [Array.size_setIfInBounds]; exact HS.out, rfl, ?_⟩
        intro j hj
        rw [Array.getElem?_setIfInBounds]
        by_cases hjk : k = j
        · subst hjk
          rw [if_pos rfl, if_pos hC, ← HD.out, ← dig_at d hd]
        · rw [if_neg hjk]
          exact HC.out j (by omega)
      case measure => simp [intOf]; omega
    · have hkn : k = 16 := by omega
      have hcv := run_str_new (P := Try.prog) w C 5 28 9 (bs (hex h.toNat)) 16 16 Try.underlying28 Try.underlying5 Try.underlying9 (by rw [bs_size]; exact hexl_length _ _) (by
        intro j hj
        have hj' : j < 16 := by rw [bs_size] at hj; unfold hex at hj; rw [hexl_length] at hj; exact hj
        rw [HC.out j (by omega), bs_get]
        exact congrArg (fun c : UInt8 => some (Value.int .u8 (c.toNat : Int))) (hexl_get h.toNat 16 j (by rw [hexl_length]; exact hj')).symm)
      have HK := Lib.hid hkn; clear hkn
      go_wp2
      go_ret
      exact ⟨rfl, (Below.refl _ _).alloc (Nat.le_refl _) _⟩

/-- the number of a digit, or -1 -/
def dval (c : UInt8) : Int := Lib.indexByte DIG c
/-- the number of digits, behind a number that was read before -/
def unh (x : Nat) : List UInt8 → Option Nat
  | [] => some x
  | c :: r => if dval c < 0 then none else unh (x * 16 + (dval c).toNat) r
def unhex (l : List UInt8) : Nat × Int := if l.length = 16 then match unh 0 l with | some x => (x, 0) | none => (0, 5) else (0, 5)
theorem dval_all : ∀ n : Fin 256, -1 ≤ dval (UInt8.ofNat n.val) ∧ dval (UInt8.ofNat n.val) < 16 := by decide +kernel
theorem dval_range (c : UInt8) : -1 ≤ dval c ∧ dval c < 16 := by
  have := dval_all ⟨c.toNat, c.toNat_lt⟩
  simpa using this
theorem or_nibble (x : Nat) (d : Int) (hx : x < 16 ^ 15) (d0 : 0 ≤ d) (d1 : d < 16) : bits .or .u64 ((x : Int) * 16) d = ((x * 16 + d.toNat : Nat) : Int) := by
  obtain ⟨d, rfl⟩ := Int.eq_ofNat_of_zero_le d0
  have h1 : (BitVec.ofInt 64 ((16 * x : Nat) : Int)).toNat = 16 * x := by
    rw [BitVec.ofInt_natCast, BitVec.toNat_ofNat]; exact Nat.mod_eq_of_lt (by omega)
  have h2 : (BitVec.ofInt 64 (d : Int)).toNat = d := by
    rw [BitVec.ofInt_natCast, BitVec.toNat_ofNat]; exact Nat.mod_eq_of_lt (by omega)
  rw [show ((x : Int) * 16) = ((16 * x : Nat) : Int) by omega]
  show IntKind.u64.wrap ((BitVec.ofInt 64 ((16 * x : Nat) : Int) ||| BitVec.ofInt 64 (d : Int)).toNat : Int) = _
  have e := Nat.two_pow_add_eq_or_of_lt (i := 4) (b := d) (by omega) x
  rw [BitVec.toNat_or, h1, h2, show 16 * x = 2 ^ 4 * x from rfl, ← e, IntKind.wrap_u64]
  omega

set_option maxHeartbeats 400000 in
theorem Unhex_any (l : List UInt8) (w : World) :
    Calls Try.prog 24 #[.string (bs l)] w fun e w' => e = .returned (.tuple #[.int .u64 (unhex l).1, .int .i64 (unhex l).2]) ∧ w = w' := by
  by_cases hl : l.length = 16
  · have ht : ((l.length : Int) != 16) = false := by simp [hl]
    have HL := Lib.hid hl
    have hl1 : l.length ≤ 16 := by omega
    have hl2 : 16 ≤ l.length := by omega
    have hu : unhex l = match unh 0 l with | some x => (x, 0) | none => (0, 5) := by unfold unhex; rw [if_pos hl]
    clear hl
    have HU := Lib.hid hu; clear hu
    go_enter Try.func24, Try.ntmps24
    go_wp2
    go_loop [4, 10] (fun h i => ∃ (k x : Nat), k ≤ 16 ∧ i = .int .i64 k ∧ h = .int .u64 x ∧ x < 16 ^ k ∧ unh 0 l = unh x (l.drop k)) (fun _ i => 16 - (intOf i).toNat)
    case atStart => exact ⟨0, 0, Nat.zero_le _, rfl, rfl, by simp, by simp⟩
    case round =>
      obtain ⟨k, x, hk, rfl, rfl, hx, hun⟩ := hrel
      have HUN := Lib.hid hun; clear hun
      have HX := Lib.hid hx; clear hx
      by_cases hlt : k < 16
      · have hlt2 : k < l.length := by omega
        have hdrop : l.drop k = l[k] :: l.drop (k + 1) := List.drop_eq_getElem_cons hlt2
        have HDR := Lib.hid hdrop; clear hdrop
        obtain ⟨d, hd⟩ : ∃ d : Int, d = dval l[k] := ⟨_, rfl⟩
        have hr := dval_range l[k]
        rw [← hd] at hr
        have hib : Lib.indexByte DIG ((l[k].toNat : Int)).toNat.toUInt8 = d := by rw [hd]; unfold dval; simp
        have HIB := Lib.hid hib; clear hib
        have HD := Lib.hid hd; clear hd
        by_cases hd0 : d < 0
        · go_wp2_with (go_at_call 30; rw [DIG_str]; refine (IndexByte_any _ _ _).mono ?_; rw [HIB.out]; rintro e w' ⟨rfl, rfl⟩)
          go_ret2
          have hfin : unhex l = (0, 5) := by
            rw [HU.out, HUN.out, HDR.out]; simp only [unh]; rw [if_pos (by rw [← HD.out]; exact hd0)]
          exact ⟨by rw [hfin]; rfl, rfl⟩
        · have hx : x < 16 ^ 15 := Nat.lt_of_lt_of_le HX.out (Nat.pow_le_pow_right (by decide) (by omega))
          have ho := or_nibble x d hx (by omega) hr.2
          have HO := Lib.hid ho; clear ho
          have hx' : x < 1152921504606846976 := hx
          clear hx
          go_wp2_with (go_at_call 30; rw [DIG_str]; refine (IndexByte_any _ _ _).mono ?_; rw [HIB.out]; rintro e w' ⟨rfl, rfl⟩)
          go_round
          case rel =>
            refine ⟨k + 1, x * 16 + d.toNat, by omega, by go_num, by rw [HO.out], ?_, ?_⟩
            · rw [Nat.pow_succ]; have := HX.out; omega
            · rw [HUN.out, HDR.out]; simp only [unh]; rw [← HD.out, if_neg (by omega)]
          case measure => simp [intOf]; omega
      · go_wp2
        go_ret2
        have hfin : unhex l = (x, 0) := by
          rw [HU.out, HUN.out, List.drop_of_length_le (by omega)]; rfl
        exact ⟨by rw [hfin]; rfl, rfl⟩
  · have ht : ((l.length : Int) != 16) = true := by rw [bne_iff_ne]; omega
    have hu : unhex l = (0, 5) := by unfold unhex; rw [if_neg hl]
    rw [hu]
    clear hl hu
    go_enter Try.func24, Try.ntmps24
    go_wp2
    go_ret2
    exact ⟨rfl, rfl⟩
end Go.Proofs.Ytilfhcnliagdjaa
