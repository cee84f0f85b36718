/- What the other functions of the reference (layer 3) return. No conditions but the strings' and numbers' own ranges. -/
import Derived.Test.YtilfhcnliagdjaaSumRef
import Derived.Test.YtilfhcnliagdjaaSumHex
import Derived.Lib.IndexLaws
namespace Go.Proofs.Ytilfhcnliagdjaa
open Go.RowKit

set_option maxHeartbeats 400000 in
theorem RFNV_any (l : List UInt8) (w : World) (hs : l.length ≤ maxLen) :
    Calls Try.prog 20 #[.string (bs l)] w fun e w' => e = .returned (.int .u64 (fnv l : Nat)) ∧ w = w' := by
  have H := Lib.hid hs; clear hs
  go_enter Try.func20, Try.ntmps20
  go_wp2_with fail
  refine (RExtend_any _ _ _ H.out (by decide) (by decide)).mono ?_
  rintro e w' ⟨rfl, rfl⟩
  go_wp2
  go_ret
  exact ⟨rfl, rfl⟩

set_option maxHeartbeats 400000 in
theorem RCRC_any (l : List UInt8) (w : World) (hs : l.length ≤ maxLen) :
    Calls Try.prog 14 #[.string (bs l)] w fun e w' => e = .returned (.int .u32 (crc l : Nat)) ∧ w = w' := by
  have H := Lib.hid hs; clear hs
  go_enter Try.func14, Try.ntmps14
  go_wp2_with fail
  refine (RUpdate_any _ _ _ H.out (by decide) (by decide)).mono ?_
  rintro e w' ⟨rfl, rfl⟩
  go_wp2
  go_ret
  exact ⟨rfl, rfl⟩

set_option maxHeartbeats 400000 in
theorem RSeal_any (l : List UInt8) (w : World) (hs : l.length ≤ 9223372036854775800) :
    Calls Try.prog 17 #[.string (bs l)] w fun e w' => e = .returned (.string (bs (seal' l))) ∧ Below w.heap.size w w' := by
  have hm : l.length ≤ maxLen := by unfold maxLen; omega
  have H := Lib.hid hm; clear hm
  have hl := crc_lt l
  have hz : (lit (crc l) 4).length ≤ 4 := by rw [lit_length]; omega
  go_enter Try.func17, Try.ntmps17
  go_wp2_with fail
  refine (RCRC_any _ _ H.out).mono ?_
  rintro e w' ⟨rfl, rfl⟩
  go_wp2_with fail
  refine (Rlittle_any _ _ _ (by decide) (by decide) (by omega) (by omega)).mono ?_
  rintro e w' ⟨rfl, hb⟩
  go_wp2
  go_ret
  exact ⟨rfl, hb⟩

set_option maxHeartbeats 400000 in
theorem ROpen_any (l : List UInt8) (w : World) (hs : l.length ≤ 9223372036854775800) :
    Calls Try.prog 12 #[.string (bs l)] w fun e w' => e = .returned (.tuple #[.string (bs (open' l).1), .int .i64 (open' l).2]) ∧ Below w.heap.size w w' := by
  by_cases h4 : l.length < 4
  · have e1 : open' l = ([], 6) := by unfold open'; rw [if_pos (by simpa using h4)]
    rw [e1]
    go_enter Try.func12, Try.ntmps12
    go_wp2
    go_ret2
    exact ⟨rfl, Below.refl _ _⟩
  · have HZ := Lib.hid (show (l.take (l.length - 4)).length ≤ 9223372036854775800 by rw [List.length_take]; omega)
    by_cases hq : seal' (l.take (l.length - 4)) = l
    · have e1 : open' l = (l.take (l.length - 4), 0) := by unfold open'; rw [if_neg h4, if_pos hq]
      have hc : (seal' (l.take (l.length - 4)) == l) = true := by simp [hq]
      rw [e1]
      clear hq e1
      go_enter Try.func12, Try.ntmps12
      go_wp2_with fail
      refine (RSeal_any _ _ HZ.out).mono ?_
      rintro e w' ⟨rfl, hb⟩
      go_wp2
      go_ret2
      exact ⟨rfl, hb⟩
    · have e1 : open' l = ([], 14) := by unfold open'; rw [if_neg h4, if_neg hq]
      have hc : (seal' (l.take (l.length - 4)) == l) = false := by simp [hq]
      rw [e1]
      clear hq e1
      go_enter Try.func12, Try.ntmps12
      go_wp2_with fail
      refine (RSeal_any _ _ HZ.out).mono ?_
      rintro e w' ⟨rfl, hb⟩
      go_wp2
      go_ret2
      exact ⟨rfl, hb⟩

set_option maxHeartbeats 400000 in
theorem RMix_any (a b : Int) (w : World) (a0 : 0 ≤ a) (a1 : a < 18446744073709551616) (b0 : 0 ≤ b) (b1 : b < 18446744073709551616) :
    Calls Try.prog 23 #[.int .u64 a, .int .u64 b] w fun e w' => e = .returned (.int .u64 (mix a.toNat b.toNat : Nat)) ∧ Below w.heap.size w w' := by
  have hz : ∀ x, (lit x 8).length ≤ maxLen := fun x => by rw [lit_length]; decide
  have HZ := Lib.hid hz; clear hz
  have hf : ext 14695981039346656037 (lit a.toNat 8) < 18446744073709551616 := ext_lt (by decide) _
  go_enter Try.func23, Try.ntmps23
  go_wp2_with fail
  refine (Rlittle_any _ _ _ (by decide) (by decide) a0 a1).mono ?_
  rintro e w1 ⟨rfl, hb1⟩
  go_wp2_with fail
  refine (RExtend_any _ _ _ (HZ.out _) (by decide) (by decide)).mono ?_
  rintro e w2 ⟨rfl, rfl⟩
  go_wp2_with fail
  refine (Rlittle_any _ _ _ (by decide) (by decide) b0 b1).mono ?_
  rintro e w2 ⟨rfl, hb2⟩
  go_wp2_with fail
  refine (RExtend_any _ _ _ (HZ.out _) (by omega) (by omega)).mono ?_
  rintro e w3 ⟨rfl, rfl⟩
  go_wp2
  go_ret
  exact ⟨rfl, btrans hb1 hb1.size hb2⟩

theorem div_step16 (u k : Nat) : u / 16 ^ k / 16 = u / 16 ^ (k + 1) := by rw [Nat.div_div_eq_div_mul, Nat.pow_succ]
set_option maxHeartbeats 400000 in
theorem RHex_any (h : Int) (w : World) (h0 : 0 ≤ h) (h1 : h < 18446744073709551616) :
    Calls Try.prog 27 #[.int .u64 h] w fun e w' => e = .returned (.string (bs (hex h.toNat))) ∧ Below w.heap.size w w' := by
  go_enter Try.func27, Try.ntmps27
  go_wp2
  go_loopw [0, 3, 4] (fun a s i wr => ∃ (k x : Nat), k ≤ 16 ∧ i = .int .i64 k ∧ a = .int .u64 x ∧ x < 18446744073709551616 ∧ x = h.toNat / 16 ^ k ∧ s = .string (bs (hexl h.toNat k)) ∧ Below w.heap.size w wr) (fun _ _ i _ => 16 - (intOf i).toNat)
  case atStart => exact ⟨0, h.toNat, Nat.zero_le _, rfl, by rw [Int.toNat_of_nonneg h0], by omega, by simp, rfl, Below.refl _ _⟩
  case round =>
    obtain ⟨k, x, hk, rfl, rfl, hx, hxe, rfl, hb⟩ := hrel
    have HX := Lib.hid hxe; clear hxe
    have hz : (hexl h.toNat k).length ≤ 16 := by rw [hexl_length]; omega
    obtain ⟨d, hde⟩ : ∃ d, d = x % 16 := ⟨_, rfl⟩
    have hd : d < 16 := by omega
    have hxd : (x : Int) % 16 = (d : Int) := by omega
    have hdig := dig_at d hd
    have HD := Lib.hid hde; clear hde
    have hcv := fun (W : World) cap => run_str_one (P := Try.prog) W ((dig d).toNat : Int) 5 28 9 cap Try.underlying28 Try.underlying5 Try.underlying9 (by omega) (by have := (dig d).toNat_lt; omega)
    rw [byt_of] at hcv
    by_cases hlt : k < 16
    · go_wp2
      go_roundw
      case rel =>
        refine ⟨k + 1, x / 16, by omega, by go_num, by go_num, by omega, by rw [HX.out, div_step16], ?_, hb.alloc hb.size _⟩
        rw [hexl_cons, ← HX.out, ← HD.out]
      case measure => simp [intOf]; omega
    · go_wp2
      go_ret
      exact ⟨ret_bs (by rw [show k = 16 by omega]; rfl), hb⟩

theorem dval_first (c : UInt8) (k : Nat) (hk : k < 16) (h : dig k = c) (hn : ∀ j, j < k → dig j ≠ c) : dval c = k := by
  unfold dval
  have hge := Lib.indexByte_ge DIG c
  have hg : ∀ j, j < 16 → DIG[j]? = some (dig j) := by
    intro j hj
    have hj' : j < DIG.length := hj
    unfold dig; rw [List.getD_eq_getElem?_getD, List.getElem?_eq_getElem hj']; rfl
  by_cases hm : Lib.indexByte DIG c = -1
  · exact absurd (by rw [hg k hk, h]) (Lib.indexByte_none hm k)
  · obtain ⟨o, ho⟩ := Int.eq_ofNat_of_zero_le (show 0 ≤ Lib.indexByte DIG c by omega)
    have := Lib.indexByte_some ho
    have hlo : o < 16 := by
      rcases Nat.lt_or_ge o 16 with h' | h'
      · exact h'
      · rw [List.getElem?_eq_none (by exact h')] at this; simp at this
    rw [ho]
    rcases Nat.lt_trichotomy o k with h' | h' | h'
    · have h1 := this.1; rw [hg o hlo] at h1; exact absurd (by simpa using h1) (hn o h')
    · rw [h']
    · exact absurd (by rw [hg k hk, h]) (this.2 k h')
theorem dval_never (c : UInt8) (hn : ∀ j, j < 16 → dig j ≠ c) : dval c = -1 := by
  unfold dval
  have hge := Lib.indexByte_ge DIG c
  by_cases hm : Lib.indexByte DIG c = -1
  · exact hm
  · obtain ⟨o, ho⟩ := Int.eq_ofNat_of_zero_le (show 0 ≤ Lib.indexByte DIG c by omega)
    have := (Lib.indexByte_some ho).1
    rcases Nat.lt_or_ge o 16 with h' | h'
    · have e : DIG[o]? = some (dig o) := by
        have hj' : o < DIG.length := h'
        unfold dig; rw [List.getD_eq_getElem?_getD, List.getElem?_eq_getElem hj']; rfl
      rw [e] at this; exact absurd (by simpa using this) (hn o h')
    · rw [List.getElem?_eq_none (by exact h')] at this; simp at this

set_option maxHeartbeats 400000 in
theorem Rdigit_any (c : UInt8) (w : World) :
    Calls Try.prog 31 #[.int .u8 c.toNat] w fun e w' => e = .returned (.int .i64 (dval c)) ∧ w = w' := by
  go_enter Try.func31, Try.ntmps31
  go_wp2
  go_loop [3] (fun i => ∃ k : Nat, k ≤ 16 ∧ i = .int .i64 k ∧ ∀ j, j < k → dig j ≠ c) (fun i => 16 - (intOf i).toNat)
  case atStart => exact ⟨0, Nat.zero_le _, rfl, fun j hj => absurd hj (Nat.not_lt_zero _)⟩
  case round =>
    obtain ⟨k, hk, rfl, hn⟩ := hrel
    have HN := Lib.hid hn; clear hn
    by_cases hlt : k < 16
    · have hdig := dig_at k hlt
      by_cases he : dig k = c
      · have ht : (((dig k).toNat : Int) == (c.toNat : Int)) = true := by rw [he]; simp
        have HE := Lib.hid he; clear he
        go_wp2
        go_ret
        exact ⟨ret_int (dval_first c k hlt HE.out HN.out).symm, rfl⟩
      · have ht : (((dig k).toNat : Int) == (c.toNat : Int)) = false := by
          rw [beq_eq_false_iff_ne]; intro h; apply he; apply UInt8.toNat_inj.1; omega
        have HE := Lib.hid he; clear he
        go_wp2
        go_round
        case rel =>
          refine ⟨k + 1, by omega, by go_num, ?_⟩
          intro j hj
          by_cases e : j = k
          · subst e; exact HE.out
          · exact HN.out j (by omega)
        case measure => simp [intOf]; omega
    · go_wp2
      go_ret
      exact ⟨ret_int (dval_never c (by intro j hj; exact HN.out j (by omega))).symm, rfl⟩

set_option maxHeartbeats 400000 in
theorem RUnhex_any (l : List UInt8) (w : World) :
    Calls Try.prog 26 #[.string (bs l)] w fun e w' => e = .returned (.tuple #[.int .u64 (unhex l).1, .int .i64 (unhex l).2]) ∧ w = w' := by
  by_cases hl : l.length = 16
  · have ht : ((l.length : Int) != 16) = false := by simp [hl]
    have HL := Lib.hid hl
    have hl1 : l.length ≤ 16 := by omega
    have hl2 : 16 ≤ l.length := by omega
    have hu : unhex l = match unh 0 l with | some x => (x, 0) | none => (0, 5) := by unfold unhex; rw [if_pos hl]; rfl
    clear hl
    have HU := Lib.hid hu; clear hu
    go_enter Try.func26, Try.ntmps26
    go_wp2
    go_loop [4, 5] (fun h i => ∃ (k x : Nat), k ≤ 16 ∧ i = .int .i64 k ∧ h = .int .u64 x ∧ x < 16 ^ k ∧ unh 0 l = unh x (l.drop k)) (fun _ i => 16 - (intOf i).toNat)
    case atStart => exact ⟨0, 0, Nat.zero_le _, rfl, rfl, by simp, by simp⟩
    case round =>
      obtain ⟨k, x, hk, rfl, rfl, hx, hun⟩ := hrel
      have HUN := Lib.hid hun; clear hun
      have HX := Lib.hid hx; clear hx
      by_cases hlt : k < 16
      · have hlt2 : k < l.length := by omega
        have hdrop : l.drop k = l[k] :: l.drop (k + 1) := List.drop_eq_getElem_cons hlt2
        have HDR := Lib.hid hdrop; clear hdrop
        have hr := dval_range l[k]
        by_cases hd0 : dval l[k] < 0
        · go_wp2_with (go_at_call 31; refine (Rdigit_any _ _).mono ?_; rintro e w' ⟨rfl, rfl⟩)
          go_ret2
          have hfin : unhex l = (0, 5) := by
            rw [HU.out, HUN.out, HDR.out]; simp only [unh]; rw [if_pos hd0]
          exact ⟨by rw [hfin]; rfl, rfl⟩
        · have hx : x < 16 ^ 15 := Nat.lt_of_lt_of_le HX.out (Nat.pow_le_pow_right (by decide) (by omega))
          have hx' : x < 1152921504606846976 := hx
          clear hx
          go_wp2_with (go_at_call 31; refine (Rdigit_any _ _).mono ?_; rintro e w' ⟨rfl, rfl⟩)
          go_round
          case rel =>
            refine ⟨k + 1, x * 16 + (dval l[k]).toNat, by omega, by go_num, by go_num, ?_, ?_⟩
            · rw [Nat.pow_succ]; have := HX.out; omega
            · rw [HUN.out, HDR.out]; simp only [unh]; rw [if_neg (by omega)]
          case measure => simp [intOf]; omega
      · go_wp2
        go_ret2
        have hfin : unhex l = (x, 0) := by
          rw [HU.out, HUN.out, List.drop_of_length_le (by omega)]; rfl
        exact ⟨by rw [hfin]; rfl, rfl⟩
  · have ht : ((l.length : Int) != 16) = true := by rw [bne_iff_ne]; omega
    have hu : unhex l = (0, 5) := by unfold unhex; rw [if_neg hl]
    rw [hu]
    clear hl hu
    go_enter Try.func26, Try.ntmps26
    go_wp2
    go_ret2
    exact ⟨rfl, rfl⟩
end Go.Proofs.Ytilfhcnliagdjaa
