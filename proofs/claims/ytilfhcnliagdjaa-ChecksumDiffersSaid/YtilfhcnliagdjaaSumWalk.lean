/- What the functions of package checksum return: each is its plain function. No conditions but the numbers' own ranges. -/
import Derived.Test.YtilfhcnliagdjaaSumPlain
namespace Go.Proofs.Ytilfhcnliagdjaa
open Go.RowKit

theorem ext_step (x : Nat) (c : UInt8) (hx : x < 18446744073709551616) : IntKind.u64.wrap (bits BinOp.xor IntKind.u64 (x : Int) (IntKind.u64.wrap (c.toNat : Int)) * 1099511628211) = ((extS x c : Nat) : Int) := by
  have hc := c.toNat_lt
  have e1 : IntKind.u64.wrap (c.toNat : Int) = ((c.toNat : Nat) : Int) := by rw [IntKind.wrap_u64]; omega
  rw [e1, bits_xor_u64_nat _ _ (by omega) (by omega), IntKind.wrap_u64]
  unfold extS
  simp

set_option maxHeartbeats 400000 in
theorem Extend_any (h : Int) (l : List UInt8) (w : World) (hs : l.length ≤ maxLen) (h0 : 0 ≤ h) (h1 : h < 18446744073709551616) :
    Calls Try.prog 18 #[.int .u64 h, .string (bs l)] w fun e w' => e = .returned (.int .u64 (ext h.toNat l : Nat)) ∧ w = w' := by
  unfold maxLen at hs
  have hh : h.toNat < 18446744073709551616 := by omega
  go_enter Try.func18, Try.ntmps18
  go_wp2
  go_loop [0, 8] (fun hh i => ∃ (k : Nat), k ≤ l.length ∧ i = .int .i64 k ∧ hh = .int .u64 (ext h.toNat (l.take k) : Nat)) (fun _ i => l.length - (intOf i).toNat)
  case atStart => exact ⟨0, Nat.zero_le _, rfl, by rw [List.take_zero, ext_nil, Int.toNat_of_nonneg h0]⟩
  case round =>
    obtain ⟨k, hk, rfl, rfl⟩ := hrel
    by_cases hlt : k < l.length
    · have H := Lib.hid (ext_step (ext h.toNat (l.take k)) l[k] (ext_lt hh _))
      go_wp2
      go_round
      case rel => exact ⟨k + 1, by omega, by go_num, by rw [H.out, ltake_snoc l k hlt, ext_snoc]⟩
      case measure => simp [intOf]; omega
    · go_wp2
      go_ret
      exact ⟨ret_int (by rw [ltake_all l hlt]), rfl⟩

set_option maxHeartbeats 400000 in
theorem FNV_any (l : List UInt8) (w : World) (hs : l.length ≤ maxLen) :
    Calls Try.prog 19 #[.string (bs l)] w fun e w' => e = .returned (.int .u64 (fnv l : Nat)) ∧ w = w' := by
  have H := Lib.hid hs; clear hs
  go_enter Try.func19, Try.ntmps19
  go_wp2_with fail
  refine (Extend_any _ _ _ H.out (by decide) (by decide)).mono ?_
  rintro e w' ⟨rfl, rfl⟩
  go_wp2
  go_ret
  exact ⟨rfl, rfl⟩

theorem bits_xor_u32_nat (a b : Nat) (ha : a < 4294967296) (hb : b < 4294967296) :
    bits .xor .u32 (a : Int) (b : Int) = ((a ^^^ b : Nat) : Int) := by
  have hx : a ^^^ b < 4294967296 := xor32 ha hb
  have h1 : (BitVec.ofInt 32 (a : Int)).toNat = a := by
    rw [BitVec.ofInt_natCast, BitVec.toNat_ofNat]; exact Nat.mod_eq_of_lt (by omega)
  have h2 : (BitVec.ofInt 32 (b : Int)).toNat = b := by
    rw [BitVec.ofInt_natCast, BitVec.toNat_ofNat]; exact Nat.mod_eq_of_lt (by omega)
  show IntKind.u32.wrap ((BitVec.ofInt 32 (a : Int) ^^^ BitVec.ofInt 32 (b : Int)).toNat : Int) = _
  rw [BitVec.toNat_xor, h1, h2, IntKind.wrap_u32]
  omega
theorem and_one_u32 (c : Nat) (hc : c < 4294967296) : bits .and .u32 (c : Int) 1 = ((c % 2 : Nat) : Int) := by
  have h1 : (BitVec.ofInt 32 (c : Int)).toNat = c := by
    rw [BitVec.ofInt_natCast, BitVec.toNat_ofNat]; exact Nat.mod_eq_of_lt (by omega)
  show IntKind.u32.wrap ((BitVec.ofInt 32 (c : Int) &&& BitVec.ofInt 32 1).toNat : Int) = _
  rw [BitVec.toNat_and, h1, show (BitVec.ofInt 32 1).toNat = 1 from by decide, Nat.and_one_is_mod, IntKind.wrap_u32]
  omega
theorem odd_u32 (c : Nat) (hc : c < 4294967296) (h : c % 2 = 1) : (bits .and .u32 (c : Int) 1 == 1) = true := by rw [and_one_u32 c hc, h]; rfl
theorem even_u32 (c : Nat) (hc : c < 4294967296) (h : ¬ c % 2 = 1) : (bits .and .u32 (c : Int) 1 == 1) = false := by
  rw [and_one_u32 c hc]; rw [beq_eq_false_iff_ne]; omega
theorem xor_ones (c : Nat) (hc : c < 4294967296) : bits .xor .u32 (c : Int) 4294967295 = ((c ^^^ 4294967295 : Nat) : Int) := bits_xor_u32_nat c 4294967295 hc (by decide)
theorem xor_poly (c : Nat) (hc : c < 4294967296) : bits .xor .u32 ((c : Int) / 2) 2197175160 = ((c / 2 ^^^ 2197175160 : Nat) : Int) :=
  bits_xor_u32_nat (c / 2) 2197175160 (by omega) (by decide)
theorem xor_byte (c : Nat) (b : UInt8) (hc : c < 4294967296) : bits .xor .u32 (c : Int) ((b.toNat : Int) % 4294967296) = ((c ^^^ b.toNat : Nat) : Int) := by
  have := b.toNat_lt
  rw [show ((b.toNat : Int) % 4294967296) = ((b.toNat : Nat) : Int) from by omega]
  exact bits_xor_u32_nat c b.toNat hc (by omega)
theorem int_u32 {a b : Int} (h : a = b) : Value.int .u32 a = .int .u32 b := by rw [h]

set_option maxHeartbeats 800000 in
theorem Update_any (c : Int) (l : List UInt8) (w : World) (hs : l.length ≤ maxLen) (h0 : 0 ≤ c) (h1 : c < 4294967296) :
    Calls Try.prog 15 #[.int .u32 c, .string (bs l)] w fun e w' => e = .returned (.int .u32 (upd c.toNat l : Nat)) ∧ w = w' := by
  unfold maxLen at hs
  have hco : bits .xor .u32 c 4294967295 = ((c.toNat ^^^ 4294967295 : Nat) : Int) := by
    have := xor_ones c.toNat (by omega); rwa [Int.toNat_of_nonneg h0] at this
  have HCO := Lib.hid hco; clear hco
  go_enter Try.func15, Try.ntmps15
  go_wp2
  go_loop [5, 12] (fun hh i => ∃ (k c1 : Nat), k ≤ l.length ∧ i = .int .i64 k ∧ hh = .int .u32 c1 ∧ c1 < 4294967296 ∧ c1 = crcF (c.toNat ^^^ 4294967295) (l.take k)) (fun _ i => l.length - (intOf i).toNat)
  case atStart => exact ⟨0, _, Nat.zero_le _, rfl, int_u32 HCO.out, xor32 (by omega) (by decide), by rw [List.take_zero]; rfl⟩
  case round =>
    obtain ⟨k, c1, hk, rfl, rfl, hc1, he⟩ := hrel
    have HE := Lib.hid he; clear he
    by_cases hlt : k < l.length
    · have HB := Lib.hid (xor_byte c1 l[k] hc1)
      go_wp2
      go_loop [5, 21] (fun hh i => ∃ (j c2 : Nat), j ≤ 8 ∧ i = .int .i64 j ∧ hh = .int .u32 c2 ∧ c2 < 4294967296 ∧ c2 = crcN j (c1 ^^^ l[k].toNat)) (fun _ i => 8 - (intOf i).toNat)
      case atStart => exact ⟨0, _, Nat.zero_le _, rfl, int_u32 HB.out, xor32 hc1 (byte32 _), rfl⟩
      case round =>
        obtain ⟨j, c2, hj, rfl, rfl, hc2, he2⟩ := hrel
        have HE2 := Lib.hid he2; clear he2
        by_cases hjt : j < 8
        · by_cases hodd : c2 % 2 = 1
          · have HX := Lib.hid (xor_poly c2 hc2)
            have ht := odd_u32 c2 hc2 hodd
            go_wp2
            go_round
            case rel => exact ⟨j + 1, _, by omega, by go_num, int_u32 HX.out, xor32 (by omega) (by decide), by rw [crcN_succ, ← HE2.out]; unfold crc1; rw [if_pos hodd]⟩
            case measure => simp [intOf]; omega
          · have ht := even_u32 c2 hc2 hodd
            go_wp2
            go_round
            case rel => exact ⟨j + 1, c2 / 2, by omega, by go_num, by go_num, by omega, by rw [crcN_succ, ← HE2.out]; unfold crc1; rw [if_neg hodd]⟩
            case measure => simp [intOf]; omega
        · go_wp2
          go_round
          case rel =>
            refine ⟨k + 1, c2, by omega, by go_num, rfl, hc2, ?_⟩
            rw [ltake_snoc l k hlt, crcF_snoc, ← HE.out, HE2.out]
            unfold crcS
            rw [show j = 8 by omega]
          case measure => simp [intOf]; omega
    · have HO := Lib.hid (xor_ones c1 hc1)
      go_wp2
      go_ret
      exact ⟨ret_int (by rw [HO.out, HE.out, ltake_all l hlt]; rfl), rfl⟩

set_option maxHeartbeats 400000 in
theorem CRC_any (l : List UInt8) (w : World) (hs : l.length ≤ maxLen) :
    Calls Try.prog 13 #[.string (bs l)] w fun e w' => e = .returned (.int .u32 (crc l : Nat)) ∧ w = w' := by
  have H := Lib.hid hs; clear hs
  go_enter Try.func13, Try.ntmps13
  go_wp2_with fail
  refine (Update_any _ _ _ H.out (by decide) (by decide)).mono ?_
  rintro e w' ⟨rfl, rfl⟩
  go_wp2
  go_ret
  exact ⟨rfl, rfl⟩

/-! ### little -/
theorem Try.info5 : (Try.prog.info? 5).map (fun i => (i.zero, i.size, i.bytes)) = some (some (.int .u8 0), 1, 1) := by kernel_rfl

theorem pow8 (k : Nat) : (2 : Int) ^ (8 * k) = ((256 ^ k : Nat) : Int) := by
  rw [Int.pow_mul]; simp
theorem little_byte (u : Int) (k : Nat) (h0 : 0 ≤ u) : u / 2 ^ (8 * k) % 256 = ((UInt8.ofNat (u.toNat / 256 ^ k)).toNat : Int) := by
  rw [pow8]
  conv => lhs; rw [← Int.toNat_of_nonneg h0]
  simp only [UInt8.toNat_ofNat']
  omega

set_option maxHeartbeats 400000 in
theorem little_any (u n : Int) (w : World) (hn0 : 0 ≤ n) (hn : n ≤ 8) (h0 : 0 ≤ u) (_h1 : u < 18446744073709551616) :
    Calls Try.prog 28 #[.int .u64 u, .int .i64 n] w fun e w' => e = .returned (.string (bs (lit u.toNat n.toNat))) ∧ Below w.heap.size w w' := by
  obtain ⟨n, rfl⟩ := Int.eq_ofNat_of_zero_le hn0
  rw [Int.toNat_natCast]
  obtain ⟨i0, hi, hz0, hz1, hz2⟩ := info_parts Try.info5
  have hmk : ∀ w, (Instr.makeSlice 28 (.int .i64 n) (.int .i64 n)).run Try.prog w = .ok (.slice (some ⟨w.heap.size, 0, none⟩) n n) (w.alloc (.cells (madeCells #[.int .u8 0] n) 5)) := by
    intro w
    have h := run_make (P := Try.prog) w 28 5 i0 (.int .u8 0) Try.underlying28 hi hz0 .i64 .i64 n n (by omega) (by omega) (by rw [hz2]; omega) (by omega)
    simpa [hz1, Value.cells] using h
  clear hz0 hz1 hz2 hi
  go_enter Try.func28, Try.ntmps28
  go_wp2
  clear hmk
  go_loopw [10] (fun c wr => ∃ (k : Nat) (C : Array Value), k ≤ n ∧ c = .int .i64 k ∧ C.size = n ∧ wr = w.alloc (.cells C 5) ∧ (∀ j, j < k → C[j]? = some (.int .u8 ((UInt8.ofNat (u.toNat / 256 ^ j)).toNat : Int)))) (fun c _ => n - (intOf c).toNat)
  case atStart => exact ⟨0, _, Nat.zero_le _, rfl, size_madeCells _ _, rfl, fun j hj => absurd hj (Nat.not_lt_zero _)⟩
  case round =>
    obtain ⟨k, C, hk, rfl, hC, rfl, hcells⟩ := hrel
    have HC := Lib.hid hcells; clear hcells
    have HS := Lib.hid hC; clear hC
    by_cases hlt : k < n
    · have hC : k < C.size := by rw [HS.out]; exact hlt
      go_wp2
      go_roundw
      case rel =>
        refine ⟨k + 1, _, by omega, by go_num, by rw [Array.size_setIfInBounds]; exact HS.out, rfl, ?_⟩
        intro j hj
        rw [Array.getElem?_setIfInBounds]
        by_cases hjk : k = j
        · subst hjk
          rw [if_pos rfl, if_pos hC, little_byte u k h0]
        · rw [if_neg hjk]
          exact HC.out j (by omega)
      case measure => simp [intOf]; omega
    · have hkn : k = n := by omega
      have hcv := run_str_new (P := Try.prog) w C 5 28 9 (bs (lit u.toNat n)) n n Try.underlying28 Try.underlying5 Try.underlying9 (by rw [bs_size, lit_length]) (by
        intro j hj
        have hj' : j < n := by rw [bs_size, lit_length] at hj; exact hj
        rw [HC.out j (by omega), bs_get, lit_get])
      have HK := Lib.hid hkn; clear hkn
      go_wp2
      go_ret
      exact ⟨rfl, (Below.refl _ _).alloc (Nat.le_refl _) _⟩
end Go.Proofs.Ytilfhcnliagdjaa
