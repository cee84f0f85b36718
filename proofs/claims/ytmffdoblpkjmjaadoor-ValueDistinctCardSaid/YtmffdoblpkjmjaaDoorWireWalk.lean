/- What wire's Uint and TakeUint return. No conditions but the numbers' own ranges. -/
import Derived.Test.YtmffdoblpkjmjaaDoorWireP
import Derived.Test.YtmffdoblpkjmjaaDoorBytes
import Derived.ArgAppend
import Derived.Outline
namespace Go.Proofs.YtmffdoblpkjmjaaDoor
open Go.RowKit

/-- new bytes in a row of the call's own -/
def AppPost (L : List UInt8) (w : World) (e : Ending) (w' : World) : Prop := ∃ v', e = .returned v' ∧ w'.ownsRow w.heap.size 5 1 v' L.length (bcs L) ∧ Below w.heap.size w w'
theorem own_addr {B : Nat} {W : World} {g cap : Nat} {L : List UInt8} (h : W.ownsRow B 5 1 (.slice (some ⟨g, 0, none⟩) L.length cap) L.length (bcs L)) : ∀ j u, (bcs L)[j]? = some u → W.cell? ⟨g, 0 + j, none⟩ = some u := by
  intro j u hj
  have h1 := h.cells (g := g) rfl j u hj
  have e : (⟨g, 0, none⟩ : Addr).add j = ⟨g, 0 + j, none⟩ := by unfold Addr.add; split <;> simp_all
  rw [e] at h1; exact h1
set_option maxRecDepth 100000 in
set_option maxHeartbeats 1000000 in
theorem appended_any (B : Nat) (v : Value) (L : List UInt8) (y : UInt8) (z : Int) (hz : z = (y.toNat : Int)) (w : World) (hown : w.ownsRow B 5 1 v L.length (bcs L)) (hL : L.length ≤ 1000000) :
    Calls Tryd.prog 65 #[v, .int .u8 z] w (AppPost (L ++ [y]) w) := by
  subst hz
  rcases own_form hown with ⟨rfl, h0⟩ | ⟨g, cap, rfl, hc, _⟩
  · have : L = [] := List.eq_nil_of_length_eq_zero h0
    subst this
    have hown0 : w.ownsRow w.heap.size 5 1 (.slice none 0 0) ([] : List UInt8).length (bcs []) := World.ownsRow_nil _ _ _ _
    go_enter Tryd.func65, Tryd.ntmps65
    go_wp2_with (at_builtin; refine wpList_append_byte rfl _ _ rfl w.heap.size _ [] y hown0 rfl rfl (by simp) w (Below.refl _ _) (Nat.le_refl _) _ rfl ?_; intro v2 w2 hown2 hbel2 _)
    go_ret
    exact ⟨v2, rfl, by simpa using hown2, hbel2⟩
  · have hcell := own_addr hown
    have hlt := (hown.lt g rfl).2
    obtain ⟨i0, hi, hz0, hz1, hz2⟩ := info_parts Tryd.infoByte
    have hc1 : ∀ j u, (bcs L)[j]? = some u → (w.alloc (.cells #[.int .u8 (y.toNat : Int)] 5)).cell? ⟨g, 0 + j, none⟩ = some u := by
      intro j u hj
      rw [← hcell j u hj]
      exact ((Below.refl w.heap.size w).alloc (Nat.le_refl _) _).cell (p := ⟨g, 0 + j, none⟩) hlt
    have HC := Lib.hid hc1; clear hc1 hcell
    go_enter Tryd.func65, Tryd.ntmps65
    go_wp2_with (at_builtin; refine wpList_append_arg _ rfl _ _ 46 rfl 5 i0 (.int .u8 0) 1 1 Tryd.underlying46 hi hz0 hz1 hz2 rfl (by decide) g 0 L.length L.length (bcs L) rfl (by simp [bcs]) HC.out ⟨w.heap.size, 0, none⟩ 1 1 [.int .u8 (y.toNat : Int)] rfl rfl (cell_one_new _ _ _) (by intro u hu; simp at hu; subst hu; rfl) (fun h => absurd h (by omega)) (by unfold maxLen; omega) (by omega) (fun h => absurd h (by omega)) ?_; intro _ v2 w2 hown2 hg2)
    go_ret
    refine ⟨v2, rfl, ?_, ?_⟩
    · have := own_mono hown2 (base' := w.heap.size) (by simp)
      simpa [bcs] using this
    · exact ((Below.refl w.heap.size w).alloc (Nat.le_refl _) _).grown hg2 (by simp) (fun k hk => by cases hk)

theorem uint_lt (u i : Nat) (hi : i ≤ 9) (h : u < 128 ^ (9 - i) * 2) (h128 : ¬ u < 128) : i < 9 := by
  rcases Nat.lt_or_ge i 9 with h1 | h1
  · exact h1
  · obtain rfl : i = 9 := by omega
    simp at h; omega
theorem uint_div (u i : Nat) (hi : i < 9) (h : u < 128 ^ (9 - i) * 2) : u / 128 < 128 ^ (9 - (i + 1)) * 2 := by
  refine Nat.div_lt_of_lt_mul ?_
  rw [show 9 - i = (9 - (i + 1)) + 1 by omega, Nat.pow_succ] at h
  have : 128 * (128 ^ (9 - (i + 1)) * 2) = 128 ^ (9 - (i + 1)) * 128 * 2 := by rw [Nat.mul_comm (128 ^ (9 - (i + 1))) 128, Nat.mul_assoc]
  omega
theorem uint_step (u i : Nat) (hi : i < 9) (h128 : ¬ u < 128) (L R : List UInt8) (h : L ++ uintF (9 - i) u = R) : (L ++ [UInt8.ofNat (u % 128 + 128)]) ++ uintF (9 - (i + 1)) (u / 128) = R := by
  rw [← h, show 9 - i = (9 - (i + 1)) + 1 by omega]
  conv => rhs; unfold uintF
  rw [if_neg h128, List.append_assoc]; rfl
theorem uint_last (u i : Nat) (h128 : u < 128) (L R : List UInt8) (h : L ++ uintF (9 - i) u = R) : L ++ [UInt8.ofNat u] = R := by
  rw [← h]
  cases 9 - i with
  | zero => rfl
  | succ k => unfold uintF; rw [if_pos h128]
theorem uint_bound (i : Nat) : 128 ^ (9 - i) * 2 ≤ 18446744073709551616 := by
  have h := Nat.pow_le_pow_right (n := 128) (by decide) (show 9 - i ≤ 9 by omega)
  have e : (128 : Nat) ^ 9 * 2 = 18446744073709551616 := by decide
  omega
theorem byte_small (u : Nat) (h : u < 128) : (u : Int) = ((UInt8.ofNat u).toNat : Int) := by rw [UInt8.toNat_ofNat']; omega
theorem byte_or_all : ∀ a : Fin 256, bits .or .u8 (a.val : Int) 128 = ((a.val % 128 + 128 : Nat) : Int) := by decide +kernel
theorem byte_or (u : Nat) : bits .or .u8 ((u : Int) % 256) 128 = ((UInt8.ofNat (u % 128 + 128)).toNat : Int) := by
  have h := byte_or_all ⟨u % 256, by omega⟩
  simp only at h
  rw [show ((u : Int) % 256) = ((u % 256 : Nat) : Int) by omega, h, UInt8.toNat_ofNat']
  omega
set_option maxRecDepth 100000 in
set_option maxHeartbeats 1000000 in
theorem Uint_any (u : Nat) (hu : u < 18446744073709551616) (w : World) :
    Calls Tryd.prog 44 #[.int .u64 (u : Int)] w fun e w' => e = .returned (.string (bs (uintS u))) ∧ Below w.heap.size w w' := by
  have hu0 : u < 128 ^ 9 * 2 := by have e : (128 : Nat) ^ 9 * 2 = 18446744073709551616 := by decide
                                   omega
  have HU := Lib.hid hu0; clear hu0 hu
  obtain ⟨R, hR⟩ : ∃ R, uintS u = R := ⟨_, rfl⟩
  rw [hR]
  have HR := Lib.hid hR; clear hR
  go_enter Tryd.func44, Tryd.ntmps44
  go_wp2
  go_loopw [0, 3] (fun x v wr => ∃ (i u' : Nat) (L : List UInt8), i ≤ 9 ∧ L.length = i ∧ x = .int .u64 (u' : Int) ∧ u' < 128 ^ (9 - i) * 2 ∧ L ++ uintF (9 - i) u' = R ∧ wr.ownsRow w.heap.size 5 1 v L.length (bcs L) ∧ Below w.heap.size w wr) (fun x _ _ => (intOf x).toNat)
  case atStart => exact ⟨0, u, [], by omega, rfl, rfl, HU.out, HR.out, World.ownsRow_nil _ _ _ _, Below.refl _ _⟩
  case round =>
    obtain ⟨i, u', L, hi, hL, rfl, hu', hRL, hown, hbr⟩ := hrel
    have hb := uint_bound i
    have hu0 : (0 : Int) ≤ (u' : Int) := by omega
    have hu1 : (u' : Int) < 18446744073709551616 := by omega
    have HUL := Lib.hid hu'; have HRL := Lib.hid hRL; have HOW := Lib.hid hown; have HBR := Lib.hid hbr; have HL := Lib.hid hL
    clear hu' hRL hown hbr hb hL
    by_cases h128 : u' < 128
    · have h1 : ¬ (128 : Int) ≤ (u' : Int) := by omega
      have hm : u' % 256 = u' := by omega
      go_wp2_with fail
      refine (appended_any w.heap.size _ L (UInt8.ofNat u') _ (byte_small u' h128) wr HOW.out (by rw [HL.out]; omega)).mono ?_
      rintro e w2 ⟨v2, rfl, hown2, hb2⟩
      have hconv := own_conv hown2
      rw [uint_last u' i h128 L R HRL.out] at hconv
      clear hown2
      go_wp2
      go_ret
      exact ⟨rfl, btrans HBR.out HBR.out.size hb2⟩
    · have h1 : (128 : Int) ≤ (u' : Int) := by omega
      go_wp2_with fail
      refine (appended_any w.heap.size _ L (UInt8.ofNat (u' % 128 + 128)) _ (byte_or u') wr HOW.out (by rw [HL.out]; omega)).mono ?_
      rintro e w2 ⟨v2, rfl, hown2, hb2⟩
      have hi9 := uint_lt u' i hi HUL.out h128
      have HO2 := Lib.hid (own_mono hown2 HBR.out.size); have HB2 := Lib.hid hb2; clear hown2 hb2
      go_wp2
      go_roundw
      case rel => exact ⟨i + 1, u' / 128, _, by omega, by simp [HL.out], by go_num, uint_div u' i hi9 HUL.out, uint_step u' i hi9 h128 L R HRL.out, HO2.out, btrans HBR.out HBR.out.size HB2.out⟩
      case measure => simp [intOf]; omega

set_option maxRecDepth 100000 in
theorem outside_any (l : List UInt8) (n : Int) (w : World) (_hl : l.length ≤ 1000000000000000) :
    Calls Tryd.prog 67 #[.string (bs l), .int .i64 n] w fun e w' => e = .returned (.bool (!(decide (0 ≤ n) && decide (n ≤ (l.length : Int))))) ∧ w = w' := by
  by_cases h0 : n < 0
  · have e : (decide (0 ≤ n) && decide (n ≤ (l.length : Int))) = false := by rw [decide_eq_false (by omega)]; rfl
    rw [e]; clear e
    go_enter Tryd.func67, Tryd.ntmps67
    go_wp2
    go_ret
    exact ⟨rfl, rfl⟩
  · have e : (decide (0 ≤ n) && decide (n ≤ (l.length : Int))) = decide (n ≤ (l.length : Int)) := by rw [decide_eq_true (by omega : (0 : Int) ≤ n)]; rfl
    rw [e]; clear e
    by_cases h1 : n ≤ (l.length : Int)
    · have e : decide (n ≤ (l.length : Int)) = true := decide_eq_true h1
      rw [e]; clear e
      have h2 : ¬ (l.length : Int) < n := by omega
      go_enter Tryd.func67, Tryd.ntmps67
      go_wp2
      go_ret
      exact ⟨rfl, rfl⟩
    · have e : decide (n ≤ (l.length : Int)) = false := decide_eq_false h1
      rw [e]; clear e
      have h2 : (l.length : Int) < n := by omega
      go_enter Tryd.func67, Tryd.ntmps67
      go_wp2
      go_ret
      exact ⟨rfl, rfl⟩
/-! ### one round of TakeUint -/
theorem tkF_end (l : List UInt8) (m k u : Nat) (hk : k < 10) (h : ¬ m + k < l.length) : tkF (10 - k) (l.drop (m + k)) k u = (0, 0, 6) := by
  rw [List.drop_of_length_le (by omega), show 10 - k = (9 - k) + 1 by omega]; rfl
theorem tkF_step (l : List UInt8) (m k u : Nat) (hk : k < 10) (h : m + k < l.length) : tkF (10 - k) (l.drop (m + k)) k u =
    if (k = 9 ∧ 1 < l[m + k].toNat) ∨ (l[m + k].toNat = 0 ∧ 0 < k) then (0, 0, 5)
    else if l[m + k].toNat < 128 then (u + l[m + k].toNat % 128 * 128 ^ k, k + 1, 0) else tkF (10 - (k + 1)) (l.drop (m + (k + 1))) (k + 1) (u + l[m + k].toNat % 128 * 128 ^ k) := by
  rw [List.drop_eq_getElem_cons h, show 10 - k = (9 - k) + 1 by omega, show 10 - (k + 1) = 9 - k by omega]; rfl
theorem byte_and_all : ∀ a : Fin 256, bits .and .u8 (a.val : Int) 127 = ((a.val % 128 : Nat) : Int) := by decide +kernel
theorem byte_and (c : UInt8) : bits .and .u8 (c.toNat : Int) 127 = ((c.toNat % 128 : Nat) : Int) := byte_and_all ⟨c.toNat, c.toNat_lt⟩
theorem pow7 (k : Nat) : (2 : Nat) ^ (7 * k) = 128 ^ k := by rw [Nat.pow_mul]
set_option maxRecDepth 100000 in
theorem mul_bound (k : Nat) (c : Nat) (hk : k < 10) (h9 : k = 9 → c ≤ 1) : c % 128 * 128 ^ k < 18446744073709551616 := by
  by_cases h : k = 9
  · have := h9 h
    subst h
    have e : (128 : Nat) ^ 9 = 9223372036854775808 := by decide
    rw [e, Nat.mod_eq_of_lt (by omega)]
    have := Nat.mul_le_mul_right 9223372036854775808 this
    omega
  · have h1 : (128 : Nat) ^ k ≤ 128 ^ 8 := Nat.pow_le_pow_right (by decide) (by omega)
    have h2 : c % 128 * 128 ^ k ≤ 127 * 128 ^ 8 := Nat.mul_le_mul (by omega) h1
    have e : (127 : Nat) * 128 ^ 8 = 9151314442816847872 := by decide
    omega
theorem sum_bound (k u : Nat) (c : Nat) (hu : u < 128 ^ k) : u + c % 128 * 128 ^ k < 128 ^ (k + 1) := by
  have : c % 128 * 128 ^ k ≤ 127 * 128 ^ k := Nat.mul_le_mul_right _ (by omega)
  rw [Nat.pow_succ]; omega
theorem wrap_u64 (n : Nat) (h : n < 18446744073709551616) : IntKind.u64.wrap (n : Int) = (n : Int) := by
  rw [IntKind.wrap_u64]; omega
set_option maxRecDepth 100000 in
theorem or_step (u k : Nat) (c : UInt8) (hu : u < 128 ^ k) (hk : k < 10) (h9 : k = 9 → c.toNat ≤ 1) :
    bits .or .u64 (u : Int) (IntKind.u64.wrap (IntKind.u64.wrap (bits .and .u8 (c.toNat : Int) 127) * 2 ^ (7 * k))) = ((u + c.toNat % 128 * 128 ^ k : Nat) : Int) := by
  have hb := mul_bound k c.toNat hk h9
  have hu2 : u < 18446744073709551616 := by
    have h1 : (128 : Nat) ^ k ≤ 128 ^ 9 := Nat.pow_le_pow_right (by decide) (by omega)
    have e : (128 : Nat) ^ 9 = 9223372036854775808 := by decide
    omega
  rw [byte_and, wrap_u64 _ (by omega)]
  have e1 : (((c.toNat % 128 : Nat) : Int) * 2 ^ (7 * k)) = ((c.toNat % 128 * 128 ^ k : Nat) : Int) := by
    rw [← pow7]; push_cast; rfl
  rw [e1, wrap_u64 _ hb]
  have h1 : (BitVec.ofInt 64 (u : Int)).toNat = u := by
    rw [BitVec.ofInt_natCast, BitVec.toNat_ofNat]; exact Nat.mod_eq_of_lt (by omega)
  have h2 : (BitVec.ofInt 64 ((c.toNat % 128 * 128 ^ k : Nat) : Int)).toNat = c.toNat % 128 * 128 ^ k := by
    rw [BitVec.ofInt_natCast, BitVec.toNat_ofNat]; exact Nat.mod_eq_of_lt (by omega)
  show IntKind.u64.wrap ((BitVec.ofInt 64 (u : Int) ||| BitVec.ofInt 64 ((c.toNat % 128 * 128 ^ k : Nat) : Int)).toNat : Int) = _
  have e := Nat.two_pow_add_eq_or_of_lt (i := 7 * k) (b := u) (by rw [pow7]; exact hu) (c.toNat % 128)
  rw [pow7, Nat.mul_comm (128 ^ k)] at e
  rw [BitVec.toNat_or, h1, h2, Nat.or_comm, ← e, wrap_u64 _ ?_, Nat.add_comm]
  by_cases h : k = 9
  · have h1 := h9 h
    have h2 : c.toNat % 128 * 128 ^ k ≤ 1 * 128 ^ k := Nat.mul_le_mul_right _ (by omega)
    rw [Nat.one_mul] at h2
    have h3 := Nat.add_lt_add_of_lt_of_le hu h2
    have e2 : (128 : Nat) ^ 9 + 128 ^ 9 = 18446744073709551616 := by decide
    rw [h] at h3 ⊢
    rw [e2] at h3; rw [Nat.add_comm]; exact h3
  · have h3 := sum_bound k u c.toNat hu
    have h4 : (128 : Nat) ^ (k + 1) ≤ 128 ^ 9 := Nat.pow_le_pow_right (by decide) (by omega)
    have h5 : (128 : Nat) ^ 9 ≤ 18446744073709551616 := by decide
    rw [Nat.add_comm]; exact Nat.lt_of_lt_of_le h3 (Nat.le_trans h4 h5)
def takeV (q : Nat × Int × Int) : Value := .tuple #[.int .u64 (q.1 : Int), .int .i64 q.2.1, .int .i64 q.2.2]
theorem fin_err {l : List UInt8} {m : Nat} {R : Nat × Nat × Int} {e : Int} (HF : takeS l m = if R.2.2 = 0 then (R.1, (m : Int) + (R.2.1 : Int), 0) else (0, 0, R.2.2)) (hR : R = (0, 0, e)) (he : e ≠ 0) :
    Ending.returned (.tuple #[.int .u64 0, .int .i64 0, .int .i64 e]) = .returned (takeV (takeS l m)) := by
  rw [HF, hR, if_neg he]; rfl
theorem fin_ok {l : List UInt8} {m k u : Nat} {x : Int} {R : Nat × Nat × Int} (HF : takeS l m = if R.2.2 = 0 then (R.1, (m : Int) + (R.2.1 : Int), 0) else (0, 0, R.2.2)) (hR : R = (u, k + 1, 0)) (hx : x = (u : Int)) :
    Ending.returned (.tuple #[.int .u64 x, .int .i64 ((m : Int) + (k : Int) + 1), .int .i64 0]) = .returned (takeV (takeS l m)) := by
  rw [HF, hR, if_pos rfl, hx]
  unfold takeV
  simp only
  rw [show (m : Int) + ((k + 1 : Nat) : Int) = (m : Int) + (k : Int) + 1 by omega]
set_option maxRecDepth 100000 in
set_option maxHeartbeats 4000000 in
theorem TakeUint_any (l : List UInt8) (n : Int) (w : World) (hl : l.length ≤ 1000000000000000) :
    Calls Tryd.prog 50 #[.string (bs l), .int .i64 n] w fun e w' => e = .returned (takeV (takeS l n)) ∧ w = w' := by
  cases ho : (decide (0 ≤ n) && decide (n ≤ (l.length : Int))) with
  | false =>
    have hR : takeS l n = (0, 0, 1) := by
      unfold takeS
      rw [if_neg]
      intro h; rw [decide_eq_true h.1, decide_eq_true h.2] at ho; cases ho
    rw [hR]
    have HO := Lib.hid ho; clear ho hR
    go_enter Tryd.func50, Tryd.ntmps50
    go_wp2_with fail
    refine (outside_any l n w hl).mono ?_
    rw [HO.out]
    rintro e w2 ⟨rfl, rfl⟩
    go_wp2
    go_ret3
    exact ⟨rfl, rfl⟩
  | true =>
    have h0 : 0 ≤ n ∧ n ≤ (l.length : Int) := by simpa using ho
    obtain ⟨m, rfl⟩ : ∃ m : Nat, n = m := ⟨n.toNat, by omega⟩
    have hm : m ≤ l.length := by omega
    obtain ⟨R, hR⟩ : ∃ R, tkF 10 (l.drop m) 0 0 = R := ⟨_, rfl⟩
    have HF := Lib.hid (show takeS l m = if R.2.2 = 0 then (R.1, (m : Int) + (R.2.1 : Int), 0) else (0, 0, R.2.2) by
      unfold takeS; rw [if_pos h0, Int.toNat_natCast, hR])
    have HO := Lib.hid ho; have HR := Lib.hid hR; clear ho hR h0
    go_enter Tryd.func50, Tryd.ntmps50
    go_wp2_with fail
    refine (outside_any l m w hl).mono ?_
    rw [HO.out]
    rintro e w2 ⟨rfl, rfl⟩
    go_wp2
    go_loop [7, 13] (fun u i => ∃ k u' : Nat, k ≤ 10 ∧ i = .int .i64 k ∧ u = .int .u64 (u' : Int) ∧ u' < 128 ^ k ∧ tkF (10 - k) (l.drop (m + k)) k u' = R) (fun _ i => 10 - (intOf i).toNat)
    case atStart => exact ⟨0, 0, by omega, rfl, rfl, by omega, HR.out⟩
    case round =>
      obtain ⟨k, u', hk, rfl, rfl, hu, hR⟩ := hrel
      have HU := Lib.hid hu; have HRK := Lib.hid hR; clear hu hR
      by_cases hk10 : k < 10
      · by_cases hend : m + k < l.length
        · have hS := tkF_step l m k u' hk10 hend
          obtain ⟨c, hc⟩ : ∃ c, l[m + k] = c := ⟨_, rfl⟩
          rw [hc] at hS
          have HS := Lib.hid hS; clear hS
          have hcl := c.toNat_lt
          have hge : ¬ (l.length : Int) ≤ (m : Int) + (k : Int) := by omega
          by_cases h9 : k = 9
          · have h9i : (k : Int) = 9 := by omega
            have t9 : ((k : Int) == 9) = true := by rw [h9i]; rfl
            have H9 := Lib.hid h9; clear h9 h9i
            by_cases h1 : 1 < c.toNat
            · have h1i : (1 : Int) < (c.toNat : Int) := by omega
              go_wp2
              go_ret3
              exact ⟨fin_err HF.out (by rw [← HRK.out, HS.out, if_pos (by have := H9.out; omega)]) (by decide), rfl⟩
            · have h1i : ¬ (1 : Int) < (c.toNat : Int) := by omega
              by_cases h0 : (c.toNat : Int) = 0
              · have hk0 : (0 : Int) < (k : Int) := by have := H9.out; omega
                have t0 : ((c.toNat : Int) == 0) = true := by rw [h0]; rfl
                have H0 := Lib.hid h0; clear h0
                go_wp2
                go_ret3
                exact ⟨fin_err HF.out (by rw [← HRK.out, HS.out, if_pos (by have := H0.out; have := H9.out; omega)]) (by decide), rfl⟩
              · have h128 : (c.toNat : Int) < 128 := by omega
                have hk0 : (0 : Int) < (k : Int) := by have := H9.out; omega
                go_wp2
                go_ret3
                exact ⟨fin_ok HF.out (by rw [← HRK.out, HS.out, if_neg (by have := H9.out; omega), if_pos (by omega)]) (or_step _ _ c HU.out (by omega) (by omega)), rfl⟩
          · have h9i : ¬ (k : Int) = 9 := by omega
            by_cases h0 : (c.toNat : Int) = 0
            · have t0 : ((c.toNat : Int) == 0) = true := by rw [h0]; rfl
              have H0 := Lib.hid h0; clear h0
              by_cases hk0 : (0 : Int) < (k : Int)
              · skip
                go_wp2
                go_ret3
                exact ⟨fin_err HF.out (by rw [← HRK.out, HS.out, if_pos (by have := H0.out; omega)]) (by decide), rfl⟩
              · have h128 : (c.toNat : Int) < 128 := by have := H0.out; omega
                go_wp2
                go_ret3
                exact ⟨fin_ok HF.out (by rw [← HRK.out, HS.out, if_neg (by have := H0.out; omega), if_pos (by omega)]) (or_step _ _ c HU.out (by omega) (by omega)), rfl⟩
            · by_cases h128 : (c.toNat : Int) < 128
              · skip
                go_wp2
                go_ret3
                exact ⟨fin_ok HF.out (by rw [← HRK.out, HS.out, if_neg (by omega), if_pos (by omega)]) (or_step _ _ c HU.out (by omega) (by omega)), rfl⟩
              · go_wp2
                go_round
                case rel => exact ⟨k + 1, _, by omega, by go_num, by rw [or_step _ _ c HU.out (by omega) (by omega)], sum_bound k u' c.toNat HU.out, by rw [← HRK.out, HS.out, if_neg (by omega), if_neg (by omega)]⟩
                case measure => simp [intOf]; omega
        · have hge : (l.length : Int) ≤ (m : Int) + (k : Int) := by omega
          have HE := Lib.hid (tkF_end l m k u' hk10 hend)
          go_wp2
          go_ret3
          exact ⟨fin_err HF.out (by rw [← HRK.out, HE.out]) (by decide), rfl⟩
      · obtain rfl : k = 10 := by omega
        go_wp2
        go_ret3
        exact ⟨fin_err HF.out (by rw [← HRK.out]; rfl) (by decide), rfl⟩
end Go.Proofs.YtmffdoblpkjmjaaDoor
