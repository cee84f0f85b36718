/- What the functions on texts of layer 1 (num) and of its reference return. The library's table and its error are as the program's start lays them (Laid). -/
import Derived.Test.YtkmmdkklpbafdaaGreatDoorNumRef
import Derived.Test.YtkmmdkklpbafdaaGreatDoorShelf
import Derived.Lib.SmallJoins
import Derived.Lib.AppendIntMem
namespace Go.Proofs.YtkmmdkklpbafdaaGreatDoor
open Go.RowKit

/-- the library's variables that Format and Parse read -/
def Laid (W : World) : Prop := Lib.TabIs Tryz.prog W Tryz.slashName0 .u64 Lib.pow10Tab ∧ ∃ tp p, W.var? Tryz.prog "strconv.ErrRange" = some #[.iface tp p]
theorem gTab : Tryz.prog.globalNamed Tryz.slashName0 = some 2 := by kernel_rfl
theorem gRange : Tryz.prog.globalNamed "strconv.ErrRange" = some 5 := by kernel_rfl
set_option maxRecDepth 100000 in
theorem Laid.below {W W' : World} (h : Laid W) (hb : Below W.heap.size W W') : Laid W' := by
  obtain ⟨h1, tp, p, h2⟩ := h
  refine ⟨?_, tp, p, ?_⟩
  · unfold Lib.TabIs at h1 ⊢
    exact Joins.var_stays gTab h1 hb (Nat.le_refl _)
  · exact Joins.var_stays gRange h2 hb (Nat.le_refl _)

set_option maxRecDepth 100000 in
set_option maxHeartbeats 400000 in
theorem Format_any (n : Int) (w : World) (h0 : -9223372036854775808 ≤ n) (h1 : n ≤ 9223372036854775807) (hL : Laid w) :
    Calls Tryz.prog 27 #[.int .i64 n] w fun e w' => e = .returned (.string (bs (Lib.itoa n))) ∧ Below w.heap.size w w' := by
  go_enter Tryz.func27, Tryz.ntmps27
  go_wp2_with (go_at_call 57; refine (Tryz.strconv_FormatInt_10 _ h0 h1 _ hL.1).mono ?_; rintro e w' ⟨rfl, k, os, rfl⟩)
  go_ret
  exact ⟨rfl, Lib.below_grow _ _ (Nat.le_refl _) _ _⟩

/-- the digits of u, but for those that l already holds -/
def fin (u : Nat) (l : List UInt8) : List UInt8 := if u = 0 ∧ l ≠ [] then l else Lib.decDigits u ++ l
def dgt (u : Nat) : UInt8 := UInt8.ofNat (48 + u % 10)
theorem fin_step (u : Nat) (l : List UInt8) (h : ¬ (u = 0 ∧ l ≠ [])) : fin (u / 10) (dgt u :: l) = fin u l := by
  unfold fin dgt
  rw [if_neg h, decDigits_step u]
  by_cases h1 : u < 10
  · rw [if_pos h1, if_pos ⟨by omega, by simp⟩]; rfl
  · rw [if_neg h1, if_neg (by intro h2; omega)]; simp
theorem byt_dig (u : Nat) : byt (48 + (u : Int) % 10) = dgt u := by
  unfold byt dgt
  rw [show (48 + (u : Int) % 10).toNat = 48 + u % 10 by omega]
def fmtMu (u s : Value) : Nat := (intOf u).toNat + (match s with | .string s => (if s.size = 0 then 1 else 0) | _ => 0)
theorem itoa_cases (n : Int) : Lib.itoa n = if n < 0 then 45 :: Lib.decDigits n.natAbs else Lib.decDigits n.natAbs := by
  unfold Lib.itoa
  by_cases h : n < 0
  · rw [if_pos h, if_pos h]
  · rw [if_neg h, if_neg h, show n.toNat = n.natAbs by omega]

set_option maxRecDepth 100000 in
set_option maxHeartbeats 1000000 in
theorem RFormat_any (n : Int) (w : World) (h0 : -9223372036854775808 ≤ n) (h1 : n ≤ 9223372036854775807) :
    Calls Tryz.prog 82 #[.int .i64 n] w fun e w' => e = .returned (.string (bs (Lib.itoa n))) ∧ Below w.heap.size w w' := by
  obtain ⟨N, hN⟩ : ∃ N, n.natAbs = N := ⟨_, rfl⟩
  have hN1 : N ≤ 9223372036854775808 := by omega
  have hfin := itoa_cases n
  rw [hN] at hfin
  rw [hfin]
  have HN := Lib.hid hN; clear hN hfin
  have hs0 : fin N [] = Lib.decDigits N := by unfold fin; rw [if_neg (by simp)]; simp
  have HS0 := Lib.hid hs0; clear hs0
  go_enter Tryz.func82, Tryz.ntmps82
  go_wp2_with (go_at_call 103; refine (Rsize_any _ _ h0 h1).mono ?_; rw [HN.out]; rintro e w' ⟨rfl, rfl⟩)
  go_loopw [3, 4] (fun t3 t4 wr => ∃ (u : Nat) (l : List UInt8), t3 = .int .u64 (u : Int) ∧ t4 = .string (bs l) ∧ u ≤ 9223372036854775808 ∧ fin u l = Lib.decDigits N ∧ Below w.heap.size w wr) (fun t3 t4 _ => fmtMu t3 t4)
  case atStart => exact ⟨N, [], rfl, rfl, hN1, HS0.out, Below.refl _ _⟩
  case round =>
    obtain ⟨u, l, rfl, rfl, hu, hf, hb⟩ := hrel
    have hl : l.length ≤ 20 := by
      have h2 : l.length ≤ (fin u l).length := by
        unfold fin; split
        · exact Nat.le_refl _
        · rw [List.length_append]; omega
      rw [hf, Lib.decDigits_length] at h2
      exact Nat.le_trans h2 (Lib.nDigits_le20 N (by omega))
    have HF := Lib.hid hf; clear hf
    have hcv := fun (W : World) cap => run_str_one (P := Tryz.prog) W (48 + (u : Int) % 10) 5 45 9 cap Tryz.underlying45 Tryz.underlying5 Tryz.underlying9 (by omega) (by omega)
    rw [byt_dig] at hcv
    by_cases hgo : u = 0 ∧ l ≠ []
    · obtain ⟨hu0, hl0⟩ := hgo
      have he : l.isEmpty = false := by simpa using hl0
      have hle : l = Lib.decDigits N := by rw [← HF.out]; unfold fin; rw [if_pos ⟨hu0, hl0⟩]
      have HLE := Lib.hid hle; clear hle hl0 HF hcv
      have hu1 : ¬ (0 : Int) < (u : Int) := by omega
      clear hu0
      by_cases hn : n < 0
      · go_wp2
        go_ret
        exact ⟨ret_bs (by (try rw [if_pos hn]); (try rw [toList_bs]); rw [HLE.out]; rfl), hb⟩
      · go_wp2
        go_ret
        exact ⟨ret_bs (by (try rw [if_neg (Int.not_lt.2 hn)]); rw [HLE.out]), hb⟩
    · have hst := fin_step u l hgo
      rw [HF.out] at hst
      have HST := Lib.hid hst; clear hst
      have hmu : fmtMu (.int .u64 ((u / 10 : Nat) : Int)) (.string (bs (dgt u :: l))) < fmtMu (.int .u64 (u : Int)) (.string (bs l)) := by
        unfold fmtMu
        by_cases h0 : l = []
        · subst h0; simp [intOf, bs_size]; omega
        · have h1 : u ≠ 0 := fun h => hgo ⟨h, h0⟩
          have h2 : l.length ≠ 0 := by simpa using h0
          simp [intOf, bs_size, h2]; omega
      have HMU := Lib.hid hmu; clear hmu
      by_cases hu0 : 0 < u
      · have hpos : (0 : Int) < (u : Int) := by omega
        clear hgo
        go_wp2
        go_roundw
        case rel => exact ⟨u / 10, _, by go_num, rfl, by omega, HST.out, hb.alloc hb.size _⟩
        case measure => exact HMU.out
      · have hpos : ¬ (0 : Int) < (u : Int) := by omega
        have he : l.isEmpty = true := by
          by_cases h0 : l = []
          · rw [h0]; rfl
          · exact absurd ⟨by omega, h0⟩ hgo
        clear hgo
        go_wp2
        go_roundw
        case rel => exact ⟨u / 10, _, by go_num, rfl, by omega, HST.out, hb.alloc hb.size _⟩
        case measure => exact HMU.out

theorem canon_nil : canon [] = false := rfl
theorem canon_mk {l : List UInt8} (h : l.all isDig = true) (h0 : l ≠ []) : canon l = (l.head? != some 48 || l.length == 1) := by
  unfold canon
  have e : l.isEmpty = false := by simpa using h0
  rw [h, e]; rfl
theorem canon_bad {l : List UInt8} (k : Nat) (hk : k < l.length) (h : isDig l[k] = false) : canon l = false := by
  unfold canon
  have : l.all isDig = false := by
    rw [List.all_eq_false]; exact ⟨l[k], List.getElem_mem hk, by rw [h]; simp⟩
  rw [this]; rfl
theorem isDig_lo {c : UInt8} (h : (c.toNat : Int) < 48) : isDig c = false := by
  rw [Bool.eq_false_iff]; intro h2; have := (isDig_iff c).1 h2; omega
theorem isDig_hi {c : UInt8} (h : (57 : Int) < (c.toNat : Int)) : isDig c = false := by
  rw [Bool.eq_false_iff]; intro h2; have := (isDig_iff c).1 h2; omega

set_option maxRecDepth 100000 in
set_option maxHeartbeats 1000000 in
theorem Rdigits_any (l : List UInt8) (w : World) (hl : l.length ≤ 9223372036854775807) :
    Calls Tryz.prog 101 #[.string (bs l)] w fun e w' => e = .returned (.bool (canon l)) ∧ w = w' := by
  go_enter Tryz.func101, Tryz.ntmps101
  go_wp2
  go_loop [3] (fun i => ∃ k : Nat, k ≤ l.length ∧ i = .int .i64 k ∧ (l.take k).all isDig = true) (fun i => l.length - (intOf i).toNat)
  case atStart => exact ⟨0, Nat.zero_le _, rfl, rfl⟩
  case round =>
    obtain ⟨k, hk, rfl, hall⟩ := hrel
    have HA := Lib.hid hall; clear hall
    by_cases hlt : k < l.length
    · have hlt' : (k : Int) < (l.length : Int) := by omega
      by_cases h1 : (l[k].toNat : Int) < 48
      · have HF := Lib.hid (canon_bad k hlt (isDig_lo h1))
        go_wp2
        go_ret
        exact ⟨by rw [HF.out]; rfl, rfl⟩
      · by_cases h2 : (57 : Int) < (l[k].toNat : Int)
        · have HF := Lib.hid (canon_bad k hlt (isDig_hi h2))
          go_wp2
          go_ret
          exact ⟨by rw [HF.out]; rfl, rfl⟩
        · have hA2 : (l.take (k + 1)).all isDig = true := by
            rw [ltake_snoc l k hlt, List.all_append, HA.out]
            have : isDig l[k] = true := (isDig_iff _).2 (by omega)
            simp [this]
          have HA2 := Lib.hid hA2; clear hA2
          go_wp2
          go_round
          case rel => exact ⟨k + 1, by omega, by go_num, HA2.out⟩
          case measure => simp [intOf]; omega
    · have hall := HA.out
      rw [ltake_all l hlt] at hall
      by_cases h0 : l = []
      · subst h0
        go_wp2
        go_ret
        exact ⟨rfl, rfl⟩
      · have hc := canon_mk hall h0
        obtain ⟨c, r, hcr⟩ : ∃ c r, l = c :: r := by
          cases l with
          | nil => exact absurd rfl h0
          | cons c r => exact ⟨c, r, rfl⟩
        have hpos : 0 < l.length := by rw [hcr]; simp
        have hpos' : (0 : Int) < (l.length : Int) := by omega
        have hg : l[0] = c := by subst hcr; rfl
        have hh : l.head? = some c := by rw [hcr]; rfl
        rw [hh] at hc
        by_cases h48 : c = 48
        · have t1 : ((l[0].toNat : Int) != 48) = false := by rw [hg, h48]; rfl
          have hc2 : canon l = (l.length == 1) := by rw [hc, h48]; rfl
          by_cases hl1 : l.length = 1
          · have t2 : ((l.length : Int) == 1) = true := by rw [hl1]; rfl
            have HF := Lib.hid (show canon l = true by rw [hc2, hl1]; rfl)
            clear hc hc2 hl1 hg hh h48 hcr hall h0
            go_wp2
            go_ret
            exact ⟨by rw [HF.out]; rfl, rfl⟩
          · have t2 : ((l.length : Int) == 1) = false := by rw [beq_eq_false_iff_ne]; omega
            have HF := Lib.hid (show canon l = false by rw [hc2, beq_eq_false_iff_ne]; exact hl1)
            clear hc hc2 hl1 hg hh h48 hcr hall h0
            go_wp2
            go_ret
            exact ⟨by rw [HF.out]; rfl, rfl⟩
        · have t1 : ((l[0].toNat : Int) != 48) = true := by
            rw [bne_iff_ne, hg]
            intro e
            apply h48
            rw [← UInt8.toNat_inj]
            have h48' : (48 : UInt8).toNat = 48 := rfl
            omega
          have HF := Lib.hid (show canon l = true by rw [hc]; simp [h48])
          clear hc hg hh h48 hcr hall h0
          go_wp2
          go_ret
          exact ⟨by rw [HF.out]; rfl, rfl⟩

/-! ### Parse -/
theorem minus_iff {l : List UInt8} : minus l = true ↔ l.head? = some 45 := by unfold minus; simp
theorem good_of {l : List UInt8} (h : minus l = true) : good l = (canon l.tail && !(l.tail == [48])) := by unfold good body; rw [h]; simp
theorem good_of' {l : List UInt8} (h : minus l = false) : good l = canon l := by unfold good body; rw [h]; simp
theorem parse_bad {l : List UInt8} (h : good l = false) : parseS l = (0, 5) := by unfold parseS; rw [h]; rfl
theorem parse_fit {l : List UInt8} (h : good l = true) (hf : fits (sval l) = true) : parseS l = (sval l, 0) := by unfold parseS; rw [if_pos h, if_pos hf]
theorem parse_over {l : List UInt8} (h : good l = true) (hf : fits (sval l) = false) : parseS l = (0, 3) := by unfold parseS; rw [if_pos h, hf]; rfl

/-- a beginning's value is at most the whole's -/
theorem val_take_le (l : List UInt8) (k : Nat) : val (l.take k) ≤ val l := by
  have := val_mono (l.take k) (l.drop k)
  rwa [List.take_append_drop] at this
theorem val_take_succ (l : List UInt8) (k : Nat) (h : k < l.length) : val (l.take (k + 1)) = val (l.take k) * 10 + (l[k].toNat - 48) := by
  rw [ltake_snoc l k h, val_snoc]

/-- the reference's loop over digits: what it returns of r, whose sign is neg -/
def tailS (neg : Bool) (r : List UInt8) : Int × Int :=
  if neg = true then (if val r ≤ 9223372036854775808 then (-(val r : Int), 0) else (0, 3)) else (if val r ≤ 9223372036854775807 then ((val r : Int), 0) else (0, 3))
set_option maxRecDepth 100000 in
theorem parse_tail {l : List UInt8} (h : good l = true) : parseS l = tailS (minus l) (body l) := by
  unfold parseS tailS
  rw [if_pos h]
  unfold sval
  cases hm : minus l with
  | true =>
    simp only [if_true]
    by_cases h1 : val (body l) ≤ 9223372036854775808
    · rw [if_pos h1, if_pos (fits_mk (by omega) (by omega))]
    · rw [if_neg h1, if_neg]
      intro h2
      have := (fits_iff _).1 h2
      omega
  | false =>
    simp only [Bool.false_eq_true, if_false]
    by_cases h1 : val (body l) ≤ 9223372036854775807
    · rw [if_pos h1, if_pos (fits_mk (by omega) (by omega))]
    · rw [if_neg h1, if_neg]
      intro h2
      have := (fits_iff _).1 h2
      omega
end Go.Proofs.YtkmmdkklpbafdaaGreatDoor
