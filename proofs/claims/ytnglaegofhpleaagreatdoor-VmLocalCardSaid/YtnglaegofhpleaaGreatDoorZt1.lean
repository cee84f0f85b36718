/- What the claim needs of: Base, NumPlain, NumWalk, Shelf, NumStr, Region, Box, Strs, Append, LexP, VmVa, VmVb, VmVc, BytP, VmP, LexA, LexB, BytA, BytB. No conditions. -/
import Derived.Test.YtnglaegofhpleaaGreatDoorRows
import Derived.WalkKit
import Derived.WalkSpells
import Derived.WalkLawsBesides
import Derived.Lib.SlBytesRow
import Derived.Lib.Hide
import Derived.Lib.ParseIntBTie
import Derived.Lib.ItoaLen
import Derived.Shelf.Small.Strs
import Derived.Shelf.Small.Wraps
import Derived.Shelf.Strconv.Itoa0
import Derived.Shelf.Strconv.Itoa1
import Derived.Shelf.LaysM
import Derived.Shelf.Strconv.Itoa2
import Derived.Shelf.Strconv.Itoa3
import Derived.Shelf.Strconv.Itoa4
import Derived.Shelf.Strings.Fields
import Derived.Shelf.Slices.Turned
import Derived.Lib.SmallJoins
import Derived.Lib.AppendIntMem
import Derived.Deep.RegionHeld3
import Derived.Outline
import Derived.Deep.Cut
import Derived.Deep.CutRange
import Derived.Deep.DeepCutAuto
import Derived.Deep.RegionLaw
import Derived.Lib.Builder
import Derived.Lib.AppendStr
import Derived.Lib.UnsafeStr
import Derived.Laws.Externs
import Derived.Laws.AppendOwnNone
import Derived.Deep.DeepAppendWide
import Derived.Laws.RangeAny
import Derived.Lib.IndexLaws
import Derived.Lib.LaidTab
import Derived.Shelf.Spec.SlicesInsert
import Derived.Shelf.Spec.SlicesInsertGrow
import Derived.Shelf.Spec.SearchS
import Derived.OrdersIn
import Derived.TacticsIn
import Derived.BigQuiet
import Derived.Tactics
import Derived.Tactics2
import Derived.Defers
import Derived.Recover
import Derived.Laws.Pointers
import Derived.Deep.AppendLies
import Derived.Laws.CopyOwn
import Derived.Stop.LaidErr
import Derived.LaidMore
import Derived.Deep.Slices
import Derived.OpenShut
import Derived.ProofKit
import Derived.SizedLaws
import Derived.SliceStrings
import Derived.HandedShaped
import Derived.Shelf.Vars
namespace Go.Proofs.YtnglaegofhpleaaGreatDoor
open Go.RowKit

/-- the string of a list of bytes -/
def bs (l : List UInt8) : ByteArray := ⟨l.toArray⟩
theorem bs_toList' (l : List UInt8) : (bs l).toList = l := by rw [ByteArray.toList_eq]; simp [bs]
theorem bs_size (l : List UInt8) : (bs l).size = l.length := by simp [bs, ByteArray.size]
theorem bs_get (l : List UInt8) (j : Nat) (h : j < (bs l).size) : (bs l)[j] = l[j]'(by rw [bs_size] at h; exact h) := rfl
theorem bs_toList (s : ByteArray) : bs s.data.toList = s := by cases s; simp [bs]
theorem toList_bs (l : List UInt8) : (bs l).data.toList = l := by simp [bs]
theorem bs_inj {a b : List UInt8} (h : bs a = bs b) : a = b := by simpa [bs] using h
theorem toList_inj {a b : ByteArray} (h : a.data.toList = b.data.toList) : a = b := by rw [← bs_toList a, ← bs_toList b, h]
theorem bs_append (l r : List UInt8) : bs l ++ bs r = bs (l ++ r) := by
  apply ByteArray.ext; simp [bs]
theorem toList_append (s t : ByteArray) : (s ++ t).data.toList = s.data.toList ++ t.data.toList := by simp
theorem extract_bs (s : ByteArray) (a b : Nat) : s.extract a b = bs ((s.data.toList.take b).drop a) := by
  apply toList_inj
  rw [Lib.extract_data, toList_bs, List.drop_take]

theorem bs_extract (l : List UInt8) (a b : Nat) : (bs l).extract a b = bs ((l.take b).drop a) := by rw [extract_bs, toList_bs]
attribute [go_sem] bs_toList' bs_size bs_get bs_append bs_extract
theorem ltake_snoc (l : List UInt8) (k : Nat) (h : k < l.length) : l.take (k + 1) = l.take k ++ [l[k]] := List.take_succ_eq_append_getElem h
theorem ltake_all (l : List UInt8) {k : Nat} (h : ¬ k < l.length) : l.take k = l := List.take_of_length_le (by omega)
theorem bcell {W w1 : World} (hb : Below W.heap.size W w1) : (∀ b o, b < W.heap.size → w1.cell? ⟨b, o, none⟩ = W.cell? ⟨b, o, none⟩) ∧ (∀ b o, b < W.heap.size → w1.frozen? ⟨b, o, none⟩ = W.frozen? ⟨b, o, none⟩) :=
  ⟨fun b o h => hb.cell (p := ⟨b, o, none⟩) h, fun b o h => hb.frozen (p := ⟨b, o, none⟩) h⟩
theorem btrans {B : Nat} {W w1 w2 : World} (h : Below B W w1) (hB : B ≤ w1.heap.size) (h2 : Below w1.heap.size w1 w2) : Below B W w2 := h.trans (h2.mono hB)

end Go.Proofs.YtnglaegofhpleaaGreatDoor
namespace Go.Proofs.YtnglaegofhpleaaGreatDoor

/-- a number that fits into 64 bits -/
def fits (x : Int) : Bool := decide (-9223372036854775808 ≤ x) && decide (x ≤ 9223372036854775807)
theorem fits_iff (x : Int) : fits x = true ↔ -9223372036854775808 ≤ x ∧ x ≤ 9223372036854775807 := by unfold fits; simp
theorem fits_no (x : Int) : fits x = false ↔ x < -9223372036854775808 ∨ 9223372036854775807 < x := by unfold fits; simp; omega

def addS (a b : Int) : Int × Int := if fits (a + b) = true then (a + b, 0) else (0, 3)
def subS (a b : Int) : Int × Int := if fits (a - b) = true then (a - b, 0) else (0, 3)
def negS (a : Int) : Int × Int := subS 0 a
def mulS (a b : Int) : Int × Int := if fits (a * b) = true then (a * b, 0) else (0, 3)
def divS (a b : Int) : Int × Int := if b = 0 then (0, 4) else if fits (a.fdiv b) = true then (a.fdiv b, 0) else (0, 3)
def modS (a b : Int) : Int × Int := if b = 0 then (0, 4) else (a.fmod b, 0)

set_option maxRecDepth 100000 in
theorem fdiv_eq (a b : Int) (hb : b ≠ 0) : a.fdiv b = a.tdiv b - (if a.tmod b ≠ 0 ∧ ¬ (a < 0 ↔ b < 0) then 1 else 0) := by
  rw [Int.fdiv_eq_tdiv]
  by_cases hd : b ∣ a
  · have h0 : a.tmod b = 0 := Int.tmod_eq_zero_of_dvd hd
    rw [if_pos hd, if_neg (fun h => h.1 h0)]
  · have h0 : a.tmod b ≠ 0 := fun h => hd (Int.dvd_of_tmod_eq_zero h)
    have ha : a ≠ 0 := fun h => hd (by rw [h]; exact Int.dvd_zero b)
    rw [if_neg hd]
    by_cases h2 : 0 < b
    · have hs : b.sign = 1 := Int.sign_eq_one_of_pos h2
      have hb0 : 0 ≤ b := by omega
      by_cases h1 : 0 ≤ a
      · rw [if_pos h1, if_pos hb0, if_neg (fun h => h.2 (by omega))]
      · rw [if_neg h1, if_pos hb0, hs, if_pos (And.intro h0 (by omega))]
    · have hs : b.sign = -1 := Int.sign_eq_neg_one_of_neg (by omega)
      have hb0 : ¬ 0 ≤ b := by omega
      by_cases h1 : 0 ≤ a
      · rw [if_pos h1, if_neg hb0, if_pos (And.intro h0 (by omega))]
      · rw [if_neg h1, if_neg hb0, hs, if_neg (fun h => h.2 (by omega))]; rfl
set_option maxRecDepth 100000 in
theorem fmod_eq (a b : Int) (hb : b ≠ 0) : a.fmod b = a.tmod b + (if a.tmod b ≠ 0 ∧ ¬ (a < 0 ↔ b < 0) then b else 0) := by
  have h1 := Int.fmod_def a b
  have h2 := Int.tmod_def a b
  rw [fdiv_eq a b hb] at h1
  rw [Int.mul_sub] at h1
  split at h1
  · rename_i hc
    rw [if_pos hc]; omega
  · rename_i hc
    rw [if_neg hc]; omega
theorem tmod_le (a b : Int) (h : a ≤ 0) : a.tmod b ≤ 0 := by
  have := Int.tmod_nonneg b (show 0 ≤ -a by omega)
  rw [Int.neg_tmod] at this; omega
theorem mul_back (a b : Int) (hb : b ≠ 0) : (a * b).tdiv b = a := Int.mul_tdiv_cancel a hb
set_option maxRecDepth 100000 in
/-- a product that was cut to 64 bits and divides back is the product -/
theorem wrap_back (a b p k : Int) (hb : b ≠ 0) (hb1 : -9223372036854775808 ≤ b) (hb2 : b ≤ 9223372036854775807) (hp : p = a * b + k * 18446744073709551616) (h : p.tdiv b = a) : p = a * b := by
  have h1 := Int.mul_tdiv_add_tmod p b
  rw [h] at h1
  have h2 : (p.tmod b).natAbs < b.natAbs := by rw [Int.natAbs_tmod]; exact Nat.mod_lt _ (by omega)
  have h3 : p.tmod b = k * 18446744073709551616 := by rw [Int.mul_comm b a] at h1; omega
  have h4 : k = 0 := by omega
  rw [hp, h4]; omega

/-! ### numerals -/
def isDig (c : UInt8) : Bool := decide (48 ≤ c.toNat) && decide (c.toNat ≤ 57)
theorem isDig_iff (c : UInt8) : isDig c = true ↔ 48 ≤ c.toNat ∧ c.toNat ≤ 57 := by unfold isDig; simp
def val (l : List UInt8) : Nat := l.foldl (fun a c => a * 10 + (c.toNat - 48)) 0
/-! ### a number's notation -/
theorem decDigits_step (u : Nat) : Lib.decDigits u = (if u < 10 then [] else Lib.decDigits (u / 10)) ++ [UInt8.ofNat (48 + u % 10)] := by
  rw [Lib.decDigits]
  by_cases h : u < 10
  · rw [dif_pos h, if_pos h, Nat.mod_eq_of_lt h]; rfl
  · rw [dif_neg h, if_neg h]
theorem dig_toNat (k : Nat) (h : k < 10) : (UInt8.ofNat (48 + k)).toNat = 48 + k := by rw [UInt8.toNat_ofNat']; omega
set_option maxRecDepth 100000 in
theorem decDigits_all (u : Nat) : (Lib.decDigits u).all isDig = true := by
  induction u using Nat.strongRecOn with
  | _ u ih =>
    rw [decDigits_step, List.all_append]
    have hl : isDig (UInt8.ofNat (48 + u % 10)) = true := by rw [isDig_iff, dig_toNat _ (by omega)]; omega
    rw [List.all_cons, hl]
    by_cases h : u < 10
    · rw [if_pos h]; rfl
    · rw [if_neg h, ih (u / 10) (by omega)]; rfl
/-! ### the laws -/
end Go.Proofs.YtnglaegofhpleaaGreatDoor
namespace Go.Proofs.YtnglaegofhpleaaGreatDoor
open Go.RowKit

theorem w64_some (x : Int) : ∃ k : Int, wrap64 x = x + k * 18446744073709551616 ∧ -9223372036854775808 ≤ wrap64 x ∧ wrap64 x ≤ 9223372036854775807 := by
  refine ⟨-((x + 9223372036854775808) / 18446744073709551616), ?_, ?_, ?_⟩ <;> unfold wrap64 <;> omega
theorem fits_mk {x : Int} (h1 : -9223372036854775808 ≤ x) (h2 : x ≤ 9223372036854775807) : fits x = true := (fits_iff x).2 ⟨h1, h2⟩
theorem add_ok {a b : Int} (h : fits (a + b) = true) : addS a b = (a + b, 0) := by unfold addS; rw [if_pos h]
theorem add_no {a b : Int} (h : fits (a + b) = false) : addS a b = (0, 3) := by unfold addS; rw [h]; rfl
theorem sub_ok {a b : Int} (h : fits (a - b) = true) : subS a b = (a - b, 0) := by unfold subS; rw [if_pos h]
theorem sub_no {a b : Int} (h : fits (a - b) = false) : subS a b = (0, 3) := by unfold subS; rw [h]; rfl
theorem mul_ok {a b : Int} (h : fits (a * b) = true) : mulS a b = (a * b, 0) := by unfold mulS; rw [if_pos h]
theorem mul_no {a b : Int} (h : fits (a * b) = false) : mulS a b = (0, 3) := by unfold mulS; rw [h]; rfl

set_option maxRecDepth 100000 in
set_option maxHeartbeats 400000 in
theorem Add_any (a b : Int) (w : World) (ha1 : -9223372036854775808 ≤ a) (ha2 : a ≤ 9223372036854775807) (hb1 : -9223372036854775808 ≤ b) (hb2 : b ≤ 9223372036854775807) :
    Calls Tryz.prog 176 #[.int .i64 a, .int .i64 b] w fun e w' => e = .returned (.tuple #[.int .i64 (addS a b).1, .int .i64 (addS a b).2]) ∧ w = w' := by
  by_cases hf : fits (a + b) = true
  · have hfin := add_ok hf
    rw [hfin]
    obtain ⟨h1, h2⟩ := (fits_iff _).1 hf
    clear hf hfin
    rcases Int.lt_trichotomy b 0 with hb | hb | hb
    all_goals
      (try have hb' : ¬ (0 < b) := by omega)
      (try have hb'' : ¬ (b < 0) := by omega)
      go_enter Tryz.func176, Tryz.ntmps176
      go_wp2
      go_ret2
      exact ⟨rfl, rfl⟩
  · have hf' : fits (a + b) = false := by simpa using hf
    have hfin := add_no hf'
    rw [hfin]
    obtain ⟨k, hk, hk1, hk2⟩ := w64_some (a + b)
    obtain ⟨s, hs⟩ : ∃ s, s = wrap64 (a + b) := ⟨_, rfl⟩
    rw [← hs] at hk hk1 hk2
    have hs' := hs.symm
    have hno := (fits_no _).1 hf'
    have hc : (0 < b ∧ s < a) ∨ (b < 0 ∧ a < s) := by omega
    clear hf hf' hfin hno hk hs
    rcases hc with ⟨hb, hl⟩ | ⟨hb, hl⟩
    all_goals
      (try have hb' : ¬ (0 < b) := by omega)
      go_enter Tryz.func176, Tryz.ntmps176
      go_wp2
      go_ret2
      exact ⟨rfl, rfl⟩
set_option maxRecDepth 100000 in
set_option maxHeartbeats 400000 in
theorem Sub_any (a b : Int) (w : World) (ha1 : -9223372036854775808 ≤ a) (ha2 : a ≤ 9223372036854775807) (hb1 : -9223372036854775808 ≤ b) (hb2 : b ≤ 9223372036854775807) :
    Calls Tryz.prog 177 #[.int .i64 a, .int .i64 b] w fun e w' => e = .returned (.tuple #[.int .i64 (subS a b).1, .int .i64 (subS a b).2]) ∧ w = w' := by
  by_cases hf : fits (a - b) = true
  · have hfin := sub_ok hf
    rw [hfin]
    obtain ⟨h1, h2⟩ := (fits_iff _).1 hf
    clear hf hfin
    rcases Int.lt_trichotomy b 0 with hb | hb | hb
    all_goals
      (try have hb' : ¬ (0 < b) := by omega)
      (try have hb'' : ¬ (b < 0) := by omega)
      go_enter Tryz.func177, Tryz.ntmps177
      go_wp2
      go_ret2
      exact ⟨rfl, rfl⟩
  · have hf' : fits (a - b) = false := by simpa using hf
    have hfin := sub_no hf'
    rw [hfin]
    obtain ⟨k, hk, hk1, hk2⟩ := w64_some (a - b)
    obtain ⟨s, hs⟩ : ∃ s, s = wrap64 (a - b) := ⟨_, rfl⟩
    rw [← hs] at hk hk1 hk2
    have hs' := hs.symm
    have hno := (fits_no _).1 hf'
    have hc : (0 < b ∧ a < s) ∨ (b < 0 ∧ s < a) := by omega
    clear hf hf' hfin hno hk hs
    rcases hc with ⟨hb, hl⟩ | ⟨hb, hl⟩
    all_goals
      (try have hb' : ¬ (0 < b) := by omega)
      go_enter Tryz.func177, Tryz.ntmps177
      go_wp2
      go_ret2
      exact ⟨rfl, rfl⟩
set_option maxRecDepth 100000 in
set_option maxHeartbeats 400000 in
theorem Neg_any (a : Int) (w : World) (ha1 : -9223372036854775808 ≤ a) (ha2 : a ≤ 9223372036854775807) :
    Calls Tryz.prog 157 #[.int .i64 a] w fun e w' => e = .returned (.tuple #[.int .i64 (negS a).1, .int .i64 (negS a).2]) ∧ w = w' := by
  by_cases hm : a = -9223372036854775808
  · subst hm
    have hfin : negS (-9223372036854775808) = (0, 3) := by unfold negS subS; rw [(fits_no _).2 (by omega)]; rfl
    rw [hfin]
    clear hfin
    go_enter Tryz.func157, Tryz.ntmps157
    go_wp2
    go_ret2
    exact ⟨rfl, rfl⟩
  · have hfin : negS a = (-a, 0) := by unfold negS; rw [sub_ok (fits_mk (by omega) (by omega)), Int.zero_sub]
    rw [hfin]
    have hne : (a == -9223372036854775808) = false := by rw [beq_eq_false_iff_ne]; exact hm
    have hlo : -9223372036854775807 ≤ a := by omega
    clear hfin hm
    go_enter Tryz.func157, Tryz.ntmps157
    go_wp2
    go_ret2
    exact ⟨rfl, rfl⟩
theorem tdiv_half (a b : Int) (hb0 : b ≠ 0) (hb1 : b ≠ -1) (hb2 : b ≠ 1) : 2 * (a.tdiv b).natAbs ≤ a.natAbs := by
  rw [Int.natAbs_tdiv]
  have h2 : 2 ≤ b.natAbs := by omega
  have h3 : a.natAbs / b.natAbs ≤ a.natAbs / 2 := Nat.div_le_div_left h2 (by decide)
  show 2 * (a.natAbs / b.natAbs) ≤ a.natAbs
  omega
theorem tdiv_bd (a b : Int) (h1 : -9223372036854775808 ≤ a) (h2 : a ≤ 9223372036854775807) (hb0 : b ≠ 0) (hb1 : b ≠ -1) : -9223372036854775808 ≤ a.tdiv b ∧ a.tdiv b ≤ 9223372036854775807 := by
  by_cases hb2 : b = 1
  · subst hb2; rw [Int.tdiv_one]; exact ⟨h1, h2⟩
  · have := tdiv_half a b hb0 hb1 hb2
    omega
theorem tdiv_bd2 (a b : Int) (h1 : -9223372036854775808 ≤ a) (h2 : a ≤ 9223372036854775807) (hb0 : b ≠ 0) (hb1 : b ≠ -1) (hr : a.tmod b ≠ 0) : -9223372036854775808 ≤ a.tdiv b - 1 := by
  have hb2 : b ≠ 1 := by intro h; subst h; exact hr (Int.tmod_one a)
  have := tdiv_half a b hb0 hb1 hb2
  omega
theorem div_neg1 (a : Int) : divS a (-1) = negS a := by
  unfold divS negS subS
  rw [if_neg (by decide), Int.zero_sub, show a.fdiv (-1) = -a from by rw [fdiv_eq a (-1) (by decide)]; simp]
set_option maxRecDepth 100000 in
theorem div_keep {a b : Int} (h1 : -9223372036854775808 ≤ a) (h2 : a ≤ 9223372036854775807) (hb0 : b ≠ 0) (hb1 : b ≠ -1) (hc : a.tmod b = 0 ∨ (a < 0 ↔ b < 0)) : divS a b = (a.tdiv b, 0) := by
  have h := tdiv_bd a b h1 h2 hb0 hb1
  have e : a.fdiv b = a.tdiv b := by
    rw [fdiv_eq a b hb0, if_neg, Int.sub_zero]
    rintro ⟨h3, h4⟩
    exact hc.elim h3 h4
  unfold divS
  rw [if_neg hb0, e, if_pos (fits_mk h.1 h.2)]
theorem div_down {a b : Int} (h1 : -9223372036854775808 ≤ a) (h2 : a ≤ 9223372036854775807) (hb0 : b ≠ 0) (hb1 : b ≠ -1) (hr : a.tmod b ≠ 0) (hs : ¬ (a < 0 ↔ b < 0)) : divS a b = (a.tdiv b - 1, 0) := by
  have h := tdiv_bd a b h1 h2 hb0 hb1
  have h3 := tdiv_bd2 a b h1 h2 hb0 hb1 hr
  have e : a.fdiv b = a.tdiv b - 1 := by rw [fdiv_eq a b hb0, if_pos ⟨hr, hs⟩]
  unfold divS
  rw [if_neg hb0, e, if_pos (fits_mk h3 (by omega))]
theorem mod_neg1 (a : Int) : modS a (-1) = (0, 0) := by
  unfold modS
  rw [if_neg (by decide), show a.fmod (-1) = 0 from by rw [fmod_eq a (-1) (by decide)]; simp]
theorem mod_keep {a b : Int} (hb0 : b ≠ 0) (hc : a.tmod b = 0 ∨ (a < 0 ↔ b < 0)) : modS a b = (a.tmod b, 0) := by
  unfold modS
  rw [if_neg hb0, fmod_eq a b hb0, if_neg, Int.add_zero]
  rintro ⟨h3, h4⟩
  exact hc.elim h3 h4
theorem mod_up {a b : Int} (hb0 : b ≠ 0) (hr : a.tmod b ≠ 0) (hs : ¬ (a < 0 ↔ b < 0)) : modS a b = (a.tmod b + b, 0) := by
  unfold modS
  rw [if_neg hb0, fmod_eq a b hb0, if_pos ⟨hr, hs⟩]
theorem tmod_bd (a b : Int) (hb0 : b ≠ 0) : (0 ≤ a → 0 ≤ a.tmod b) ∧ (a ≤ 0 → a.tmod b ≤ 0) ∧ (a.tmod b).natAbs < b.natAbs := by
  refine ⟨fun h => Int.tmod_nonneg b h, fun h => tmod_le a b h, ?_⟩
  rw [Int.natAbs_tmod]; exact Nat.mod_lt _ (by omega)

set_option maxRecDepth 100000 in
set_option maxHeartbeats 400000 in
theorem Div_any (a b : Int) (w : World) (ha1 : -9223372036854775808 ≤ a) (ha2 : a ≤ 9223372036854775807) (hb1 : -9223372036854775808 ≤ b) (hb2 : b ≤ 9223372036854775807) :
    Calls Tryz.prog 179 #[.int .i64 a, .int .i64 b] w fun e w' => e = .returned (.tuple #[.int .i64 (divS a b).1, .int .i64 (divS a b).2]) ∧ w = w' := by
  by_cases hb0 : b = 0
  · subst hb0
    have hfin : divS a 0 = (0, 4) := rfl
    rw [hfin]
    clear hfin
    go_enter Tryz.func179, Tryz.ntmps179
    go_wp2
    go_ret2
    exact ⟨rfl, rfl⟩
  · have hb0' : (b == 0) = false := by rw [beq_eq_false_iff_ne]; exact hb0
    by_cases hb1 : b = -1
    · subst hb1
      rw [div_neg1]
      clear hb0 hb0'
      go_enter Tryz.func179, Tryz.ntmps179
      go_wp2_with (go_at_call 157; refine (Neg_any _ _ ha1 ha2).mono ?_; rintro e w' ⟨rfl, rfl⟩)
      go_ret2
      exact ⟨rfl, rfl⟩
    · have hb1' : (b == -1) = false := by rw [beq_eq_false_iff_ne]; exact hb1
      obtain ⟨q1, q2⟩ := tdiv_bd a b ha1 ha2 hb0 hb1
      by_cases hr : a.tmod b = 0
      · have hfin := div_keep ha1 ha2 hb0 hb1 (Or.inl hr)
        rw [hfin]
        have hrt : (a.tmod b != 0) = false := by rw [hr]; rfl
        have HR := Lib.hid hr
        clear hfin hr
        by_cases h0 : 0 ≤ a
        · have hm : a.tmod b = a % b := Int.tmod_eq_emod_of_nonneg h0
          rw [hm] at hrt
          by_cases h1 : 0 < b
          · have hd : a.tdiv b = a / b := Int.tdiv_eq_ediv_of_nonneg h0
            rw [hd] at q1 q2 ⊢
            clear hm hd hb1
            go_enter Tryz.func179, Tryz.ntmps179
            go_wp2
            go_ret2
            exact ⟨rfl, rfl⟩
          · clear hm hb1
            go_enter Tryz.func179, Tryz.ntmps179
            go_wp2
            go_ret2
            exact ⟨rfl, rfl⟩
        · clear hb1
          go_enter Tryz.func179, Tryz.ntmps179
          go_wp2
          go_ret2
          exact ⟨rfl, rfl⟩
      · have hrt : (a.tmod b != 0) = true := by rw [bne_iff_ne]; exact hr
        have q3 := tdiv_bd2 a b ha1 ha2 hb0 hb1 hr
        have HR := Lib.hid hr; clear hr
        by_cases h0 : 0 ≤ a
        · have hm : a.tmod b = a % b := Int.tmod_eq_emod_of_nonneg h0
          rw [hm] at hrt
          clear hm
          have h0' : ¬ a < 0 := by omega
          by_cases h1 : 0 < b
          · have h1' : ¬ b < 0 := by omega
            have hfin := div_keep ha1 ha2 hb0 hb1 (Or.inr (by omega))
            rw [hfin]
            have hd : a.tdiv b = a / b := Int.tdiv_eq_ediv_of_nonneg h0
            rw [hd] at q1 q2 q3 ⊢
            clear hd hb1 hfin
            go_enter Tryz.func179, Tryz.ntmps179
            go_wp2
            go_ret2
            exact ⟨rfl, rfl⟩
          · have h1' : b < 0 := by omega
            have hfin := div_down ha1 ha2 hb0 hb1 HR.out (by omega)
            rw [hfin]
            clear hb0 hb1 hfin
            go_enter Tryz.func179, Tryz.ntmps179
            go_wp2
            go_ret2
            exact ⟨rfl, rfl⟩
        · have h0' : a < 0 := by omega
          by_cases h1 : 0 < b
          · have h1' : ¬ b < 0 := by omega
            have hfin := div_down ha1 ha2 hb0 hb1 HR.out (by omega)
            rw [hfin]
            clear hb0 hb1 hfin
            go_enter Tryz.func179, Tryz.ntmps179
            go_wp2
            go_ret2
            exact ⟨rfl, rfl⟩
          · have h1' : b < 0 := by omega
            have hfin := div_keep ha1 ha2 hb0 hb1 (Or.inr (by omega))
            rw [hfin]
            clear hb0 hb1 hfin
            go_enter Tryz.func179, Tryz.ntmps179
            go_wp2
            go_ret2
            exact ⟨rfl, rfl⟩
set_option maxRecDepth 100000 in
set_option maxHeartbeats 400000 in
theorem Mod_any (a b : Int) (w : World) (ha1 : -9223372036854775808 ≤ a) (ha2 : a ≤ 9223372036854775807) (hb1 : -9223372036854775808 ≤ b) (hb2 : b ≤ 9223372036854775807) :
    Calls Tryz.prog 180 #[.int .i64 a, .int .i64 b] w fun e w' => e = .returned (.tuple #[.int .i64 (modS a b).1, .int .i64 (modS a b).2]) ∧ w = w' := by
  by_cases hb0 : b = 0
  · subst hb0
    have hfin : modS a 0 = (0, 4) := rfl
    rw [hfin]
    clear hfin
    go_enter Tryz.func180, Tryz.ntmps180
    go_wp2
    go_ret2
    exact ⟨rfl, rfl⟩
  · have hb0' : (b == 0) = false := by rw [beq_eq_false_iff_ne]; exact hb0
    by_cases hb1 : b = -1
    · subst hb1
      rw [mod_neg1]
      clear hb0 hb0'
      go_enter Tryz.func180, Tryz.ntmps180
      go_wp2
      go_ret2
      exact ⟨rfl, rfl⟩
    · have hb1' : (b == -1) = false := by rw [beq_eq_false_iff_ne]; exact hb1
      obtain ⟨m1, m2, m3⟩ := tmod_bd a b hb0
      by_cases h0 : 0 ≤ a
      · have hm : a.tmod b = a % b := Int.tmod_eq_emod_of_nonneg h0
        have m4 : 0 ≤ a % b := by rw [← hm]; exact m1 h0
        have m5 : a % b ≤ 9223372036854775807 := by rw [← hm]; omega
        have m5' : a % b ≤ (b.natAbs : Int) := by rw [← hm]; omega
        have h0' : ¬ a % b < 0 := by omega
        by_cases hr : a.tmod b = 0
        · have hrt : (a % b != 0) = false := by rw [← hm, hr]; rfl
          have hfin := mod_keep (a := a) hb0 (Or.inl hr)
          rw [hfin, hm]
          clear hfin hr hb1 hm m1 m2 m3
          go_enter Tryz.func180, Tryz.ntmps180
          go_wp2
          go_ret2
          exact ⟨rfl, rfl⟩
        · have hrt : (a % b != 0) = true := by rw [bne_iff_ne, ← hm]; exact hr
          by_cases h1 : 0 < b
          · have hfin := mod_keep (a := a) hb0 (Or.inr (by omega))
            have h1' : ¬ b < 0 := by omega
            rw [hfin, hm]
            clear hfin hr hb1 hm m1 m2 m3
            go_enter Tryz.func180, Tryz.ntmps180
            go_wp2
            go_ret2
            exact ⟨rfl, rfl⟩
          · have hfin := mod_up hb0 hr (by omega)
            have h1' : b < 0 := by omega
            rw [hfin, hm]
            clear hfin hr hb1 hm m1 m2 m3
            go_enter Tryz.func180, Tryz.ntmps180
            go_wp2
            go_ret2
            exact ⟨rfl, rfl⟩
      · have m4 : a.tmod b ≤ 0 := m2 (by omega)
        have m5 : -9223372036854775808 ≤ a.tmod b := by omega
        by_cases hr : a.tmod b = 0
        · have hrt : (a.tmod b != 0) = false := by rw [hr]; rfl
          have hfin := mod_keep (a := a) hb0 (Or.inl hr)
          rw [hfin]
          clear hfin hr hb1 m1 m2 m3
          go_enter Tryz.func180, Tryz.ntmps180
          go_wp2
          go_ret2
          exact ⟨rfl, rfl⟩
        · have hrt : (a.tmod b != 0) = true := by rw [bne_iff_ne]; exact hr
          have h0' : a.tmod b < 0 := by omega
          by_cases h1 : 0 < b
          · have hfin := mod_up hb0 hr (by omega)
            have h1' : ¬ b < 0 := by omega
            have m6 : -9223372036854775808 ≤ a.tmod b + b := by omega
            have m7 : a.tmod b + b ≤ 9223372036854775807 := by omega
            rw [hfin]
            clear hfin hr hb1 m1 m2 m3
            go_enter Tryz.func180, Tryz.ntmps180
            go_wp2
            go_ret2
            exact ⟨rfl, rfl⟩
          · have hfin := mod_keep (a := a) hb0 (Or.inr (by omega))
            have h1' : b < 0 := by omega
            rw [hfin]
            clear hfin hr hb1 m1 m2 m3
            go_enter Tryz.func180, Tryz.ntmps180
            go_wp2
            go_ret2
            exact ⟨rfl, rfl⟩
theorem mul_zero1 (b : Int) : mulS 0 b = (0, 0) := by unfold mulS; rw [Int.zero_mul, if_pos (by decide)]
theorem mul_zero2 (a : Int) : mulS a 0 = (0, 0) := by unfold mulS; rw [Int.mul_zero, if_pos (by decide)]
theorem mul_neg1 (b : Int) : mulS (-1) b = negS b := by unfold mulS negS subS; rw [Int.neg_mul, Int.one_mul, Int.zero_sub]
theorem mul_neg2 (a : Int) : mulS a (-1) = negS a := by unfold mulS negS subS; rw [Int.mul_neg, Int.mul_one, Int.zero_sub]
set_option maxRecDepth 100000 in
set_option maxHeartbeats 400000 in
theorem Mul_any (a b : Int) (w : World) (ha1 : -9223372036854775808 ≤ a) (ha2 : a ≤ 9223372036854775807) (hb1 : -9223372036854775808 ≤ b) (hb2 : b ≤ 9223372036854775807) :
    Calls Tryz.prog 178 #[.int .i64 a, .int .i64 b] w fun e w' => e = .returned (.tuple #[.int .i64 (mulS a b).1, .int .i64 (mulS a b).2]) ∧ w = w' := by
  by_cases hz : a = 0
  · subst hz
    rw [mul_zero1]
    go_enter Tryz.func178, Tryz.ntmps178
    go_wp2
    go_ret2
    exact ⟨rfl, rfl⟩
  have hz' : (a == 0) = false := by rw [beq_eq_false_iff_ne]; exact hz
  by_cases hb0 : b = 0
  · subst hb0
    rw [mul_zero2]
    clear hz
    go_enter Tryz.func178, Tryz.ntmps178
    go_wp2
    go_ret2
    exact ⟨rfl, rfl⟩
  have hb0' : (b == 0) = false := by rw [beq_eq_false_iff_ne]; exact hb0
  by_cases hn : a = -1
  · subst hn
    rw [mul_neg1]
    clear hz hz'
    go_enter Tryz.func178, Tryz.ntmps178
    go_wp2_with (go_at_call 157; refine (Neg_any _ _ hb1 hb2).mono ?_; rintro e w' ⟨rfl, rfl⟩)
    go_ret2
    exact ⟨rfl, rfl⟩
  have hn' : (a == -1) = false := by rw [beq_eq_false_iff_ne]; exact hn
  by_cases hm : b = -1
  · subst hm
    rw [mul_neg2]
    clear hz hn hb0'
    go_enter Tryz.func178, Tryz.ntmps178
    go_wp2_with (go_at_call 157; refine (Neg_any _ _ ha1 ha2).mono ?_; rintro e w' ⟨rfl, rfl⟩)
    go_ret2
    exact ⟨rfl, rfl⟩
  have hm' : (b == -1) = false := by rw [beq_eq_false_iff_ne]; exact hm
  obtain ⟨k, hk, hk1, hk2⟩ := w64_some (a * b)
  obtain ⟨p, hp⟩ : ∃ p, wrap64 (a * b) = p := ⟨_, rfl⟩
  rw [hp] at hk hk1 hk2
  obtain ⟨q1, q2⟩ := tdiv_bd p b hk1 hk2 hb0 hm
  obtain ⟨q, hq⟩ : ∃ q, p.tdiv b = q := ⟨_, rfl⟩
  by_cases hf : fits (a * b) = true
  · have hfin := mul_ok hf
    have hpe : p = a * b := by rw [← hp]; exact IntWalk.wrap64_in _ ((fits_iff _).1 hf)
    rw [hfin, ← hpe]
    have hqa : (q != a) = false := by rw [← hq, hpe, mul_back a b hb0]; simp
    have HP := Lib.hid hp
    rw [hq] at q1 q2
    clear hf hfin hpe hk hz hn hm
    by_cases h0 : 0 ≤ p ∧ 1 ≤ b
    · obtain ⟨h1, h2⟩ := h0
      rw [Int.tdiv_eq_ediv_of_nonneg h1] at hq
      go_enter Tryz.func178, Tryz.ntmps178
      go_wp2
      go_ret2
      first | exact ⟨rfl, rfl⟩ | (refine ⟨?_, rfl⟩; show Ending.returned (.tuple #[.int .i64 (wrap64 (a * b)), .int .i64 0]) = _; rw [HP.out])
    · go_enter Tryz.func178, Tryz.ntmps178
      go_wp2
      go_ret2
      first | exact ⟨rfl, rfl⟩ | (refine ⟨?_, rfl⟩; show Ending.returned (.tuple #[.int .i64 (wrap64 (a * b)), .int .i64 0]) = _; rw [HP.out])
  · have hf' : fits (a * b) = false := by simpa using hf
    have hfin := mul_no hf'
    rw [hfin]
    have hqa : (q != a) = true := by
      rw [bne_iff_ne]
      intro h
      have := wrap_back a b p k hb0 hb1 hb2 hk (by rw [hq, h])
      rw [← this] at hf
      exact hf (fits_mk hk1 hk2)
    have HP := Lib.hid hp
    rw [hq] at q1 q2
    clear hf hf' hfin hk hz hn hm
    by_cases h0 : 0 ≤ p ∧ 1 ≤ b
    · obtain ⟨h1, h2⟩ := h0
      rw [Int.tdiv_eq_ediv_of_nonneg h1] at hq
      go_enter Tryz.func178, Tryz.ntmps178
      go_wp2
      go_ret2
      exact ⟨rfl, rfl⟩
    · go_enter Tryz.func178, Tryz.ntmps178
      go_wp2
      go_ret2
      exact ⟨rfl, rfl⟩
end Go.Proofs.YtnglaegofhpleaaGreatDoor
namespace Go.Proofs
open Go.Shelf
def Tryz.slashName0 : String := Go.Proofs.YtnglaegofhpleaaGreatDoor.Rows.vmRunsRow.named.getD 2 ""
def Tryz.laysM173_ren : Go.Shelf.Ren := ⟨fun | 173 => 173 | 246 => 186 | 283 => 190 | 284 => 191 | 285 => 192 | 286 => 193 | 129 => 198 | 317 => 197 | 318 => 199 | 319 => 200 | 320 => 201 | 337 => 204 | 338 => 205 | n => n, fun | 2 => 2 | 3 => 3 | 9 => 9 | 4 => 4 | 171 => 207 | 0 => 0 | 53 => 121 | 37 => 195 | 5 => 5 | 173 => 210 | 212 => 215 | 51 => 162 | 20 => 20 | 213 => 216 | 46 => 170 | 232 => 220 | 233 => 221 | n => n, fun | 17 => 2 | 18 => 4 | 19 => 5 | n => n⟩
theorem Tryz.laysM173 : Go.Proofs.LaysM.n173 Tryz.prog Tryz.laysM173_ren := {
  mixed := by kernel_rfl
  f129 := Tryz.func198.trans (congrArg some (by kernel_rfl))
  f173 := Tryz.func173.trans (congrArg some (by kernel_rfl))
  f246 := Tryz.func186.trans (congrArg some (by kernel_rfl))
  f283 := Tryz.func190.trans (congrArg some (by kernel_rfl))
  f284 := Tryz.func191.trans (congrArg some (by kernel_rfl))
  f285 := Tryz.func192.trans (congrArg some (by kernel_rfl))
  f286 := Tryz.func193.trans (congrArg some (by kernel_rfl))
  f317 := Tryz.func197.trans (congrArg some (by kernel_rfl))
  f318 := Tryz.func199.trans (congrArg some (by kernel_rfl))
  f319 := Tryz.func200.trans (congrArg some (by kernel_rfl))
  f320 := Tryz.func201.trans (congrArg some (by kernel_rfl))
  f337 := Tryz.func204.trans (congrArg some (by kernel_rfl))
  f338 := Tryz.func205.trans (congrArg some (by kernel_rfl))
  t0 := Tryz.underlying0
  a0 := Tryz.isAgg0
  z0 := Tryz.sizeOf0
  v0 := Tryz.zeroValue0
  t2 := Tryz.underlying2
  a2 := Tryz.isAgg2
  z2 := Tryz.sizeOf2
  v2 := Tryz.zeroValue2
  t3 := Tryz.underlying3
  a3 := Tryz.isAgg3
  z3 := Tryz.sizeOf3
  v3 := Tryz.zeroValue3
  t4 := Tryz.underlying4
  a4 := Tryz.isAgg4
  z4 := Tryz.sizeOf4
  v4 := Tryz.zeroValue4
  t5 := Tryz.underlying5
  a5 := Tryz.isAgg5
  z5 := Tryz.sizeOf5
  v5 := Tryz.zeroValue5
  t9 := Tryz.underlying9
  a9 := Tryz.isAgg9
  z9 := Tryz.sizeOf9
  v9 := Tryz.zeroValue9
  t20 := Tryz.underlying20
  a20 := Tryz.isAgg20
  z20 := Tryz.sizeOf20
  v20 := Tryz.zeroValue20
  t37 := Tryz.underlying195
  a37 := Tryz.isAgg195
  z37 := Tryz.sizeOf195
  v37 := Tryz.zeroValue195
  t46 := Tryz.underlying170
  a46 := Tryz.isAgg170
  z46 := Tryz.sizeOf170
  v46 := Tryz.zeroValue170
  t51 := Tryz.underlying162
  a51 := Tryz.isAgg162
  z51 := Tryz.sizeOf162
  v51 := Tryz.zeroValue162
  t53 := Tryz.underlying121
  a53 := Tryz.isAgg121
  z53 := Tryz.sizeOf121
  v53 := Tryz.zeroValue121
  t171 := Tryz.underlying207
  a171 := Tryz.isAgg207
  z171 := Tryz.sizeOf207
  v171 := Tryz.zeroValue207
  t173 := Tryz.underlying210
  a173 := Tryz.isAgg210
  z173 := Tryz.sizeOf210
  v173 := Tryz.zeroValue210
  t212 := Tryz.underlying215
  a212 := Tryz.isAgg215
  z212 := Tryz.sizeOf215
  v212 := Tryz.zeroValue215
  t213 := Tryz.underlying216
  a213 := Tryz.isAgg216
  z213 := Tryz.sizeOf216
  t232 := Tryz.underlying220
  a232 := Tryz.isAgg220
  z232 := Tryz.sizeOf220
  v232 := Tryz.zeroValue220
  t233 := Tryz.underlying221
  a233 := Tryz.isAgg221
  z233 := Tryz.sizeOf221
  v233 := Tryz.zeroValue221
  g17 := by kernel_rfl
  g18 := by kernel_rfl
  g19 := by kernel_rfl
  i0 := by kernel_rfl
  i2 := by kernel_rfl
  i3 := by kernel_rfl
  i4 := by kernel_rfl
  i5 := by kernel_rfl
  i9 := by kernel_rfl
  i20 := by kernel_rfl
  i37 := by kernel_rfl
  i46 := by kernel_rfl
  i51 := by kernel_rfl
  i53 := by kernel_rfl
  i171 := by kernel_rfl
  i173 := by kernel_rfl
  i212 := by kernel_rfl
  i232 := by kernel_rfl
  i233 := by kernel_rfl
  m17 := by kernel_rfl
  m18 := by kernel_rfl
  m19 := by kernel_rfl }
open Go.RowKit Go.Sort Go.Lib in
theorem Tryz.strconv_FormatInt_10 (n : Int) (h0 : -9223372036854775808 ≤ n) (h1 : n ≤ 9223372036854775807) (w : World) (htab : Lib.TabIs Tryz.prog w Tryz.slashName0 .u64 Lib.pow10Tab) :
    Calls Tryz.prog 173 #[.int .i64 n, .int .i64 10] w fun e w' => e = .returned (.string ⟨(Lib.itoa n).toArray⟩) ∧ ∃ k os, w' = grow (w.drewN k) os := Any.strconv_FormatInt_10 Tryz.laysM173 n h0 h1 w htab
def Tryz.lays106_ren : Go.Shelf.Ren := ⟨fun | 106 => 196 | 213 => 203 | 265 => 206 | n => n, fun | 9 => 9 | 3 => 3 | n => n, fun | n => n⟩
theorem Tryz.lays106 : Go.Proofs.Lays.n106 Tryz.prog Tryz.lays106_ren := {
  mixed := by kernel_rfl
  f106 := Tryz.func196.trans (congrArg some (by kernel_rfl))
  f213 := Tryz.func203.trans (congrArg some (by kernel_rfl))
  f265 := Tryz.func206.trans (congrArg some (by kernel_rfl))
  t3 := Tryz.underlying3
  a3 := Tryz.isAgg3
  z3 := Tryz.sizeOf3
  v3 := Tryz.zeroValue3
  t9 := Tryz.underlying9
  a9 := Tryz.isAgg9
  z9 := Tryz.sizeOf9
  v9 := Tryz.zeroValue9 }
open Go.RowKit in
theorem Tryz.strings_Compare (a b : ByteArray) (w : World) :
    Calls Tryz.prog 196 #[.string a, .string b] w fun e w' => e = .returned (.int .i64 (Lib.compareBytes a.data.toList b.data.toList)) ∧ w' = w := Any.strings_Compare Tryz.lays106 a b w
def Tryz.lays122_ren : Go.Shelf.Ren := ⟨fun | 122 => 187 | 215 => 194 | n => n, fun | 3 => 3 | 4 => 4 | n => n, fun | n => n⟩
theorem Tryz.lays122 : Go.Proofs.Lays.n122 Tryz.prog Tryz.lays122_ren := {
  mixed := by kernel_rfl
  f122 := Tryz.func187.trans (congrArg some (by kernel_rfl))
  f215 := Tryz.func194.trans (congrArg some (by kernel_rfl))
  t3 := Tryz.underlying3
  a3 := Tryz.isAgg3
  z3 := Tryz.sizeOf3
  v3 := Tryz.zeroValue3
  t4 := Tryz.underlying4
  a4 := Tryz.isAgg4
  z4 := Tryz.sizeOf4
  v4 := Tryz.zeroValue4 }
open Go.RowKit in
theorem Tryz.cmp_Compare_int (x y : Int) (w : World) :
    Calls Tryz.prog 187 #[.int .i64 x, .int .i64 y] w fun e w' => e = .returned (.int .i64 (Lib.compareInt x y)) ∧ w' = w := Any.cmp_Compare_int Tryz.lays122 x y w
def Tryz.lays157_ren : Go.Shelf.Ren := ⟨fun | 157 => 83 | 229 => 108 | 199 => 109 | 261 => 131 | 311 => 153 | 312 => 154 | n => n, fun | 9 => 9 | 31 => 27 | 3 => 3 | 5 => 5 | 4 => 4 | 119 => 130 | 0 => 0 | 40 => 132 | 152 => 159 | 21 => 21 | 154 => 161 | 51 => 162 | 141 => 164 | 196 => 183 | 193 => 180 | 198 => 186 | 49 => 184 | 194 => 181 | 201 => 189 | 226 => 196 | 46 => 170 | 227 => 197 | n => n, fun | 0 => 0 | 6 => 1 | n => n⟩
theorem Tryz.lays157 : Go.Proofs.Lays.n157 Tryz.prog Tryz.lays157_ren := {
  mixed := by kernel_rfl
  f157 := Tryz.func83.trans (congrArg some (by kernel_rfl))
  f199 := Tryz.func109.trans (congrArg some (by kernel_rfl))
  f229 := Tryz.func108.trans (congrArg some (by kernel_rfl))
  f261 := Tryz.func131.trans (congrArg some (by kernel_rfl))
  f311 := Tryz.func153.trans (congrArg some (by kernel_rfl))
  f312 := Tryz.func154.trans (congrArg some (by kernel_rfl))
  t0 := Tryz.underlying0
  a0 := Tryz.isAgg0
  z0 := Tryz.sizeOf0
  v0 := Tryz.zeroValue0
  t3 := Tryz.underlying3
  a3 := Tryz.isAgg3
  z3 := Tryz.sizeOf3
  v3 := Tryz.zeroValue3
  t4 := Tryz.underlying4
  a4 := Tryz.isAgg4
  z4 := Tryz.sizeOf4
  v4 := Tryz.zeroValue4
  t5 := Tryz.underlying5
  a5 := Tryz.isAgg5
  z5 := Tryz.sizeOf5
  v5 := Tryz.zeroValue5
  t9 := Tryz.underlying9
  a9 := Tryz.isAgg9
  z9 := Tryz.sizeOf9
  v9 := Tryz.zeroValue9
  t21 := Tryz.underlying21
  a21 := Tryz.isAgg21
  z21 := Tryz.sizeOf21
  v21 := Tryz.zeroValue21
  t31 := Tryz.underlying27
  a31 := Tryz.isAgg27
  z31 := Tryz.sizeOf27
  v31 := Tryz.zeroValue27
  t40 := Tryz.underlying132
  a40 := Tryz.isAgg132
  z40 := Tryz.sizeOf132
  v40 := Tryz.zeroValue132
  t46 := Tryz.underlying170
  a46 := Tryz.isAgg170
  z46 := Tryz.sizeOf170
  v46 := Tryz.zeroValue170
  t49 := Tryz.underlying184
  a49 := Tryz.isAgg184
  z49 := Tryz.sizeOf184
  v49 := Tryz.zeroValue184
  t51 := Tryz.underlying162
  a51 := Tryz.isAgg162
  z51 := Tryz.sizeOf162
  v51 := Tryz.zeroValue162
  t119 := Tryz.underlying130
  a119 := Tryz.isAgg130
  z119 := Tryz.sizeOf130
  t141 := Tryz.underlying164
  a141 := Tryz.isAgg164
  z141 := Tryz.sizeOf164
  v141 := Tryz.zeroValue164
  t152 := Tryz.underlying159
  a152 := Tryz.isAgg159
  z152 := Tryz.sizeOf159
  v152 := Tryz.zeroValue159
  t154 := Tryz.underlying161
  a154 := Tryz.isAgg161
  z154 := Tryz.sizeOf161
  v154 := Tryz.zeroValue161
  t193 := Tryz.underlying180
  a193 := Tryz.isAgg180
  z193 := Tryz.sizeOf180
  v193 := Tryz.zeroValue180
  t194 := Tryz.underlying181
  a194 := Tryz.isAgg181
  z194 := Tryz.sizeOf181
  v194 := Tryz.zeroValue181
  t196 := Tryz.underlying183
  a196 := Tryz.isAgg183
  z196 := Tryz.sizeOf183
  v196 := Tryz.zeroValue183
  t198 := Tryz.underlying186
  a198 := Tryz.isAgg186
  z198 := Tryz.sizeOf186
  v198 := Tryz.zeroValue186
  t201 := Tryz.underlying189
  a201 := Tryz.isAgg189
  z201 := Tryz.sizeOf189
  v201 := Tryz.zeroValue189
  t226 := Tryz.underlying196
  a226 := Tryz.isAgg196
  z226 := Tryz.sizeOf196
  v226 := Tryz.zeroValue196
  t227 := Tryz.underlying197
  a227 := Tryz.isAgg197
  z227 := Tryz.sizeOf197
  v227 := Tryz.zeroValue197
  g0 := by kernel_rfl
  g6 := by kernel_rfl }
open Go.RowKit Go.Lib in
theorem Tryz.strings_Fields (s : ByteArray) (w : World) (hs : s.size < 4294967281) (hascii : ∀ (j : Nat) b, s.data.toList[j]? = some b → b.toNat < 128) (htab : Lib.TabIs Tryz.prog w "strings.asciiSpace" .u8 Lib.asciiSpaceTab) :
    Calls Tryz.prog 83 #[.string s] w fun e w' =>
      e = .returned (.slice (some ⟨w.heap.size, 0, none⟩) (Lib.fields s.data.toList).length (Lib.fields s.data.toList).length) ∧ w' = w.alloc (.cells ((Lib.fields s.data.toList).map fun l => Value.string ⟨l.toArray⟩).toArray 9) := Any.strings_Fields Tryz.lays157 (by kernel_rfl) (by kernel_rfl) s w hs hascii htab
def Tryz.lays110_ren : Go.Shelf.Ren := ⟨fun | 110 => 96 | 109 => 123 | n => n, fun | 31 => 27 | 9 => 9 | 4 => 4 | 3 => 3 | 0 => 0 | n => n, fun | n => n⟩
theorem Tryz.lays110 : Go.Proofs.Lays.n110 Tryz.prog Tryz.lays110_ren := {
  mixed := by kernel_rfl
  f109 := Tryz.func123.trans (congrArg some (by kernel_rfl))
  f110 := Tryz.func96.trans (congrArg some (by kernel_rfl))
  t0 := Tryz.underlying0
  a0 := Tryz.isAgg0
  z0 := Tryz.sizeOf0
  v0 := Tryz.zeroValue0
  t3 := Tryz.underlying3
  a3 := Tryz.isAgg3
  z3 := Tryz.sizeOf3
  v3 := Tryz.zeroValue3
  t4 := Tryz.underlying4
  a4 := Tryz.isAgg4
  z4 := Tryz.sizeOf4
  v4 := Tryz.zeroValue4
  t9 := Tryz.underlying9
  a9 := Tryz.isAgg9
  z9 := Tryz.sizeOf9
  v9 := Tryz.zeroValue9
  t31 := Tryz.underlying27
  a31 := Tryz.isAgg27
  z31 := Tryz.sizeOf27
  v31 := Tryz.zeroValue27 }
open Go.Lib in
theorem Tryz.slices_Contains_string (b off n c : Nat) (zs : List ByteArray) (x : ByteArray) (w : World) (hz : n ≤ zs.length) (hbig : n ≤ 9223372036854775807) (hc : ∀ j, j < zs.length → w.cell? ⟨b, off + j, none⟩ = some (.string (zs.getD j ByteArray.empty))) :
    Calls Tryz.prog 96 #[.slice (some ⟨b, off, none⟩) n c, .string x] w fun e w' => e = .returned (.bool (Lib.containsS (zs.take n) x)) ∧ w' = w := Any.slices_Contains_string Tryz.lays110 b off n c zs x w hz hbig hc
open Go.Lib in
theorem Tryz.slices_Contains_string_empty (a : Option Addr) (c : Nat) (x : ByteArray) (w : World) :
    Calls Tryz.prog 96 #[.slice a 0 c, .string x] w fun e w' => e = .returned (.bool false) ∧ w' = w := Any.slices_Contains_string_empty Tryz.lays110 a c x w
end Go.Proofs
namespace Go.Proofs.YtnglaegofhpleaaGreatDoor
open Go.RowKit

/-- the library's variables that Format and Parse read -/
def Laid (W : World) : Prop := Lib.TabIs Tryz.prog W Tryz.slashName0 .u64 Lib.pow10Tab ∧ True
theorem gTab : Tryz.prog.globalNamed Tryz.slashName0 = some 2 := by kernel_rfl
theorem Laid.below {W W' : World} (h : Laid W) (hb : Below W.heap.size W W') : Laid W' := by
  obtain ⟨h1, _⟩ := h
  refine ⟨?_, True.intro⟩
  unfold Lib.TabIs at h1 ⊢
  exact Joins.var_stays gTab h1 hb (Nat.le_refl _)

set_option maxRecDepth 100000 in
set_option maxHeartbeats 400000 in
theorem Format_any (n : Int) (w : World) (h0 : -9223372036854775808 ≤ n) (h1 : n ≤ 9223372036854775807) (hL : Laid w) :
    Calls Tryz.prog 160 #[.int .i64 n] w fun e w' => e = .returned (.string (bs (Lib.itoa n))) ∧ Below w.heap.size w w' := by
  go_enter Tryz.func160, Tryz.ntmps160
  go_wp2_with (go_at_call 173; refine (Tryz.strconv_FormatInt_10 _ h0 h1 _ hL.1).mono ?_; rintro e w' ⟨rfl, k, os, rfl⟩)
  go_ret
  exact ⟨rfl, Lib.below_grow _ _ (Nat.le_refl _) _ _⟩

/-- the digits of u, but for those that l already holds -/
def fin (u : Nat) (l : List UInt8) : List UInt8 := if u = 0 ∧ l ≠ [] then l else Lib.decDigits u ++ l
/-! ### Parse -/
end Go.Proofs.YtnglaegofhpleaaGreatDoor
namespace Go.Proofs.YtnglaegofhpleaaGreatDoor
open Go.RowKit

theorem takeH {P : Program} {ops : Array Oper} {Q : Exit → Act → World → Prop} {md : Region.Mode} {S : World → Prop} {i : Nat} {oi : Oper} {v : Value} {fuel : Nat} {listed : Array Bool} {tm : Array Value} {df : List Deferred} {w : World} (d : Nat) (hi : ops[i]? = some oi) (hd : oi.dst = some d)
    (hs : Region.noSelect ops = true) (hf : Region.free md ops listed i = true) (hr : (Region.ready md ops listed).contains i = true)
    (hQ : ∀ c a w, Q (.panic c) (a.put (some d) v) w → Q (.panic c) a w) (hy : YieldsIf P ops S oi v ⟨tm, df⟩) (hS : S w)
    (h : wpAnyH P md ops Q S fuel (listed.setIfInBounds i true) ⟨tm.setIfInBounds d v, df⟩ w) : wpAnyH P md ops Q S (fuel + 1) listed ⟨tm, df⟩ w :=
  wpAnyH_take hi hs hf hr (by rw [hd]; exact hQ) hy hS (by rw [hd]; exact h)
theorem sA {α : Type _} {l : List α} {i : Nat} {x : α} : (l.toArray).setIfInBounds i x = (l.set i x).toArray := List.setIfInBounds_toArray ..
theorem sB {α : Type _} {x y : α} {l : List α} : (x :: l).set 0 y = y :: l := List.set_cons_zero
theorem sC {α : Type _} {x y : α} {l : List α} {n : Nat} : (x :: l).set (n + 1) y = x :: l.set n y := List.set_cons_succ
theorem tkY {P : Program} {ops : Array Oper} {Q : Exit → Act → World → Prop} {md : Region.Mode} {S : World → Prop} {i : Nat} {oi : Oper} {v : Value} {fuel : Nat} {listed : Array Bool} {tm : Array Value} {df : List Deferred} {w : World} (d : Nat)
    (hy : ∀ w, S w → (execOp (Act.mk tm df).eval oi).run P w = .ok (.value v) w) (h : wpAnyH P md ops Q S fuel (listed.setIfInBounds i true) ⟨tm.setIfInBounds d v, df⟩ w)
    (hi : ops[i]? = some oi := by exact rfl) (hd : oi.dst = some d := by exact rfl) (hs : Region.noSelect ops = true := by kernel_rfl) (hf : Region.free md ops listed i = true := by kernel_rfl) (hr : (Region.ready md ops listed).contains i = true := by kernel_rfl)
    (hw : Region.wanted oi (yielded ops tm) = true := by kernel_rfl) (hQ : ∀ c (a : Act) w, Q (.panic c) (a.put (some d) v) w → Q (.panic c) a w := by exact fun _ _ _ h => h) (hS : S w := by assumption) : wpAnyH P md ops Q S (fuel + 1) listed ⟨tm, df⟩ w :=
  takeH d hi hd hs hf hr hQ (Or.inl ⟨hw, hy⟩) hS h
theorem tkX {P : Program} {ops : Array Oper} {Q : Exit → Act → World → Prop} {md : Region.Mode} {S : World → Prop} {i : Nat} {oi : Oper} {v : Value} {fuel : Nat} {listed : Array Bool} {tm : Array Value} {df : List Deferred} {w : World} (d : Nat)
    (h : wpAnyH P md ops Q S fuel (listed.setIfInBounds i true) ⟨tm.setIfInBounds d v, df⟩ w)
    (hi : ops[i]? = some oi := by exact rfl) (hd : oi.dst = some d := by exact rfl) (hs : Region.noSelect ops = true := by kernel_rfl) (hf : Region.free md ops listed i = true := by kernel_rfl) (hr : (Region.ready md ops listed).contains i = true := by kernel_rfl)
    (hw : Region.wanted oi (yielded ops tm) = true := by kernel_rfl) (hQ : ∀ c (a : Act) w, Q (.panic c) (a.put (some d) v) w → Q (.panic c) a w := by exact fun _ _ _ h => h) (hS : S w := by assumption)
    (hy : ∀ w, S w → (execOp (Act.mk tm df).eval oi).run P w = .ok (.value v) w := by intro w hSw; (try dsimp only at hSw); go_simp; (try with_reducible rfl)) : wpAnyH P md ops Q S (fuel + 1) listed ⟨tm, df⟩ w :=
  takeH d hi hd hs hf hr hQ (Or.inl ⟨hw, hy⟩) hS h
theorem tkZ {P : Program} {ops : Array Oper} {Q : Exit → Act → World → Prop} {md : Region.Mode} {S : World → Prop} {i : Nat} {oi : Oper} {fuel : Nat} {listed : Array Bool} {tm : Array Value} {df : List Deferred} {w : World} (d : Nat)
    (h : wpAnyH P md ops Q S fuel (listed.setIfInBounds i true) ⟨tm.setIfInBounds d undef, df⟩ w)
    (hi : ops[i]? = some oi := by exact rfl) (hd : oi.dst = some d := by exact rfl) (hs : Region.noSelect ops = true := by kernel_rfl) (hf : Region.free md ops listed i = true := by kernel_rfl) (hr : (Region.ready md ops listed).contains i = true := by kernel_rfl)
    (hw : Region.wanted oi (yielded ops tm) = false := by kernel_rfl) (hQ : ∀ c (a : Act) w, Q (.panic c) (a.put (some d) undef) w → Q (.panic c) a w := by exact fun _ _ _ h => h) (hS : S w := by assumption) : wpAnyH P md ops Q S (fuel + 1) listed ⟨tm, df⟩ w :=
  takeH d hi hd hs hf hr hQ (Or.inr ⟨hw, rfl⟩) hS h
end Go.Proofs.YtnglaegofhpleaaGreatDoor
namespace Go.Proofs.YtnglaegofhpleaaGreatDoor
open Go.RowKit

theorem lt_heap {W : World} {b : Nat} {o : Obj} (h : W.heap[b]? = some o) : b < W.heap.size := by
  rcases Nat.lt_or_ge b W.heap.size with h1 | h1
  · exact h1
  · rw [Array.getElem?_eq_none h1] at h; cases h
/-- block b holds these cells, and may be written -/
def Bx (b : Nat) (cs : Array Value) (T : TypeId) (W : World) : Prop := W.heap[b]? = some (.cells cs T (0, 0))
theorem Bx.lt {b : Nat} {cs : Array Value} {T : TypeId} {W : World} (h : Bx b cs T W) : b < W.heap.size := lt_heap h
theorem Bx.new (w : World) (cs : Array Value) (T : TypeId) : Bx w.heap.size cs T (w.alloc (.cells cs T)) := heap_alloc_new w _
theorem Bx.below {b B : Nat} {cs : Array Value} {T : TypeId} {W W' : World} (h : Bx b cs T W) (hb : Below B W W') (hB : b < B) : Bx b cs T W' := (hb.block _ hB).trans h
theorem Bx.call {b : Nat} {cs : Array Value} {T : TypeId} {W W' : World} (h : Bx b cs T W) (hb : Below W.heap.size W W') : Bx b cs T W' := h.below hb h.lt
theorem Bx.alloc {b : Nat} {cs : Array Value} {T : TypeId} {W : World} (h : Bx b cs T W) (o : Obj) : Bx b cs T (W.alloc o) := h.call ((Below.refl _ _).alloc (Nat.le_refl _) _)
theorem Bx.drew {b : Nat} {cs : Array Value} {T : TypeId} {W : World} (h : Bx b cs T W) : Bx b cs T W.drew := h
theorem Bx.cell {b : Nat} {cs : Array Value} {T : TypeId} {W : World} (h : Bx b cs T W) (i : Nat) : W.cell? ⟨b, i, none⟩ = cs[i]? := by
  unfold Bx at h; simp [World.cell?, h]
theorem Bx.free {b : Nat} {cs : Array Value} {T : TypeId} {W : World} (h : Bx b cs T W) (i : Nat) : W.frozen? ⟨b, i, none⟩ = false := by
  unfold Bx at h; simp [World.frozen?, h]

/-- v is a slice whose elements are the writes M -/
theorem Bx.set {b : Nat} {cs : Array Value} {T : TypeId} {W : World} (h : Bx b cs T W) (i : Nat) (v : Value) : Bx b (cs.setIfInBounds i v) T (W.setCell ⟨b, i, none⟩ v) :=
  heap_setCell_same W b i cs T v h
theorem Bx.other {b c i : Nat} {cs : Array Value} {T : TypeId} {W : World} (h : Bx b cs T W) (hne : b ≠ c) (v : Value) : Bx b cs T (W.setCell ⟨c, i, none⟩ v) :=
  (heap_setCell_other W ⟨c, i, none⟩ b v (fun e => hne (by simpa using e))).trans h
theorem grown_set (w : World) (a : Addr) (u : Value) : w.grownBy (w.setCell a u) (some a.block) :=
  ⟨rfl, rfl, rfl, by simp, fun k _ hk => heap_setCell_other w a k u (fun e => hk (by rw [e]))⟩
set_option maxRecDepth 100000 in
/-- a row of the call's own stands, whatever is stored below it -/
theorem own_set {B : Nat} {e : TypeId} {k : Nat} {v : Value} {n : Nat} {xs : List Value} {w : World} (h : w.ownsRow B e k v n xs) (b i : Nat) (hb : b < B) (u : Value) : (w.setCell ⟨b, i, none⟩ u).ownsRow B e k v n xs := by
  refine h.kept (grown_set w ⟨b, i, none⟩ u) ?_
  cases hv : v.ownBlock with
  | none => exact .inl rfl
  | some g =>
    refine .inr (fun e => ?_)
    have h2 := (h.lt g hv).1
    have h3 : g = b := by simpa using e
    omega

/-- writes as cells -/
theorem Bx.drewN {b : Nat} {cs : Array Value} {T : TypeId} {W : World} (h : Bx b cs T W) (n : Nat) : Bx b cs T (W.drewN n) := h
theorem bdrewN {B : Nat} {w W : World} (h : Below B w W) (n : Nat) : Below B w (W.drewN n) := h.trans ⟨rfl, rfl, rfl, Nat.le_refl _, fun _ _ => rfl⟩
theorem cell1_below {W W' : World} {b i : Nat} {u : Value} (h : W.cell? ⟨b, i, none⟩ = some u) (hb : Below W.heap.size W W') : W'.cell? ⟨b, i, none⟩ = some u := by
  rw [(bcell hb).1 _ _ (World.block_lt_of_cell? W _ h)]; exact h
theorem cell1_set {W : World} {b i c j : Nat} {u : Value} (v : Value) (h1 : c ≠ b) (h : W.cell? ⟨b, i, none⟩ = some u) : (W.setCell ⟨c, j, none⟩ v).cell? ⟨b, i, none⟩ = some u := by
  rw [World.cell?_setCell_far _ _ _ _ h1]; exact h
theorem Bx.new1 (w : World) (a : Obj) (cs : Array Value) (T : TypeId) : Bx (w.heap.size + 1) cs T ((w.alloc a).alloc (.cells cs T)) := by
  have := Bx.new (w.alloc a) cs T; simpa using this
theorem Bx.new2 (w : World) (a b : Obj) (cs : Array Value) (T : TypeId) : Bx (w.heap.size + 2) cs T (((w.alloc a).alloc b).alloc (.cells cs T)) := by
  have := Bx.new ((w.alloc a).alloc b) cs T; simpa using this

/-- 'append(data[:len(data):len(data)], s...)': a row without spare capacity grows into a new one -/
theorem below_set {B : Nat} {w W : World} (h : Below B w W) (b i : Nat) (hb : B ≤ b) (u : Value) : Below B w (W.setCell ⟨b, i, none⟩ u) := h.setCell hb u
theorem Bx.sets3 {b : Nat} {T : TypeId} {W : World} {z0 z1 z2 : Value} (h : Bx b #[z0, z1, z2] T W) (u0 u1 u2 : Value) :
    Bx b #[u0, u1, u2] T (((W.setCell ⟨b, 0, none⟩ u0).setCell ⟨b, 1, none⟩ u1).setCell ⟨b, 2, none⟩ u2) := by
  have := ((h.set 0 u0).set 1 u1).set 2 u2
  simpa using this
theorem Bx.sets3_ne {b c : Nat} {cs : Array Value} {T : TypeId} {W : World} (h : Bx b cs T W) (hne : b ≠ c) (u0 u1 u2 : Value) :
    Bx b cs T (((W.setCell ⟨c, 0, none⟩ u0).setCell ⟨c, 1, none⟩ u1).setCell ⟨c, 2, none⟩ u2) := ((h.other hne u0).other hne u1).other hne u2
theorem below_sets3 {B : Nat} {w W : World} (h : Below B w W) (b : Nat) (hb : B ≤ b) (u0 u1 u2 : Value) :
    Below B w (((W.setCell ⟨b, 0, none⟩ u0).setCell ⟨b, 1, none⟩ u1).setCell ⟨b, 2, none⟩ u2) := below_set (below_set (below_set h b 0 hb u0) b 1 hb u1) b 2 hb u2
end Go.Proofs.YtnglaegofhpleaaGreatDoor
namespace Go.Proofs.YtnglaegofhpleaaGreatDoor
open Go.RowKit

def strV (l : List UInt8) : Value := .string (bs l)
theorem own_below {B : Nat} {e : TypeId} {k : Nat} {v : Value} {n : Nat} {xs : List Value} {w w' : World} (h : w.ownsRow B e k v n xs) (hb : Below w.heap.size w w') : w'.ownsRow B e k v n xs :=
  h.kept (row := none) ⟨hb.os, hb.tape, hb.output, hb.size, fun j hj _ => hb.block j hj⟩ (by cases hv : v.ownBlock <;> simp)
theorem own_mono {w : World} {base base' size n : Nat} {e : TypeId} {v : Value} {xs : List Value} (h : w.ownsRow base e size v n xs) (hb : base' ≤ base) : w.ownsRow base' e size v n xs := by
  refine ⟨h.1, ?_⟩
  rcases h.2 with hn | ⟨g, cap, cur, h1, h2, h3⟩
  · exact .inl hn
  · exact .inr ⟨g, cap, cur, h1, by omega, h3⟩
theorem own_form {w : World} {base size n : Nat} {e : TypeId} {v : Value} {xs : List Value} (h : w.ownsRow base e size v n xs) : (v = .slice none 0 0 ∧ n = 0) ∨ ∃ g cap, v = .slice (some ⟨g, 0, none⟩) n cap ∧ n ≤ cap ∧ base ≤ g := by
  rcases h.2 with hn | ⟨g, cap, cur, h1, h2, h3, h4, _⟩
  · exact .inl hn
  · exact .inr ⟨g, cap, h1, h4, h2⟩

/-- v is a slice whose elements are the strings L -/
def StrS (W : World) (v : Value) (L : List (List UInt8)) : Prop :=
  ∃ a cap, v = .slice a L.length cap ∧ L.length ≤ cap ∧ (L ≠ [] → ∃ b off, a = some ⟨b, off, none⟩ ∧ ∀ i (h : i < L.length), W.cell? ⟨b, off + i, none⟩ = some (strV L[i]))
set_option maxRecDepth 100000 in
theorem StrS.below {W W' : World} {v : Value} {L : List (List UInt8)} (h : StrS W v L) (hb : Below W.heap.size W W') : StrS W' v L := by
  obtain ⟨a, cap, rfl, hc, hL⟩ := h
  refine ⟨a, cap, rfl, hc, fun hne => ?_⟩
  obtain ⟨b, off, rfl, hcell⟩ := hL hne
  refine ⟨b, off, rfl, fun i hi => ?_⟩
  have := hcell i hi
  rw [(bcell hb).1 _ _ (World.block_lt_of_cell? W _ this)]
  exact this
set_option maxRecDepth 100000 in
theorem StrS.of_own {W : World} {B : Nat} {v : Value} {L : List (List UInt8)} (h : W.ownsRow B 9 1 v L.length (L.map strV)) : StrS W v L := by
  rcases own_form h with ⟨rfl, h0⟩ | ⟨g, cap, rfl, hc, _⟩
  · have : L = [] := List.eq_nil_of_length_eq_zero h0
    subst this
    exact ⟨none, 0, rfl, Nat.le_refl _, fun hne => absurd rfl hne⟩
  · refine ⟨_, cap, rfl, hc, fun _ => ⟨g, 0, rfl, fun i hi => ?_⟩⟩
    have := h.cells (g := g) rfl i (strV L[i]) (by simp [hi])
    have e : (⟨g, 0, none⟩ : Addr).add i = ⟨g, 0 + i, none⟩ := by unfold Addr.add; split <;> simp_all
    rw [← e]
    exact this

end Go.Proofs.YtnglaegofhpleaaGreatDoor
namespace Go.Proofs.YtnglaegofhpleaaGreatDoor
open Go.RowKit

/-- u is a slice of n elements whose cells are xs, whatever its address and its capacity -/
def CellsAt (W : World) (u : Value) (n : Nat) (xs : List Value) : Prop :=
  ∃ ad cap, u = .slice ad n cap ∧ (xs ≠ [] → ∃ b off, ad = some ⟨b, off, none⟩ ∧ ∀ j y, xs[j]? = some y → W.cell? ⟨b, off + j, none⟩ = some y)
set_option maxRecDepth 100000 in
theorem CellsAt.below {W W' : World} {u : Value} {n : Nat} {xs : List Value} (h : CellsAt W u n xs) (hb : Below W.heap.size W W') : CellsAt W' u n xs := by
  obtain ⟨ad, cap, rfl, hx⟩ := h
  refine ⟨ad, cap, rfl, fun hne => ?_⟩
  obtain ⟨b, off, rfl, hc⟩ := hx hne
  refine ⟨b, off, rfl, fun j y hj => ?_⟩
  have := hc j y hj
  rw [(bcell hb).1 _ _ (World.block_lt_of_cell? W _ this)]
  exact this

set_option maxRecDepth 100000 in
/-- 'v = append(v, u...)', v of the call's own, u any slice of known cells -/
theorem wpList_append_any {P : Program} {w1 : World} {ops : Array Oper} {rest : List Oper} {o : Oper} {a : Act} {Q : Exit → Act → World → Prop} (hgd : o.guard = none) (s x : Operand) (t : TypeId)
    (ho : o.op = .call { callee := .builtin .append, args := #[s, x], argTypes := #[t, t] })
    (B : Nat) (e : TypeId) (i : TypeInfo) (z : Value) (size bytes : Nat) (ht : P.underlying t = some (.slice e)) (hi : P.info? e = some i) (hz : i.zero = some z)
    (hsize : i.size = size) (hby : i.bytes = bytes) (hzs : z.cells.size = size) (hsz : 0 < size)
    (v u : Value) (n m : Nat) (xs ys : List Value) (hs : a.eval s = v) (hown : w1.ownsRow B e size v n xs) (hx : a.eval x = u) (hU : CellsAt w1 u m ys) (hl : ys.length = m * size) (h1 : ∀ y ∈ ys, y.oneCell' = true)
    (h63 : n + m ≤ maxLen) (hbytes : ((n + m) + (n + m) / 4 + 192) * bytes ≤ 281474976710656) (W0 : World) (B0 : Nat) (hbel : Below B0 W0 w1) (hB : B ≤ w1.heap.size) (hB0 : B0 ≤ B)
    (h : ∀ v' w', w'.ownsRow B e size v' (n + m) (xs ++ ys) → Below B0 W0 w' → w1.grownBy w' v.ownBlock → wpList P ops Q rest (a.put o.dst v') w') :
    wpList P ops Q (o :: rest) a w1 := by
  obtain ⟨ad, cap, rfl, hcell⟩ := hU
  cases ad with
  | none =>
    have hM : ys = [] := by
      rcases ys with _ | ⟨y, r⟩
      · rfl
      · obtain ⟨b, off, hh, _⟩ := hcell (by simp)
        cases hh
    subst hM
    have hm : m = 0 := by
      rcases Nat.eq_zero_or_pos m with h0 | h0
      · exact h0
      · have := Nat.mul_pos h0 hsz; rw [← hl] at this; simp at this
    subst hm
    refine wpList_plain hgd fun K hK => ?_
    have hrun : (Builtin.append_ #[t, t] o.type #[v, .slice none 0 cap]).run P w1 = .ok v w1 := by
      rcases hown.2 with ⟨rfl, rfl⟩ | ⟨g, cap, cur, rfl, _, _, hnc, _⟩
      · simp [Builtin.append_, run_underlying ht, sizeOf, typeInfo, hi, Builtin.lenOf, Builtin.firstCells]
      · simp [Builtin.append_, run_underlying ht, sizeOf, typeInfo, hi, Builtin.lenOf, Builtin.firstCells, hnc, storeCells]
    unfold Oper.wp
    simp [execOp, ho, resolve, invoke, builtin, hs, hx, hrun, Result.andThen]
    exact hK _ _ (h v w1 (by simpa using hown) hbel ⟨rfl, rfl, rfl, Nat.le_refl _, fun _ _ _ => rfl⟩)
  | some ad =>
    have hnews : ∀ j y, ys[j]? = some y → w1.cell? (ad.add j) = some y := by
      intro j y hj
      obtain ⟨b, off, hh, hc⟩ := hcell (by intro h0; rw [h0] at hj; simp at hj)
      cases hh
      have e : (⟨b, off, none⟩ : Addr).add j = ⟨b, off + j, none⟩ := by unfold Addr.add; split <;> simp_all
      rw [e]; exact hc j y hj
    refine wpList_append_own_wide _ hgd s x t ho B e i z size bytes ht hi hz hsize hby hzs hsz v n xs hs hown ad m cap ys hx hl hnews h1 h63 hbytes hB ?_
    intro v' w2 hown2 hgrow _
    refine h v' w2 hown2 (hbel.grown hgrow (by have := hbel.size; omega) ?_) hgrow
    intro k hk
    have := (hown.lt k hk).1; omega

set_option maxRecDepth 100000 in
/-- the same in a region that draws its order -/
theorem step_append_wide {P : Program} (w1 : World) {ops : Array Oper} {o : Oper} {a : Act} {K : Act → World → Prop} {Q : Exit → Act → World → Prop} {E : Prop} (hgd : o.guard = none) (s x : Operand) (t : TypeId)
    (ho : o.op = .call { callee := .builtin .append, args := #[s, x], argTypes := #[t, t] })
    (B : Nat) (e : TypeId) (i : TypeInfo) (z : Value) (size bytes : Nat) (ht : P.underlying t = some (.slice e)) (hi : P.info? e = some i) (hz : i.zero = some z)
    (hsize : i.size = size) (hby : i.bytes = bytes) (hzs : z.cells.size = size) (hsz : 0 < size)
    (v : Value) (n : Nat) (xs : List Value) (hs : a.eval s = v) (hown : w1.ownsRow B e size v n xs)
    (ad : Addr) (m c : Nat) (news : List Value) (hx : a.eval x = .slice (some ad) m c) (hl : news.length = m * size) (hnews : ∀ j u, news[j]? = some u → w1.cell? (ad.add j) = some u) (h1 : ∀ u ∈ news, u.oneCell' = true)
    (hm : 0 < m) (h63 : n + m ≤ maxLen) (hbytes : ((n + m) + (n + m) / 4 + 192) * bytes ≤ 281474976710656) (hbase : B ≤ w1.heap.size)
    (h : ∀ g cap w', w'.ownsRow B e size (.slice (some ⟨g, 0, none⟩) (n + m) cap) (n + m) (xs ++ news) → w1.grownBy w' v.ownBlock → K (a.put o.dst (.slice (some ⟨g, 0, none⟩) (n + m) cap)) w') :
    if Region.wanted o (yielded ops a.tmps) = true then Oper.wp P o a w1 K Q else E := by
  have hw : Region.wanted o (yielded ops a.tmps) = true := by simp [Region.wanted, hgd]
  rw [if_pos hw]
  refine wp_append_own_wide w1 s x t ho B e i z size bytes ht hi hz hsize hby hzs hsz v n xs hs hown ad m c news hx hl hnews h1 h63 hbytes hbase ?_
  intro v' w' h2 h3 h4
  rcases h2.2 with ⟨rfl, h0⟩ | ⟨g, cap, cur, rfl, _⟩
  · omega
  · exact h g cap w' h2 h3
set_option maxRecDepth 100000 in
/-- a row of the call's own lies in no block of another type -/
theorem own_other {w1 : World} {B : Nat} {e T : TypeId} {k n g cap b : Nat} {xs : List Value} {cs : Array Value} (h : w1.ownsRow B e k (.slice (some ⟨g, 0, none⟩) n cap) n xs) (hb : w1.heap[b]? = some (.cells cs T (0, 0))) (hT : T ≠ e) : g ≠ b := by
  intro hgb
  subst hgb
  rcases h.2 with ⟨h1, _⟩ | ⟨g2, c2, cur, h1, _, h3, _⟩
  · cases h1
  · cases h1
    rw [hb] at h3
    cases h3
    exact hT rfl
end Go.Proofs.YtnglaegofhpleaaGreatDoor
namespace Go.Proofs.YtnglaegofhpleaaGreatDoor
open Go.RowKit

def okc (c : UInt8) : Bool := decide (32 ≤ c.toNat) && decide (c.toNat ≤ 126)
theorem okc_iff (c : UInt8) : okc c = true ↔ 32 ≤ c.toNat ∧ c.toNat ≤ 126 := by unfold okc; simp
theorem okc_lo {c : UInt8} (h : (c.toNat : Int) < 32) : okc c = false := by rw [Bool.eq_false_iff]; intro h2; have := (okc_iff c).1 h2; omega
theorem okc_hi {c : UInt8} (h : (126 : Int) < (c.toNat : Int)) : okc c = false := by rw [Bool.eq_false_iff]; intro h2; have := (okc_iff c).1 h2; omega
theorem all_bad {l : List UInt8} (k : Nat) (hk : k < l.length) (h : okc l[k] = false) : l.all okc = false := by
  rw [List.all_eq_false]; exact ⟨l[k], List.getElem_mem hk, by rw [h]; simp⟩
def ltr (c : UInt8) : Bool := decide (97 ≤ c.toNat) && decide (c.toNat ≤ 122)
theorem ltr_iff (c : UInt8) : ltr c = true ↔ 97 ≤ c.toNat ∧ c.toNat ≤ 122 := by unfold ltr; simp
def prt (c : UInt8) : Bool := ltr c || (isDig c || c == 95)
set_option maxRecDepth 100000 in
theorem prt_iff (c : UInt8) : prt c = true ↔ (97 ≤ c.toNat ∧ c.toNat ≤ 122) ∨ (48 ≤ c.toNat ∧ c.toNat ≤ 57) ∨ c.toNat = 95 := by
  unfold prt; rw [Bool.or_eq_true, Bool.or_eq_true, ltr_iff, isDig_iff, beq_iff_eq]
  constructor
  · rintro (h | h | h)
    · exact .inl h
    · exact .inr (.inl h)
    · subst h; exact .inr (.inr rfl)
  · rintro (h | h | h)
    · exact .inl h
    · exact .inr (.inl h)
    · exact .inr (.inr (UInt8.toNat_inj.1 h))
/-- the length of the word with which a text begins -/
def wlen (l : List UInt8) : Nat := (l.takeWhile prt).length
def KW : List (List UInt8) := [[112, 114, 111, 99], [108, 101, 116], [112, 117, 116], [100, 101, 108, 101, 116, 101], [105, 102], [101, 108, 115, 101], [102, 111, 114], [116, 111], [109, 97, 120], [101, 109, 105, 116], [97, 98, 111, 114, 116], [110, 111, 116], [97, 110, 100], [111, 114], [105, 110, 116], [115, 116, 114], [98, 111, 111, 108], [116, 101, 120, 116], [108, 101, 110], [103, 101, 116, 105, 110, 116], [103, 101, 116, 115, 116, 114], [104, 97, 115], [110, 111, 119], [114, 97, 110, 100, 111, 109], [110, 111, 100, 101]]
def isKw (l : List UInt8) : Bool := decide (l ∈ KW)
def isNm (l : List UInt8) : Bool := match l with
  | [] => false
  | c :: r => decide ((c :: r).length ≤ 16) && (ltr c && (decide (wlen (c :: r) = (c :: r).length) && !isKw (c :: r)))
end Go.Proofs.YtnglaegofhpleaaGreatDoor
namespace Go.Proofs.YtnglaegofhpleaaGreatDoor
open Go.RowKit

structure Vl where
  k : Int
  n : Int
  s : List UInt8
deriving DecidableEq
def vV (v : Vl) : Array Value := #[.int .i64 v.k, .int .i64 v.n, .string (bs v.s)]
def v00 : Vl := ⟨0, 0, []⟩
def plB (l : List UInt8) : Bool := l.all okc && decide (l.length ≤ 64)
theorem plB_bad {l : List UInt8} (k : Nat) (hk : k < l.length) (h : okc l[k] = false) : plB l = false := by unfold plB; rw [all_bad k hk h]; rfl
def vaB (v : Vl) : Bool := if v.k = 0 then decide (v.n = 0) && (v.s == []) else if v.k = 1 then (v.s == []) else if v.k = 2 then decide (v.n = 0) && plB v.s else false
def cmpV (a b : Vl) : Int := if a.k = b.k then (if a.n = b.n then Lib.compareBytes a.s b.s else Lib.compareInt a.n b.n) else Lib.compareInt a.k b.k

set_option maxRecDepth 100000 in
set_option maxHeartbeats 1000000 in
theorem vplain_any (l : List UInt8) (w : World) (hl : l.length ≤ 9223372036854775807) :
    Calls Tryz.prog 87 #[.string (bs l)] w fun e w' => e = .returned (.bool (plB l)) ∧ w = w' := by
  go_enter Tryz.func87, Tryz.ntmps87
  go_wp2
  go_loop [3] (fun i => ∃ k : Nat, k ≤ l.length ∧ i = .int .i64 k ∧ (l.take k).all okc = true) (fun i => l.length - (intOf i).toNat)
  case atStart => exact ⟨0, Nat.zero_le _, rfl, rfl⟩
  case round =>
    obtain ⟨k, hk, rfl, hall⟩ := hrel
    have HA := Lib.hid hall; clear hall
    by_cases hlt : k < l.length
    · have hlt' : (k : Int) < (l.length : Int) := by omega
      by_cases h1 : (l[k].toNat : Int) < 32
      · have HF := Lib.hid (plB_bad k hlt (okc_lo h1))
        go_wp2
        go_ret
        exact ⟨by rw [HF.out] <;> rfl, rfl⟩
      · by_cases h2 : (126 : Int) < (l[k].toNat : Int)
        · have HF := Lib.hid (plB_bad k hlt (okc_hi h2))
          go_wp2
          go_ret
          exact ⟨by rw [HF.out] <;> rfl, rfl⟩
        · have hA2 : (l.take (k + 1)).all okc = true := by
            rw [ltake_snoc l k hlt, List.all_append, HA.out]
            have : okc l[k] = true := (okc_iff _).2 (by omega)
            simp [this]
          have HA2 := Lib.hid hA2; clear hA2
          go_wp2
          go_round
          case rel => exact ⟨k + 1, by omega, by go_num, HA2.out⟩
          case measure => simp [intOf]; omega
    · have hall := HA.out
      rw [ltake_all l hlt] at hall
      have HF := Lib.hid (show plB l = decide ((l.length : Int) ≤ 64) by unfold plB; rw [hall, Bool.true_and]; congr 1; rw [eq_iff_iff]; omega)
      clear hall
      go_wp2
      go_ret
      exact ⟨by rw [HF.out] <;> rfl, rfl⟩
set_option maxRecDepth 100000 in
set_option maxHeartbeats 1000000 in
theorem RPlain_any (l : List UInt8) (w : World) (hl : l.length ≤ 9223372036854775807) :
    Calls Tryz.prog 85 #[.string (bs l)] w fun e w' => e = .returned (.bool (plB l)) ∧ w = w' := by
  by_cases h64 : (64 : Int) < (l.length : Int)
  · have HF := Lib.hid (show plB l = false by unfold plB; rw [decide_eq_false (by omega)]; simp)
    go_enter Tryz.func85, Tryz.ntmps85
    go_wp2
    go_ret
    exact ⟨by rw [HF.out] <;> rfl, rfl⟩
  · go_enter Tryz.func85, Tryz.ntmps85
    go_wp2
    go_loop [3] (fun i => ∃ k : Nat, k ≤ l.length ∧ i = .int .i64 k ∧ (l.take k).all okc = true) (fun i => l.length - (intOf i).toNat)
    case atStart => exact ⟨0, Nat.zero_le _, rfl, rfl⟩
    case round =>
      obtain ⟨k, hk, rfl, hall⟩ := hrel
      have HA := Lib.hid hall; clear hall
      by_cases hlt : k < l.length
      · have hlt' : (k : Int) < (l.length : Int) := by omega
        by_cases h1 : (l[k].toNat : Int) < 32
        · have HF := Lib.hid (plB_bad k hlt (okc_lo h1))
          go_wp2
          go_ret
          exact ⟨by rw [HF.out] <;> rfl, rfl⟩
        · by_cases h2 : (126 : Int) < (l[k].toNat : Int)
          · have HF := Lib.hid (plB_bad k hlt (okc_hi h2))
            go_wp2
            go_ret
            exact ⟨by rw [HF.out] <;> rfl, rfl⟩
          · have hA2 : (l.take (k + 1)).all okc = true := by
              rw [ltake_snoc l k hlt, List.all_append, HA.out]
              have : okc l[k] = true := (okc_iff _).2 (by omega)
              simp [this]
            have HA2 := Lib.hid hA2; clear hA2
            go_wp2
            go_round
            case rel => exact ⟨k + 1, by omega, by go_num, HA2.out⟩
            case measure => simp [intOf]; omega
      · have hall := HA.out
        rw [ltake_all l hlt] at hall
        have HF := Lib.hid (show plB l = true by unfold plB; rw [hall, decide_eq_true (by omega)]; rfl)
        clear hall
        go_wp2
        go_ret
        exact ⟨by rw [HF.out] <;> rfl, rfl⟩
end Go.Proofs.YtnglaegofhpleaaGreatDoor
namespace Go.Proofs.YtnglaegofhpleaaGreatDoor
open Go.RowKit


theorem vaB_zero (n : Int) (s : List UInt8) : vaB ⟨0, n, s⟩ = (decide (n = 0) && (s == [])) := rfl
theorem vaB_one (n : Int) (s : List UInt8) : vaB ⟨1, n, s⟩ = (s == []) := rfl
theorem vaB_two (n : Int) (s : List UInt8) : vaB ⟨2, n, s⟩ = (decide (n = 0) && plB s) := rfl
theorem vaB_else (k n : Int) (s : List UInt8) (h0 : k ≠ 0) (h1 : k ≠ 1) (h2 : k ≠ 2) : vaB ⟨k, n, s⟩ = false := by unfold vaB; simp only; rw [if_neg h0, if_neg h1, if_neg h2]

set_option maxRecDepth 100000 in
set_option maxHeartbeats 4000000 in
theorem VValid_any (v : Vl) (hl : v.s.length ≤ 9223372036854775807) (w : World) :
    Calls Tryz.prog 54 #[.agg (vV v)] w fun e w' => e = .returned (.bool (vaB v)) ∧ Below w.heap.size w w' := by
  obtain ⟨k, n, s⟩ := v
  simp only at hl
  simp only [vV]
  by_cases h0 : k = 0
  · subst h0
    by_cases hn : n = 0
    · subst hn
      by_cases hs : s = []
      · subst hs
        have hv : vaB ⟨0, 0, []⟩ = true := by rfl
        rw [hv]; clear hv
        have hb0 := ((Below.refl w.heap.size w).alloc (Nat.le_refl _) (.cells #[.int .i64 0, .int .i64 0, .string (bs [])] 52))
        have h_HX := (Bx.new w #[.int .i64 0, .int .i64 0, .string (bs [])] 52)
        have HB := Lib.hid hb0; have HX := Lib.hid h_HX
        clear hb0 h_HX
        go_enter Tryz.func54, Tryz.ntmps54
        go_upto_region 1 with (fail)
        generalize hW0 : w.alloc (.cells #[.int .i64 0, .int .i64 0, .string (bs [])] 52) = v0 at HB HX ⊢
        clear hW0
        have x0 : v0.cell? ⟨w.heap.size, 0, none⟩ = some (.int .i64 0) := HX.out.cell 0
        have x1 : v0.cell? ⟨w.heap.size, 1, none⟩ = some (.int .i64 0) := HX.out.cell 1
        have x2 : v0.cell? ⟨w.heap.size, 2, none⟩ = some (.string (bs [])) := HX.out.cell 2
        go_wp2
        go_ret
        exact ⟨rfl, HB.out⟩
      · have ts : (s == []) = false := by rw [beq_eq_false_iff_ne]; exact hs
        have hv : vaB ⟨0, 0, s⟩ = false := by rw [vaB_zero, ts]; rfl
        rw [hv]; clear hv
        have hb0 := ((Below.refl w.heap.size w).alloc (Nat.le_refl _) (.cells #[.int .i64 0, .int .i64 0, .string (bs s)] 52))
        have h_HX := (Bx.new w #[.int .i64 0, .int .i64 0, .string (bs s)] 52)
        have HB := Lib.hid hb0; have HX := Lib.hid h_HX
        clear hb0 h_HX
        go_enter Tryz.func54, Tryz.ntmps54
        go_upto_region 1 with (fail)
        generalize hW0 : w.alloc (.cells #[.int .i64 0, .int .i64 0, .string (bs s)] 52) = v0 at HB HX ⊢
        clear hW0
        have x0 : v0.cell? ⟨w.heap.size, 0, none⟩ = some (.int .i64 0) := HX.out.cell 0
        have x1 : v0.cell? ⟨w.heap.size, 1, none⟩ = some (.int .i64 0) := HX.out.cell 1
        have x2 : v0.cell? ⟨w.heap.size, 2, none⟩ = some (.string (bs s)) := HX.out.cell 2
        go_wp2
        go_ret
        exact ⟨rfl, HB.out⟩
    · have tn : (n == 0) = false := by rw [beq_eq_false_iff_ne]; exact hn
      have hv : vaB ⟨0, n, s⟩ = false := by rw [vaB_zero, decide_eq_false hn]; rfl
      rw [hv]; clear hv
      have hb0 := ((Below.refl w.heap.size w).alloc (Nat.le_refl _) (.cells #[.int .i64 0, .int .i64 n, .string (bs s)] 52))
      have h_HX := (Bx.new w #[.int .i64 0, .int .i64 n, .string (bs s)] 52)
      have HB := Lib.hid hb0; have HX := Lib.hid h_HX
      clear hb0 h_HX
      go_enter Tryz.func54, Tryz.ntmps54
      go_upto_region 1 with (fail)
      generalize hW0 : w.alloc (.cells #[.int .i64 0, .int .i64 n, .string (bs s)] 52) = v0 at HB HX ⊢
      clear hW0
      have x0 : v0.cell? ⟨w.heap.size, 0, none⟩ = some (.int .i64 0) := HX.out.cell 0
      have x1 : v0.cell? ⟨w.heap.size, 1, none⟩ = some (.int .i64 n) := HX.out.cell 1
      have x2 : v0.cell? ⟨w.heap.size, 2, none⟩ = some (.string (bs s)) := HX.out.cell 2
      go_wp2
      go_ret
      exact ⟨rfl, HB.out⟩
  by_cases h1 : k = 1
  · subst h1
    obtain ⟨ts, hts⟩ : ∃ t, (s == []) = t := ⟨_, rfl⟩
    have hv : vaB ⟨1, n, s⟩ = ts := by rw [vaB_one, hts]
    rw [hv]; clear hv
    have hb0 := ((Below.refl w.heap.size w).alloc (Nat.le_refl _) (.cells #[.int .i64 1, .int .i64 n, .string (bs s)] 52))
    have h_HX := (Bx.new w #[.int .i64 1, .int .i64 n, .string (bs s)] 52)
    have HB := Lib.hid hb0; have HX := Lib.hid h_HX
    clear hb0 h_HX
    go_enter Tryz.func54, Tryz.ntmps54
    go_upto_region 1 with (fail)
    generalize hW0 : w.alloc (.cells #[.int .i64 1, .int .i64 n, .string (bs s)] 52) = v0 at HB HX ⊢
    clear hW0
    have x0 : v0.cell? ⟨w.heap.size, 0, none⟩ = some (.int .i64 1) := HX.out.cell 0
    have x1 : v0.cell? ⟨w.heap.size, 1, none⟩ = some (.int .i64 n) := HX.out.cell 1
    have x2 : v0.cell? ⟨w.heap.size, 2, none⟩ = some (.string (bs s)) := HX.out.cell 2
    go_wp2
    go_ret
    exact ⟨rfl, HB.out⟩
  have t0 : (k == 0) = false := by rw [beq_eq_false_iff_ne]; exact h0
  have t1 : (k == 1) = false := by rw [beq_eq_false_iff_ne]; exact h1
  by_cases h2 : k = 2
  · subst h2
    by_cases hn : n = 0
    · subst hn
      obtain ⟨tp, htp⟩ : ∃ t, plB s = t := ⟨_, rfl⟩
      have HP := Lib.hid htp
      have hv : vaB ⟨2, 0, s⟩ = tp := by rw [vaB_two, htp]; rfl
      rw [hv]; clear hv
      have hb0 := ((Below.refl w.heap.size w).alloc (Nat.le_refl _) (.cells #[.int .i64 2, .int .i64 0, .string (bs s)] 52))
      have h_HX := (Bx.new w #[.int .i64 2, .int .i64 0, .string (bs s)] 52)
      have HB := Lib.hid hb0; have HX := Lib.hid h_HX
      clear hb0 h_HX
      go_enter Tryz.func54, Tryz.ntmps54
      go_upto_region 1 with (fail)
      generalize hW0 : w.alloc (.cells #[.int .i64 2, .int .i64 0, .string (bs s)] 52) = v0 at HB HX ⊢
      clear hW0
      have x0 : v0.cell? ⟨w.heap.size, 0, none⟩ = some (.int .i64 2) := HX.out.cell 0
      have x1 : v0.cell? ⟨w.heap.size, 1, none⟩ = some (.int .i64 0) := HX.out.cell 1
      have x2 : v0.cell? ⟨w.heap.size, 2, none⟩ = some (.string (bs s)) := HX.out.cell 2
      go_wp2_with fail
      refine (vplain_any s _ hl).mono ?_
      rw [HP.out]
      rintro er w1 ⟨rfl, rfl⟩
      go_wp2_with fail
      go_ret
      exact ⟨rfl, HB.out⟩
    · have tn : (n == 0) = false := by rw [beq_eq_false_iff_ne]; exact hn
      have hv : vaB ⟨2, n, s⟩ = false := by rw [vaB_two, decide_eq_false hn]; rfl
      rw [hv]; clear hv
      have hb0 := ((Below.refl w.heap.size w).alloc (Nat.le_refl _) (.cells #[.int .i64 2, .int .i64 n, .string (bs s)] 52))
      have h_HX := (Bx.new w #[.int .i64 2, .int .i64 n, .string (bs s)] 52)
      have HB := Lib.hid hb0; have HX := Lib.hid h_HX
      clear hb0 h_HX
      go_enter Tryz.func54, Tryz.ntmps54
      go_upto_region 1 with (fail)
      generalize hW0 : w.alloc (.cells #[.int .i64 2, .int .i64 n, .string (bs s)] 52) = v0 at HB HX ⊢
      clear hW0
      have x0 : v0.cell? ⟨w.heap.size, 0, none⟩ = some (.int .i64 2) := HX.out.cell 0
      have x1 : v0.cell? ⟨w.heap.size, 1, none⟩ = some (.int .i64 n) := HX.out.cell 1
      have x2 : v0.cell? ⟨w.heap.size, 2, none⟩ = some (.string (bs s)) := HX.out.cell 2
      go_wp2
      go_ret
      exact ⟨rfl, HB.out⟩
  have t2 : (k == 2) = false := by rw [beq_eq_false_iff_ne]; exact h2
  have hv : vaB ⟨k, n, s⟩ = false := vaB_else k n s h0 h1 h2
  rw [hv]; clear hv h0 h1 h2
  have hb0 := ((Below.refl w.heap.size w).alloc (Nat.le_refl _) (.cells #[.int .i64 k, .int .i64 n, .string (bs s)] 52))
  have h_HX := (Bx.new w #[.int .i64 k, .int .i64 n, .string (bs s)] 52)
  have HB := Lib.hid hb0; have HX := Lib.hid h_HX
  clear hb0 h_HX
  go_enter Tryz.func54, Tryz.ntmps54
  go_upto_region 1 with (fail)
  generalize hW0 : w.alloc (.cells #[.int .i64 k, .int .i64 n, .string (bs s)] 52) = v0 at HB HX ⊢
  clear hW0
  have x0 : v0.cell? ⟨w.heap.size, 0, none⟩ = some (.int .i64 k) := HX.out.cell 0
  have x1 : v0.cell? ⟨w.heap.size, 1, none⟩ = some (.int .i64 n) := HX.out.cell 1
  have x2 : v0.cell? ⟨w.heap.size, 2, none⟩ = some (.string (bs s)) := HX.out.cell 2
  go_wp2
  go_ret
  exact ⟨rfl, HB.out⟩
set_option maxRecDepth 100000 in
set_option maxHeartbeats 4000000 in
theorem RVValid_any (v : Vl) (hl : v.s.length ≤ 9223372036854775807) (w : World) :
    Calls Tryz.prog 52 #[.agg (vV v)] w fun e w' => e = .returned (.bool (vaB v)) ∧ Below w.heap.size w w' := by
  obtain ⟨k, n, s⟩ := v
  simp only at hl
  simp only [vV]
  by_cases h0 : k = 0
  · subst h0
    by_cases hn : n = 0
    · subst hn
      by_cases hs : s = []
      · subst hs
        have hv : vaB ⟨0, 0, []⟩ = true := by rfl
        rw [hv]; clear hv
        have hb0 := ((Below.refl w.heap.size w).alloc (Nat.le_refl _) (.cells #[.int .i64 0, .int .i64 0, .string (bs [])] 52))
        have h_HX := (Bx.new w #[.int .i64 0, .int .i64 0, .string (bs [])] 52)
        have HB := Lib.hid hb0; have HX := Lib.hid h_HX
        clear hb0 h_HX
        go_enter Tryz.func52, Tryz.ntmps52
        go_upto_region 1 with (fail)
        generalize hW0 : w.alloc (.cells #[.int .i64 0, .int .i64 0, .string (bs [])] 52) = v0 at HB HX ⊢
        clear hW0
        have x0 : v0.cell? ⟨w.heap.size, 0, none⟩ = some (.int .i64 0) := HX.out.cell 0
        have x1 : v0.cell? ⟨w.heap.size, 1, none⟩ = some (.int .i64 0) := HX.out.cell 1
        have x2 : v0.cell? ⟨w.heap.size, 2, none⟩ = some (.string (bs [])) := HX.out.cell 2
        go_wp2
        go_ret
        exact ⟨rfl, HB.out⟩
      · have ts : (s == []) = false := by rw [beq_eq_false_iff_ne]; exact hs
        have hv : vaB ⟨0, 0, s⟩ = false := by rw [vaB_zero, ts]; rfl
        rw [hv]; clear hv
        have hb0 := ((Below.refl w.heap.size w).alloc (Nat.le_refl _) (.cells #[.int .i64 0, .int .i64 0, .string (bs s)] 52))
        have h_HX := (Bx.new w #[.int .i64 0, .int .i64 0, .string (bs s)] 52)
        have HB := Lib.hid hb0; have HX := Lib.hid h_HX
        clear hb0 h_HX
        go_enter Tryz.func52, Tryz.ntmps52
        go_upto_region 1 with (fail)
        generalize hW0 : w.alloc (.cells #[.int .i64 0, .int .i64 0, .string (bs s)] 52) = v0 at HB HX ⊢
        clear hW0
        have x0 : v0.cell? ⟨w.heap.size, 0, none⟩ = some (.int .i64 0) := HX.out.cell 0
        have x1 : v0.cell? ⟨w.heap.size, 1, none⟩ = some (.int .i64 0) := HX.out.cell 1
        have x2 : v0.cell? ⟨w.heap.size, 2, none⟩ = some (.string (bs s)) := HX.out.cell 2
        go_wp2
        go_ret
        exact ⟨rfl, HB.out⟩
    · have tn : (n == 0) = false := by rw [beq_eq_false_iff_ne]; exact hn
      have hv : vaB ⟨0, n, s⟩ = false := by rw [vaB_zero, decide_eq_false hn]; rfl
      rw [hv]; clear hv
      have hb0 := ((Below.refl w.heap.size w).alloc (Nat.le_refl _) (.cells #[.int .i64 0, .int .i64 n, .string (bs s)] 52))
      have h_HX := (Bx.new w #[.int .i64 0, .int .i64 n, .string (bs s)] 52)
      have HB := Lib.hid hb0; have HX := Lib.hid h_HX
      clear hb0 h_HX
      go_enter Tryz.func52, Tryz.ntmps52
      go_upto_region 1 with (fail)
      generalize hW0 : w.alloc (.cells #[.int .i64 0, .int .i64 n, .string (bs s)] 52) = v0 at HB HX ⊢
      clear hW0
      have x0 : v0.cell? ⟨w.heap.size, 0, none⟩ = some (.int .i64 0) := HX.out.cell 0
      have x1 : v0.cell? ⟨w.heap.size, 1, none⟩ = some (.int .i64 n) := HX.out.cell 1
      have x2 : v0.cell? ⟨w.heap.size, 2, none⟩ = some (.string (bs s)) := HX.out.cell 2
      go_wp2
      go_ret
      exact ⟨rfl, HB.out⟩
  by_cases h1 : k = 1
  · subst h1
    obtain ⟨ts, hts⟩ : ∃ t, (s == []) = t := ⟨_, rfl⟩
    have hv : vaB ⟨1, n, s⟩ = ts := by rw [vaB_one, hts]
    rw [hv]; clear hv
    have hb0 := ((Below.refl w.heap.size w).alloc (Nat.le_refl _) (.cells #[.int .i64 1, .int .i64 n, .string (bs s)] 52))
    have h_HX := (Bx.new w #[.int .i64 1, .int .i64 n, .string (bs s)] 52)
    have HB := Lib.hid hb0; have HX := Lib.hid h_HX
    clear hb0 h_HX
    go_enter Tryz.func52, Tryz.ntmps52
    go_upto_region 1 with (fail)
    generalize hW0 : w.alloc (.cells #[.int .i64 1, .int .i64 n, .string (bs s)] 52) = v0 at HB HX ⊢
    clear hW0
    have x0 : v0.cell? ⟨w.heap.size, 0, none⟩ = some (.int .i64 1) := HX.out.cell 0
    have x1 : v0.cell? ⟨w.heap.size, 1, none⟩ = some (.int .i64 n) := HX.out.cell 1
    have x2 : v0.cell? ⟨w.heap.size, 2, none⟩ = some (.string (bs s)) := HX.out.cell 2
    go_wp2
    go_ret
    exact ⟨rfl, HB.out⟩
  have t0 : (k == 0) = false := by rw [beq_eq_false_iff_ne]; exact h0
  have t1 : (k == 1) = false := by rw [beq_eq_false_iff_ne]; exact h1
  by_cases h2 : k = 2
  · subst h2
    by_cases hn : n = 0
    · subst hn
      obtain ⟨tp, htp⟩ : ∃ t, plB s = t := ⟨_, rfl⟩
      have HP := Lib.hid htp
      have hv : vaB ⟨2, 0, s⟩ = tp := by rw [vaB_two, htp]; rfl
      rw [hv]; clear hv
      have hb0 := ((Below.refl w.heap.size w).alloc (Nat.le_refl _) (.cells #[.int .i64 2, .int .i64 0, .string (bs s)] 52))
      have h_HX := (Bx.new w #[.int .i64 2, .int .i64 0, .string (bs s)] 52)
      have HB := Lib.hid hb0; have HX := Lib.hid h_HX
      clear hb0 h_HX
      go_enter Tryz.func52, Tryz.ntmps52
      go_upto_region 1 with (fail)
      generalize hW0 : w.alloc (.cells #[.int .i64 2, .int .i64 0, .string (bs s)] 52) = v0 at HB HX ⊢
      clear hW0
      have x0 : v0.cell? ⟨w.heap.size, 0, none⟩ = some (.int .i64 2) := HX.out.cell 0
      have x1 : v0.cell? ⟨w.heap.size, 1, none⟩ = some (.int .i64 0) := HX.out.cell 1
      have x2 : v0.cell? ⟨w.heap.size, 2, none⟩ = some (.string (bs s)) := HX.out.cell 2
      go_wp2_with fail
      refine (RPlain_any s _ hl).mono ?_
      rw [HP.out]
      rintro er w1 ⟨rfl, rfl⟩
      go_wp2_with fail
      go_ret
      exact ⟨rfl, HB.out⟩
    · have tn : (n == 0) = false := by rw [beq_eq_false_iff_ne]; exact hn
      have hv : vaB ⟨2, n, s⟩ = false := by rw [vaB_two, decide_eq_false hn]; rfl
      rw [hv]; clear hv
      have hb0 := ((Below.refl w.heap.size w).alloc (Nat.le_refl _) (.cells #[.int .i64 2, .int .i64 n, .string (bs s)] 52))
      have h_HX := (Bx.new w #[.int .i64 2, .int .i64 n, .string (bs s)] 52)
      have HB := Lib.hid hb0; have HX := Lib.hid h_HX
      clear hb0 h_HX
      go_enter Tryz.func52, Tryz.ntmps52
      go_upto_region 1 with (fail)
      generalize hW0 : w.alloc (.cells #[.int .i64 2, .int .i64 n, .string (bs s)] 52) = v0 at HB HX ⊢
      clear hW0
      have x0 : v0.cell? ⟨w.heap.size, 0, none⟩ = some (.int .i64 2) := HX.out.cell 0
      have x1 : v0.cell? ⟨w.heap.size, 1, none⟩ = some (.int .i64 n) := HX.out.cell 1
      have x2 : v0.cell? ⟨w.heap.size, 2, none⟩ = some (.string (bs s)) := HX.out.cell 2
      go_wp2
      go_ret
      exact ⟨rfl, HB.out⟩
  have t2 : (k == 2) = false := by rw [beq_eq_false_iff_ne]; exact h2
  have hv : vaB ⟨k, n, s⟩ = false := vaB_else k n s h0 h1 h2
  rw [hv]; clear hv h0 h1 h2
  have hb0 := ((Below.refl w.heap.size w).alloc (Nat.le_refl _) (.cells #[.int .i64 k, .int .i64 n, .string (bs s)] 52))
  have h_HX := (Bx.new w #[.int .i64 k, .int .i64 n, .string (bs s)] 52)
  have HB := Lib.hid hb0; have HX := Lib.hid h_HX
  clear hb0 h_HX
  go_enter Tryz.func52, Tryz.ntmps52
  go_upto_region 1 with (fail)
  generalize hW0 : w.alloc (.cells #[.int .i64 k, .int .i64 n, .string (bs s)] 52) = v0 at HB HX ⊢
  clear hW0
  have x0 : v0.cell? ⟨w.heap.size, 0, none⟩ = some (.int .i64 k) := HX.out.cell 0
  have x1 : v0.cell? ⟨w.heap.size, 1, none⟩ = some (.int .i64 n) := HX.out.cell 1
  have x2 : v0.cell? ⟨w.heap.size, 2, none⟩ = some (.string (bs s)) := HX.out.cell 2
  go_wp2
  go_ret
  exact ⟨rfl, HB.out⟩
end Go.Proofs.YtnglaegofhpleaaGreatDoor
namespace Go.Proofs.YtnglaegofhpleaaGreatDoor
open Go.RowKit


set_option maxRecDepth 100000 in
set_option maxHeartbeats 4000000 in
theorem nan64_any (x : Int) (w : World) :
    Calls Tryz.prog 202 #[.int .i64 x] w fun e w' => e = .returned (.bool false) ∧ w' = w := by
  go_enter Tryz.func202, Tryz.ntmps202
  go_wp2
  go_ret
  exact ⟨by simp, rfl⟩
set_option maxRecDepth 100000 in
set_option maxHeartbeats 4000000 in
theorem cmp64_any (x y : Int) (w : World) :
    Calls Tryz.prog 195 #[.int .i64 x, .int .i64 y] w fun e w' => e = .returned (.int .i64 (Lib.compareInt x y)) ∧ w' = w := by
  have hc : Lib.compareInt x y = if x < y then -1 else if y < x then 1 else 0 := rfl
  rw [hc]; clear hc
  by_cases h1 : x < y
  · rw [if_pos h1]
    go_enter Tryz.func195, Tryz.ntmps195
    go_wp2_with fail
    refine (nan64_any x _).mono ?_
    rintro er w1 ⟨rfl, rfl⟩
    go_wp2_with fail
    refine (nan64_any y _).mono ?_
    rintro er w2 ⟨rfl, rfl⟩
    go_wp2
    go_ret
    exact ⟨rfl, rfl⟩
  rw [if_neg h1]
  by_cases h2 : y < x
  · rw [if_pos h2]
    go_enter Tryz.func195, Tryz.ntmps195
    go_wp2_with fail
    refine (nan64_any x _).mono ?_
    rintro er w1 ⟨rfl, rfl⟩
    go_wp2_with fail
    refine (nan64_any y _).mono ?_
    rintro er w2 ⟨rfl, rfl⟩
    go_wp2
    go_ret
    exact ⟨rfl, rfl⟩
  rw [if_neg h2]
  go_enter Tryz.func195, Tryz.ntmps195
  go_wp2_with fail
  refine (nan64_any x _).mono ?_
  rintro er w1 ⟨rfl, rfl⟩
  go_wp2_with fail
  refine (nan64_any y _).mono ?_
  rintro er w2 ⟨rfl, rfl⟩
  go_wp2
  go_ret
  exact ⟨rfl, rfl⟩
set_option maxRecDepth 100000 in
set_option maxHeartbeats 4000000 in
theorem numbers_any (a b : Vl) (w : World) :
    Calls Tryz.prog 188 #[.agg #[.int .i64 a.k, .int .i64 a.n, .string (bs a.s), .int .i64 b.k, .int .i64 b.n, .string (bs b.s)]] w fun e w' => e = .returned (.int .i64 (Lib.compareInt a.n b.n)) ∧ Below w.heap.size w w' := by
  have hb0 := ((Below.refl w.heap.size w).alloc (Nat.le_refl _) (.cells #[.int .i64 a.k, .int .i64 a.n, .string (bs a.s), .int .i64 b.k, .int .i64 b.n, .string (bs b.s)] 205))
  have h_HX := (Bx.new w #[.int .i64 a.k, .int .i64 a.n, .string (bs a.s), .int .i64 b.k, .int .i64 b.n, .string (bs b.s)] 205)
  have HB := Lib.hid hb0; have HX := Lib.hid h_HX
  clear hb0 h_HX
  go_enter Tryz.func188, Tryz.ntmps188
  go_upto_region 1 with (fail)
  generalize hW0 : w.alloc (.cells #[.int .i64 a.k, .int .i64 a.n, .string (bs a.s), .int .i64 b.k, .int .i64 b.n, .string (bs b.s)] 205) = v0 at HB HX ⊢
  clear hW0
  have x1 : v0.cell? ⟨w.heap.size, 1, none⟩ = some (.int .i64 a.n) := HX.out.cell 1
  have x4 : v0.cell? ⟨w.heap.size, 4, none⟩ = some (.int .i64 b.n) := HX.out.cell 4
  go_wp2_with fail
  refine (cmp64_any a.n b.n _).mono ?_
  rintro er w1 ⟨rfl, rfl⟩
  go_wp2
  go_ret
  exact ⟨rfl, HB.out⟩
set_option maxRecDepth 100000 in
set_option maxHeartbeats 4000000 in
theorem strings_any (a b : Vl) (w : World) :
    Calls Tryz.prog 189 #[.agg #[.int .i64 a.k, .int .i64 a.n, .string (bs a.s), .int .i64 b.k, .int .i64 b.n, .string (bs b.s)]] w fun e w' => e = .returned (.int .i64 (Lib.compareBytes a.s b.s)) ∧ Below w.heap.size w w' := by
  have hb0 := ((Below.refl w.heap.size w).alloc (Nat.le_refl _) (.cells #[.int .i64 a.k, .int .i64 a.n, .string (bs a.s), .int .i64 b.k, .int .i64 b.n, .string (bs b.s)] 205))
  have h_HX := (Bx.new w #[.int .i64 a.k, .int .i64 a.n, .string (bs a.s), .int .i64 b.k, .int .i64 b.n, .string (bs b.s)] 205)
  have HB := Lib.hid hb0; have HX := Lib.hid h_HX
  clear hb0 h_HX
  go_enter Tryz.func189, Tryz.ntmps189
  go_upto_region 1 with (fail)
  generalize hW0 : w.alloc (.cells #[.int .i64 a.k, .int .i64 a.n, .string (bs a.s), .int .i64 b.k, .int .i64 b.n, .string (bs b.s)] 205) = v0 at HB HX ⊢
  clear hW0
  have x2 : v0.cell? ⟨w.heap.size, 2, none⟩ = some (.string (bs a.s)) := HX.out.cell 2
  have x5 : v0.cell? ⟨w.heap.size, 5, none⟩ = some (.string (bs b.s)) := HX.out.cell 5
  go_wp2_with fail
  refine (Tryz.strings_Compare (bs a.s) (bs b.s) _).mono ?_
  rw [toList_bs, toList_bs]
  rintro er w1 ⟨rfl, rfl⟩
  go_wp2
  go_ret
  exact ⟨rfl, HB.out⟩
set_option maxRecDepth 100000 in
set_option maxHeartbeats 8000000 in
theorem VCompare_any (a b : Vl) (w : World) :
    Calls Tryz.prog 181 #[.agg (vV a), .agg (vV b)] w fun e w' => e = .returned (.int .i64 (cmpV a b)) ∧ Below w.heap.size w w' := by
  simp only [vV]
  by_cases hk : a.k = b.k
  rotate_left
  · have hr : cmpV a b = Lib.compareInt a.k b.k := by unfold cmpV; rw [if_neg hk]
    rw [hr]; clear hr
    have t1 : (a.k != b.k) = true := by rw [bne_iff_ne]; exact hk
    have HK := Lib.hid hk; clear hk
    have hb0 := (((Below.refl w.heap.size w).alloc (Nat.le_refl _) (.cells #[.int .i64 a.k, .int .i64 a.n, .string (bs a.s)] 52)).alloc (by simp) (.cells #[.int .i64 b.k, .int .i64 b.n, .string (bs b.s)] 52))
    have h_HX := ((Bx.new w #[.int .i64 a.k, .int .i64 a.n, .string (bs a.s)] 52).alloc (.cells #[.int .i64 b.k, .int .i64 b.n, .string (bs b.s)] 52))
    have h_HY := (Bx.new (w.alloc (.cells #[.int .i64 a.k, .int .i64 a.n, .string (bs a.s)] 52)) #[.int .i64 b.k, .int .i64 b.n, .string (bs b.s)] 52)
    rw [show (w.alloc (.cells #[.int .i64 a.k, .int .i64 a.n, .string (bs a.s)] 52)).heap.size = w.heap.size + 1 by simp] at h_HY
    have HB := Lib.hid hb0; have HX := Lib.hid h_HX; have HY := Lib.hid h_HY
    clear hb0 h_HX h_HY
    go_enter Tryz.func181, Tryz.ntmps181
    go_upto_region 1 with (fail)
    generalize hW0 : (w.alloc (.cells #[.int .i64 a.k, .int .i64 a.n, .string (bs a.s)] 52)).alloc (.cells #[.int .i64 b.k, .int .i64 b.n, .string (bs b.s)] 52) = v0 at HB HX HY ⊢
    clear hW0
    have x0 : v0.cell? ⟨w.heap.size, 0, none⟩ = some (.int .i64 a.k) := HX.out.cell 0
    have x1 : v0.cell? ⟨w.heap.size, 1, none⟩ = some (.int .i64 a.n) := HX.out.cell 1
    have x2 : v0.cell? ⟨w.heap.size, 2, none⟩ = some (.string (bs a.s)) := HX.out.cell 2
    have y0 : v0.cell? ⟨(w.heap.size + 1), 0, none⟩ = some (.int .i64 b.k) := HY.out.cell 0
    have y1 : v0.cell? ⟨(w.heap.size + 1), 1, none⟩ = some (.int .i64 b.n) := HY.out.cell 1
    have y2 : v0.cell? ⟨(w.heap.size + 1), 2, none⟩ = some (.string (bs b.s)) := HY.out.cell 2
    go_wp2_with fail
    refine (Tryz.cmp_Compare_int a.k b.k _).mono ?_
    rintro er w1 ⟨rfl, rfl⟩
    go_wp2
    go_ret
    exact ⟨rfl, HB.out⟩
  have t1 : (a.k != b.k) = false := by rw [hk]; simp
  have HK := Lib.hid hk; clear hk
  have hmf : ∀ (fn : Fn) (first cap : Array Value) (w : World), (Instr.makeFunc fn first cap).run Tryz.prog w = .ok (.func fn first cap) w := fun _ _ _ _ => rfl
  by_cases hn : a.n = b.n
  · have hr : cmpV a b = Lib.compareBytes a.s b.s := by unfold cmpV; rw [if_pos HK.out, if_pos hn]
    rw [hr]; clear hr
    have t2 : (a.n == b.n) = true := by rw [hn]; simp
    have HN := Lib.hid hn; clear hn
    have hb0 := (((Below.refl w.heap.size w).alloc (Nat.le_refl _) (.cells #[.int .i64 a.k, .int .i64 a.n, .string (bs a.s)] 52)).alloc (by simp) (.cells #[.int .i64 b.k, .int .i64 b.n, .string (bs b.s)] 52))
    have h_HX := ((Bx.new w #[.int .i64 a.k, .int .i64 a.n, .string (bs a.s)] 52).alloc (.cells #[.int .i64 b.k, .int .i64 b.n, .string (bs b.s)] 52))
    have h_HY := (Bx.new (w.alloc (.cells #[.int .i64 a.k, .int .i64 a.n, .string (bs a.s)] 52)) #[.int .i64 b.k, .int .i64 b.n, .string (bs b.s)] 52)
    rw [show (w.alloc (.cells #[.int .i64 a.k, .int .i64 a.n, .string (bs a.s)] 52)).heap.size = w.heap.size + 1 by simp] at h_HY
    have HB := Lib.hid hb0; have HX := Lib.hid h_HX; have HY := Lib.hid h_HY
    clear hb0 h_HX h_HY
    go_enter Tryz.func181, Tryz.ntmps181
    go_upto_region 1 with (fail)
    generalize hW0 : (w.alloc (.cells #[.int .i64 a.k, .int .i64 a.n, .string (bs a.s)] 52)).alloc (.cells #[.int .i64 b.k, .int .i64 b.n, .string (bs b.s)] 52) = v0 at HB HX HY ⊢
    clear hW0
    have x0 : v0.cell? ⟨w.heap.size, 0, none⟩ = some (.int .i64 a.k) := HX.out.cell 0
    have x1 : v0.cell? ⟨w.heap.size, 1, none⟩ = some (.int .i64 a.n) := HX.out.cell 1
    have x2 : v0.cell? ⟨w.heap.size, 2, none⟩ = some (.string (bs a.s)) := HX.out.cell 2
    have y0 : v0.cell? ⟨(w.heap.size + 1), 0, none⟩ = some (.int .i64 b.k) := HY.out.cell 0
    have y1 : v0.cell? ⟨(w.heap.size + 1), 1, none⟩ = some (.int .i64 b.n) := HY.out.cell 1
    have y2 : v0.cell? ⟨(w.heap.size + 1), 2, none⟩ = some (.string (bs b.s)) := HY.out.cell 2
    have hal := (Below.refl v0.heap.size v0).alloc (Nat.le_refl _) (.cells #[.int .i64 a.k, .int .i64 a.n, .string (bs a.s), .int .i64 b.k, .int .i64 b.n, .string (bs b.s)] 205)
    have HP := Lib.hid (Bx.new v0 #[.int .i64 a.k, .int .i64 a.n, .string (bs a.s), .int .i64 b.k, .int .i64 b.n, .string (bs b.s)] 205); have HX := Lib.hid (HX.out.call hal); have HY := Lib.hid (HY.out.call hal); have HB := Lib.hid (btrans HB.out HB.out.size hal); clear hal
    go_upto_region 4 with (fail)
    clear x0 x1 x2
    clear y0 y1 y2
    generalize hW : v0.alloc (.cells #[.int .i64 a.k, .int .i64 a.n, .string (bs a.s), .int .i64 b.k, .int .i64 b.n, .string (bs b.s)] 205) = v1 at HX HY HP HB ⊢
    clear hW
    have p0 : v1.cell? ⟨v0.heap.size, 0, none⟩ = some (.int .i64 a.k) := HP.out.cell 0
    have p1 : v1.cell? ⟨v0.heap.size, 1, none⟩ = some (.int .i64 a.n) := HP.out.cell 1
    have p2 : v1.cell? ⟨v0.heap.size, 2, none⟩ = some (.string (bs a.s)) := HP.out.cell 2
    have p3 : v1.cell? ⟨v0.heap.size, 3, none⟩ = some (.int .i64 b.k) := HP.out.cell 3
    have p4 : v1.cell? ⟨v0.heap.size, 4, none⟩ = some (.int .i64 b.n) := HP.out.cell 4
    have p5 : v1.cell? ⟨v0.heap.size, 5, none⟩ = some (.string (bs b.s)) := HP.out.cell 5
    have x1 : v1.cell? ⟨w.heap.size, 1, none⟩ = some (.int .i64 a.n) := HX.out.cell 1
    have y1 : v1.cell? ⟨w.heap.size + 1, 1, none⟩ = some (.int .i64 b.n) := HY.out.cell 1
    go_wp2_with fail
    refine (strings_any a b _).mono ?_
    rintro er w1 ⟨rfl, hb1⟩
    go_wp2
    go_ret
    exact ⟨rfl, btrans HB.out HB.out.size hb1⟩
  have hr : cmpV a b = Lib.compareInt a.n b.n := by unfold cmpV; rw [if_pos HK.out, if_neg hn]
  rw [hr]; clear hr
  have t2 : (a.n == b.n) = false := by rw [beq_eq_false_iff_ne]; exact hn
  have HN := Lib.hid hn; clear hn
  have hb0 := (((Below.refl w.heap.size w).alloc (Nat.le_refl _) (.cells #[.int .i64 a.k, .int .i64 a.n, .string (bs a.s)] 52)).alloc (by simp) (.cells #[.int .i64 b.k, .int .i64 b.n, .string (bs b.s)] 52))
  have h_HX := ((Bx.new w #[.int .i64 a.k, .int .i64 a.n, .string (bs a.s)] 52).alloc (.cells #[.int .i64 b.k, .int .i64 b.n, .string (bs b.s)] 52))
  have h_HY := (Bx.new (w.alloc (.cells #[.int .i64 a.k, .int .i64 a.n, .string (bs a.s)] 52)) #[.int .i64 b.k, .int .i64 b.n, .string (bs b.s)] 52)
  rw [show (w.alloc (.cells #[.int .i64 a.k, .int .i64 a.n, .string (bs a.s)] 52)).heap.size = w.heap.size + 1 by simp] at h_HY
  have HB := Lib.hid hb0; have HX := Lib.hid h_HX; have HY := Lib.hid h_HY
  clear hb0 h_HX h_HY
  go_enter Tryz.func181, Tryz.ntmps181
  go_upto_region 1 with (fail)
  generalize hW0 : (w.alloc (.cells #[.int .i64 a.k, .int .i64 a.n, .string (bs a.s)] 52)).alloc (.cells #[.int .i64 b.k, .int .i64 b.n, .string (bs b.s)] 52) = v0 at HB HX HY ⊢
  clear hW0
  have x0 : v0.cell? ⟨w.heap.size, 0, none⟩ = some (.int .i64 a.k) := HX.out.cell 0
  have x1 : v0.cell? ⟨w.heap.size, 1, none⟩ = some (.int .i64 a.n) := HX.out.cell 1
  have x2 : v0.cell? ⟨w.heap.size, 2, none⟩ = some (.string (bs a.s)) := HX.out.cell 2
  have y0 : v0.cell? ⟨(w.heap.size + 1), 0, none⟩ = some (.int .i64 b.k) := HY.out.cell 0
  have y1 : v0.cell? ⟨(w.heap.size + 1), 1, none⟩ = some (.int .i64 b.n) := HY.out.cell 1
  have y2 : v0.cell? ⟨(w.heap.size + 1), 2, none⟩ = some (.string (bs b.s)) := HY.out.cell 2
  have hal := (Below.refl v0.heap.size v0).alloc (Nat.le_refl _) (.cells #[.int .i64 a.k, .int .i64 a.n, .string (bs a.s), .int .i64 b.k, .int .i64 b.n, .string (bs b.s)] 205)
  have HP := Lib.hid (Bx.new v0 #[.int .i64 a.k, .int .i64 a.n, .string (bs a.s), .int .i64 b.k, .int .i64 b.n, .string (bs b.s)] 205); have HX := Lib.hid (HX.out.call hal); have HY := Lib.hid (HY.out.call hal); have HB := Lib.hid (btrans HB.out HB.out.size hal); clear hal
  go_upto_region 4 with (fail)
  clear x0 x1 x2
  clear y0 y1 y2
  generalize hW : v0.alloc (.cells #[.int .i64 a.k, .int .i64 a.n, .string (bs a.s), .int .i64 b.k, .int .i64 b.n, .string (bs b.s)] 205) = v1 at HX HY HP HB ⊢
  clear hW
  have p0 : v1.cell? ⟨v0.heap.size, 0, none⟩ = some (.int .i64 a.k) := HP.out.cell 0
  have p1 : v1.cell? ⟨v0.heap.size, 1, none⟩ = some (.int .i64 a.n) := HP.out.cell 1
  have p2 : v1.cell? ⟨v0.heap.size, 2, none⟩ = some (.string (bs a.s)) := HP.out.cell 2
  have p3 : v1.cell? ⟨v0.heap.size, 3, none⟩ = some (.int .i64 b.k) := HP.out.cell 3
  have p4 : v1.cell? ⟨v0.heap.size, 4, none⟩ = some (.int .i64 b.n) := HP.out.cell 4
  have p5 : v1.cell? ⟨v0.heap.size, 5, none⟩ = some (.string (bs b.s)) := HP.out.cell 5
  have x1 : v1.cell? ⟨w.heap.size, 1, none⟩ = some (.int .i64 a.n) := HX.out.cell 1
  have y1 : v1.cell? ⟨w.heap.size + 1, 1, none⟩ = some (.int .i64 b.n) := HY.out.cell 1
  go_wp2_with fail
  refine (numbers_any a b _).mono ?_
  rintro er w1 ⟨rfl, hb1⟩
  go_wp2
  go_ret
  exact ⟨rfl, btrans HB.out HB.out.size hb1⟩
end Go.Proofs.YtnglaegofhpleaaGreatDoor
namespace Go.Proofs.YtnglaegofhpleaaGreatDoor
open Go.RowKit

structure Ins where
  op : Int
  a : Int
  b : Int
  n : Int
  s : List UInt8
deriving DecidableEq
structure Cd where
  p : List Int
  sl : Int
  l : List Ins
deriving DecidableEq
def ins0 : Ins := ⟨0, 0, 0, 0, []⟩
def insL (x : Ins) : List Value := [.int .i64 x.op, .int .i64 x.a, .int .i64 x.b, .int .i64 x.n, .string (bs x.s)]
def insV (x : Ins) : Array Value := #[.int .i64 x.op, .int .i64 x.a, .int .i64 x.b, .int .i64 x.n, .string (bs x.s)]
def insLs (L : List Ins) : List Value := L.flatMap insL
def intsL (L : List Int) : List Value := L.map (Value.int .i64)
def OPN : List (List UInt8) := [[105, 110, 116], [115, 116, 114], [108, 111, 97, 100], [115, 116, 111, 114, 101], [111, 112], [106, 117, 109, 112], [102, 97, 108, 115, 101], [112, 117, 116], [100, 101, 108], [101, 109, 105, 116], [97, 98, 111, 114, 116], [108, 111, 111, 112], [101, 110, 100], [116, 105, 99, 107]]
def nameS (op : Int) : List UInt8 := if 1 ≤ op ∧ op ≤ 14 then OPN.getD (op - 1).toNat [] else []
def arS (op : Int) : Int := if op < 1 ∨ 27 < op then -1 else if op ≤ 3 ∨ 25 ≤ op then 0 else if op = 9 ∨ op = 18 ∨ 20 ≤ op then 1 else 2
def uA (op : Int) : Bool := (decide (3 ≤ op) && decide (op ≤ 7)) || (decide (op = 11) || decide (op = 12))
def uB (op : Int) : Bool := decide (op = 12)
def uN (op : Int) : Bool := decide (op = 1) || decide (op = 12)
def uS (op : Int) : Bool := decide (op = 2)
def fldS (op : Int) : Int := (if uA op then 1 else 0) + (if uB op then 2 else 0) + (if uN op then 4 else 0) + (if uS op then 8 else 0)
def takeI (x : Ins) : Int := if x.op = 4 ∨ x.op = 7 ∨ x.op = 9 ∨ x.op = 10 then 1 else if x.op = 8 then 2 else if x.op = 5 then arS x.a else 0
def putI (x : Ins) : Int := if x.op = 1 ∨ x.op = 2 ∨ x.op = 3 ∨ x.op = 5 then 1 else 0
def plainS (s : List UInt8) : Bool := s.all okc && decide (s.length ≤ 64)
def unuS (x : Ins) : Bool := (uA x.op || decide (x.a = 0)) && ((uB x.op || decide (x.b = 0)) && ((uN x.op || decide (x.n = 0)) && (uS x.op || decide (x.s = []))))
def inR (v hi : Int) : Bool := decide (0 ≤ v) && decide (v < hi)
/-- an instruction by itself, in code with sl slots and n instructions -/
def insS (sl n : Int) (x : Ins) : Bool :=
  (decide (1 ≤ x.op) && decide (x.op ≤ 14)) && (unuS x &&
  (if x.op = 2 then plainS x.s else if x.op = 3 ∨ x.op = 4 then inR x.a sl else if x.op = 5 then decide (1 ≤ arS x.a) else if x.op = 6 ∨ x.op = 7 then inR x.a n
   else if x.op = 11 then inR x.a 1000 else if x.op = 12 then inR x.a sl && (inR x.b sl && (decide (1 ≤ x.n) && decide (x.n ≤ 16))) else true))
def leaI (x : Ins) : Bool := decide (x.op = 6) || (decide (x.op = 11) || decide (x.op = 13))
def jmpI (x : Ins) : Bool := decide (x.op = 6) || decide (x.op = 7)
/-- the depth behind an instruction -/
def behI (d : Int) (x : Ins) : Int := d + (putI x - takeI x)
def badI (d : Int) (x : Ins) : Bool := decide (64 < behI d x) || (decide (behI d x ≠ 0) && (leaI x || decide (x.op = 7)))
def depG : List Int → Int → List Ins → List Int × Bool
  | acc, _, [] => (acc, true)
  | acc, d, x :: r => if d < takeI x then ([], false) else if badI d x = true then ([], false) else depG (acc ++ [d]) (behI d x) r
def jokS (B : List Int) (x : Ins) : Bool := !jmpI x || decide (B.getD x.a.toNat 1 = 0)
def tyB (t : Int) : Bool := decide (t = 1) || decide (t = 2)
def lastI (l : List Ins) : Ins := l.getLastD ins0
def valC (c : Cd) : Int :=
  if 4096 < c.l.length ∨ 64 < c.sl then 2 else if c.p.all tyB = false then 23 else if c.sl < (c.p.length : Int) ∨ c.l.length = 0 then 23
  else if c.l.all (insS c.sl (c.l.length : Int)) = false then 23 else if (depG [] 0 c.l).2 = false ∨ leaI (lastI c.l) = false then 23
  else if c.l.all (jokS (depG [] 0 c.l).1) = false then 23 else 0
end Go.Proofs.YtnglaegofhpleaaGreatDoor
namespace Go.Proofs.YtnglaegofhpleaaGreatDoor
open Go.RowKit

structure Pr where
  key : List UInt8
  v : Vl
deriving DecidableEq
structure Ft where
  all : Bool
  rd : List (List UInt8)
  wr : List (List UInt8)
/-- a value, an abort with a code, or a restart because of a key -/
inductive Rs where
  | ok (v : Vl)
  | ab (c : Int)
  | re (k : List UInt8)
def numV (n : Int) : Vl := ⟨1, n, []⟩
def truV (b : Bool) : Vl := ⟨3, if b then 1 else 0, []⟩
def strVl (s : List UInt8) : Vl := ⟨2, 0, s⟩
def exS (x : Int × Int) : Rs := if x.2 = 0 then .ok (numV x.1) else if x.2 = 4 then .ab 1002 else .ab 1001
def txS (s : List UInt8) : Rs := if 64 < s.length then .ab 1006 else .ok (strVl s)
def ariS (op a b : Int) : Int × Int := if op = 4 then addS a b else if op = 5 then subS a b else if op = 6 then mulS a b else if op = 7 then divS a b else modS a b
def cmpB (op c : Int) : Bool := if op = 10 then decide (c = 0) else if op = 11 then decide (c ≠ 0) else if op = 12 then decide (c < 0) else if op = 13 then decide (c ≤ 0) else if op = 14 then decide (0 < c) else decide (0 ≤ c)
def cmpS (op : Int) (a b : Vl) : Rs := if a.k = b.k ∧ (a.k = 1 ∨ a.k = 2 ∨ (a.k = 3 ∧ op ≤ 11)) then .ok (truV (cmpB op (cmpV a b))) else .ab 1009
def binS (op : Int) (a b : Vl) : Rs :=
  if op = 4 ∨ op = 5 ∨ op = 6 ∨ op = 7 ∨ op = 8 then (if a.k = 1 ∧ b.k = 1 then exS (ariS op a.n b.n) else .ab 1009)
  else if op = 16 then (if a.k = 3 ∧ b.k = 3 then .ok (truV (decide (a.n = 1) && decide (b.n = 1))) else .ab 1009)
  else if op = 17 then (if a.k = 3 ∧ b.k = 3 then .ok (truV (decide (a.n = 1) || decide (b.n = 1))) else .ab 1009)
  else if op = 19 then (if a.k = 2 ∧ b.k = 2 then txS (a.s ++ b.s) else .ab 1009)
  else cmpS op a b
/-- an operator with one operand that reads nothing -/
def unS (op : Int) (a : Vl) : Rs :=
  if op = 9 then (if a.k = 1 then exS (negS a.n) else .ab 1009)
  else if op = 18 then (if a.k = 3 then .ok (truV (decide (a.n = 0))) else .ab 1009)
  else if op = 20 then (if a.k = 1 then txS (Lib.itoa a.n) else .ab 1009)
  else (if a.k = 2 then .ok (numV (a.s.length : Int)) else .ab 1009)
/-- what is made of a value that was read -/
def gotS (op : Int) (v : Vl) : Rs :=
  if op = 24 then .ok (truV (decide (v.k ≠ 0))) else if v.k = 0 then .ok (if op = 22 then numV 0 else strVl []) else if v.k = (if op = 22 then 1 else 2) then .ok v else .ab 1003
def kyc (c : UInt8) : Bool := (decide (97 ≤ c.toNat) && decide (c.toNat ≤ 122)) || ((decide (48 ≤ c.toNat) && decide (c.toNat ≤ 57)) || (decide (c.toNat = 47) || (decide (c.toNat = 46) || (decide (c.toNat = 95) || decide (c.toNat = 45)))))
def keyB (k : List UInt8) : Bool := decide (1 ≤ k.length) && (decide (k.length ≤ 24) && k.all kyc)
def getP (l : List Pr) (k : List UInt8) : Vl := ((l.find? fun p => p.key == k).map Pr.v).getD v00
/-- how the operators' functions end -/
def stopE (st c : Int) (k : List UInt8) : PanicEntry := { v := .iface 145 (.agg #[.int .i64 st, .int .i64 c, .slice none 0 0, .string (bs k)]), recovered := false }
def endR : Rs → Ending
  | .ok v => .returned (.agg (vV v))
  | .ab c => .panicked [stopE 2 c []]
  | .re k => .panicked [stopE 3 0 k]
end Go.Proofs.YtnglaegofhpleaaGreatDoor
namespace Go.Proofs.YtnglaegofhpleaaGreatDoor
open Go.RowKit

theorem kw_no {l : List UInt8} (h : ¬ l = [112, 114, 111, 99] ∧ ¬ l = [108, 101, 116] ∧ ¬ l = [112, 117, 116] ∧ ¬ l = [100, 101, 108, 101, 116, 101] ∧ ¬ l = [105, 102] ∧ ¬ l = [101, 108, 115, 101] ∧ ¬ l = [102, 111, 114] ∧ ¬ l = [116, 111] ∧ ¬ l = [109, 97, 120] ∧ ¬ l = [101, 109, 105, 116] ∧ ¬ l = [97, 98, 111, 114, 116] ∧ ¬ l = [110, 111, 116] ∧ ¬ l = [97, 110, 100] ∧ ¬ l = [111, 114] ∧ ¬ l = [105, 110, 116] ∧ ¬ l = [115, 116, 114] ∧ ¬ l = [98, 111, 111, 108] ∧ ¬ l = [116, 101, 120, 116] ∧ ¬ l = [108, 101, 110] ∧ ¬ l = [103, 101, 116, 105, 110, 116] ∧ ¬ l = [103, 101, 116, 115, 116, 114] ∧ ¬ l = [104, 97, 115] ∧ ¬ l = [110, 111, 119] ∧ ¬ l = [114, 97, 110, 100, 111, 109] ∧ ¬ l = [110, 111, 100, 101]) : isKw l = false := by
  unfold isKw KW; rw [decide_eq_false]; simp only [List.mem_cons, List.not_mem_nil, or_false]; simpa [not_or] using h
def ltrI (c : Int) : Bool := decide (97 ≤ c) && decide (c ≤ 122)
theorem ltrI_byte (c : UInt8) : ltrI (c.toNat : Int) = ltr c := by
  unfold ltrI ltr; congr 1 <;> (congr 1; rw [eq_iff_iff]; omega)
theorem wlen_cons (c : UInt8) (r : List UInt8) : wlen (c :: r) = if prt c = true then wlen r + 1 else 0 := by
  unfold wlen; rw [List.takeWhile_cons]; split <;> simp
theorem wl_go {l : List UInt8} {k R : Nat} (h : k + wlen (l.drop k) = R) (hk : k < l.length) (hp : prt l[k] = true) : k + 1 + wlen (l.drop (k + 1)) = R := by
  rw [List.drop_eq_getElem_cons hk, wlen_cons, if_pos hp] at h; omega
theorem wl_stop {l : List UInt8} {k R : Nat} (h : k + wlen (l.drop k) = R) (hk : k < l.length) (hp : ¬ prt l[k] = true) : R = k := by
  rw [List.drop_eq_getElem_cons hk, wlen_cons, if_neg hp] at h; omega
theorem wl_end {l : List UInt8} {k R : Nat} (h : k + wlen (l.drop k) = R) (hk : ¬ k < l.length) : R = k := by
  rw [List.drop_of_length_le (by omega)] at h; simp [wlen] at h; omega

set_option maxRecDepth 100000 in
set_option maxHeartbeats 16000000 in
theorem IsKeyword_any (l : List UInt8) (w : World) :
    Calls Tryz.prog 185 #[.string (bs l)] w fun e w' => e = .returned (.bool (isKw l)) ∧ w = w' := by
  by_cases h0 : l = [112, 114, 111, 99]
  · subst h0
    have hr : isKw [112, 114, 111, 99] = true := by decide
    rw [hr]; clear hr
    go_enter Tryz.func185, Tryz.ntmps185
    go_wp2
    go_ret
    exact ⟨rfl, rfl⟩
  have t0 : (l == [112, 114, 111, 99]) = false := by rw [beq_eq_false_iff_ne]; exact h0
  by_cases h1 : l = [108, 101, 116]
  · subst h1
    have hr : isKw [108, 101, 116] = true := by decide
    rw [hr]; clear hr
    clear h0 t0
    go_enter Tryz.func185, Tryz.ntmps185
    go_wp2
    go_ret
    exact ⟨rfl, rfl⟩
  have t1 : (l == [108, 101, 116]) = false := by rw [beq_eq_false_iff_ne]; exact h1
  by_cases h2 : l = [112, 117, 116]
  · subst h2
    have hr : isKw [112, 117, 116] = true := by decide
    rw [hr]; clear hr
    clear h0 h1 t0 t1
    go_enter Tryz.func185, Tryz.ntmps185
    go_wp2
    go_ret
    exact ⟨rfl, rfl⟩
  have t2 : (l == [112, 117, 116]) = false := by rw [beq_eq_false_iff_ne]; exact h2
  by_cases h3 : l = [100, 101, 108, 101, 116, 101]
  · subst h3
    have hr : isKw [100, 101, 108, 101, 116, 101] = true := by decide
    rw [hr]; clear hr
    clear h0 h1 h2 t0 t1 t2
    go_enter Tryz.func185, Tryz.ntmps185
    go_wp2
    go_ret
    exact ⟨rfl, rfl⟩
  have t3 : (l == [100, 101, 108, 101, 116, 101]) = false := by rw [beq_eq_false_iff_ne]; exact h3
  by_cases h4 : l = [105, 102]
  · subst h4
    have hr : isKw [105, 102] = true := by decide
    rw [hr]; clear hr
    clear h0 h1 h2 h3 t0 t1 t2 t3
    go_enter Tryz.func185, Tryz.ntmps185
    go_wp2
    go_ret
    exact ⟨rfl, rfl⟩
  have t4 : (l == [105, 102]) = false := by rw [beq_eq_false_iff_ne]; exact h4
  by_cases h5 : l = [101, 108, 115, 101]
  · subst h5
    have hr : isKw [101, 108, 115, 101] = true := by decide
    rw [hr]; clear hr
    clear h0 h1 h2 h3 h4 t0 t1 t2 t3 t4
    go_enter Tryz.func185, Tryz.ntmps185
    go_wp2
    go_ret
    exact ⟨rfl, rfl⟩
  have t5 : (l == [101, 108, 115, 101]) = false := by rw [beq_eq_false_iff_ne]; exact h5
  by_cases h6 : l = [102, 111, 114]
  · subst h6
    have hr : isKw [102, 111, 114] = true := by decide
    rw [hr]; clear hr
    clear h0 h1 h2 h3 h4 h5 t0 t1 t2 t3 t4 t5
    go_enter Tryz.func185, Tryz.ntmps185
    go_wp2
    go_ret
    exact ⟨rfl, rfl⟩
  have t6 : (l == [102, 111, 114]) = false := by rw [beq_eq_false_iff_ne]; exact h6
  by_cases h7 : l = [116, 111]
  · subst h7
    have hr : isKw [116, 111] = true := by decide
    rw [hr]; clear hr
    clear h0 h1 h2 h3 h4 h5 h6 t0 t1 t2 t3 t4 t5 t6
    go_enter Tryz.func185, Tryz.ntmps185
    go_wp2
    go_ret
    exact ⟨rfl, rfl⟩
  have t7 : (l == [116, 111]) = false := by rw [beq_eq_false_iff_ne]; exact h7
  by_cases h8 : l = [109, 97, 120]
  · subst h8
    have hr : isKw [109, 97, 120] = true := by decide
    rw [hr]; clear hr
    clear h0 h1 h2 h3 h4 h5 h6 h7 t0 t1 t2 t3 t4 t5 t6 t7
    go_enter Tryz.func185, Tryz.ntmps185
    go_wp2
    go_ret
    exact ⟨rfl, rfl⟩
  have t8 : (l == [109, 97, 120]) = false := by rw [beq_eq_false_iff_ne]; exact h8
  by_cases h9 : l = [101, 109, 105, 116]
  · subst h9
    have hr : isKw [101, 109, 105, 116] = true := by decide
    rw [hr]; clear hr
    clear h0 h1 h2 h3 h4 h5 h6 h7 h8 t0 t1 t2 t3 t4 t5 t6 t7 t8
    go_enter Tryz.func185, Tryz.ntmps185
    go_wp2
    go_ret
    exact ⟨rfl, rfl⟩
  have t9 : (l == [101, 109, 105, 116]) = false := by rw [beq_eq_false_iff_ne]; exact h9
  by_cases h10 : l = [97, 98, 111, 114, 116]
  · subst h10
    have hr : isKw [97, 98, 111, 114, 116] = true := by decide
    rw [hr]; clear hr
    clear h0 h1 h2 h3 h4 h5 h6 h7 h8 h9 t0 t1 t2 t3 t4 t5 t6 t7 t8 t9
    go_enter Tryz.func185, Tryz.ntmps185
    go_wp2
    go_ret
    exact ⟨rfl, rfl⟩
  have t10 : (l == [97, 98, 111, 114, 116]) = false := by rw [beq_eq_false_iff_ne]; exact h10
  by_cases h11 : l = [110, 111, 116]
  · subst h11
    have hr : isKw [110, 111, 116] = true := by decide
    rw [hr]; clear hr
    clear h0 h1 h2 h3 h4 h5 h6 h7 h8 h9 h10 t0 t1 t2 t3 t4 t5 t6 t7 t8 t9 t10
    go_enter Tryz.func185, Tryz.ntmps185
    go_wp2
    go_ret
    exact ⟨rfl, rfl⟩
  have t11 : (l == [110, 111, 116]) = false := by rw [beq_eq_false_iff_ne]; exact h11
  by_cases h12 : l = [97, 110, 100]
  · subst h12
    have hr : isKw [97, 110, 100] = true := by decide
    rw [hr]; clear hr
    clear h0 h1 h2 h3 h4 h5 h6 h7 h8 h9 h10 h11 t0 t1 t2 t3 t4 t5 t6 t7 t8 t9 t10 t11
    go_enter Tryz.func185, Tryz.ntmps185
    go_wp2
    go_ret
    exact ⟨rfl, rfl⟩
  have t12 : (l == [97, 110, 100]) = false := by rw [beq_eq_false_iff_ne]; exact h12
  by_cases h13 : l = [111, 114]
  · subst h13
    have hr : isKw [111, 114] = true := by decide
    rw [hr]; clear hr
    clear h0 h1 h2 h3 h4 h5 h6 h7 h8 h9 h10 h11 h12 t0 t1 t2 t3 t4 t5 t6 t7 t8 t9 t10 t11 t12
    go_enter Tryz.func185, Tryz.ntmps185
    go_wp2
    go_ret
    exact ⟨rfl, rfl⟩
  have t13 : (l == [111, 114]) = false := by rw [beq_eq_false_iff_ne]; exact h13
  by_cases h14 : l = [105, 110, 116]
  · subst h14
    have hr : isKw [105, 110, 116] = true := by decide
    rw [hr]; clear hr
    clear h0 h1 h2 h3 h4 h5 h6 h7 h8 h9 h10 h11 h12 h13 t0 t1 t2 t3 t4 t5 t6 t7 t8 t9 t10 t11 t12 t13
    go_enter Tryz.func185, Tryz.ntmps185
    go_wp2
    go_ret
    exact ⟨rfl, rfl⟩
  have t14 : (l == [105, 110, 116]) = false := by rw [beq_eq_false_iff_ne]; exact h14
  by_cases h15 : l = [115, 116, 114]
  · subst h15
    have hr : isKw [115, 116, 114] = true := by decide
    rw [hr]; clear hr
    clear h0 h1 h2 h3 h4 h5 h6 h7 h8 h9 h10 h11 h12 h13 h14 t0 t1 t2 t3 t4 t5 t6 t7 t8 t9 t10 t11 t12 t13 t14
    go_enter Tryz.func185, Tryz.ntmps185
    go_wp2
    go_ret
    exact ⟨rfl, rfl⟩
  have t15 : (l == [115, 116, 114]) = false := by rw [beq_eq_false_iff_ne]; exact h15
  by_cases h16 : l = [98, 111, 111, 108]
  · subst h16
    have hr : isKw [98, 111, 111, 108] = true := by decide
    rw [hr]; clear hr
    clear h0 h1 h2 h3 h4 h5 h6 h7 h8 h9 h10 h11 h12 h13 h14 h15 t0 t1 t2 t3 t4 t5 t6 t7 t8 t9 t10 t11 t12 t13 t14 t15
    go_enter Tryz.func185, Tryz.ntmps185
    go_wp2
    go_ret
    exact ⟨rfl, rfl⟩
  have t16 : (l == [98, 111, 111, 108]) = false := by rw [beq_eq_false_iff_ne]; exact h16
  by_cases h17 : l = [116, 101, 120, 116]
  · subst h17
    have hr : isKw [116, 101, 120, 116] = true := by decide
    rw [hr]; clear hr
    clear h0 h1 h2 h3 h4 h5 h6 h7 h8 h9 h10 h11 h12 h13 h14 h15 h16 t0 t1 t2 t3 t4 t5 t6 t7 t8 t9 t10 t11 t12 t13 t14 t15 t16
    go_enter Tryz.func185, Tryz.ntmps185
    go_wp2
    go_ret
    exact ⟨rfl, rfl⟩
  have t17 : (l == [116, 101, 120, 116]) = false := by rw [beq_eq_false_iff_ne]; exact h17
  by_cases h18 : l = [108, 101, 110]
  · subst h18
    have hr : isKw [108, 101, 110] = true := by decide
    rw [hr]; clear hr
    clear h0 h1 h2 h3 h4 h5 h6 h7 h8 h9 h10 h11 h12 h13 h14 h15 h16 h17 t0 t1 t2 t3 t4 t5 t6 t7 t8 t9 t10 t11 t12 t13 t14 t15 t16 t17
    go_enter Tryz.func185, Tryz.ntmps185
    go_wp2
    go_ret
    exact ⟨rfl, rfl⟩
  have t18 : (l == [108, 101, 110]) = false := by rw [beq_eq_false_iff_ne]; exact h18
  by_cases h19 : l = [103, 101, 116, 105, 110, 116]
  · subst h19
    have hr : isKw [103, 101, 116, 105, 110, 116] = true := by decide
    rw [hr]; clear hr
    clear h0 h1 h2 h3 h4 h5 h6 h7 h8 h9 h10 h11 h12 h13 h14 h15 h16 h17 h18 t0 t1 t2 t3 t4 t5 t6 t7 t8 t9 t10 t11 t12 t13 t14 t15 t16 t17 t18
    go_enter Tryz.func185, Tryz.ntmps185
    go_wp2
    go_ret
    exact ⟨rfl, rfl⟩
  have t19 : (l == [103, 101, 116, 105, 110, 116]) = false := by rw [beq_eq_false_iff_ne]; exact h19
  by_cases h20 : l = [103, 101, 116, 115, 116, 114]
  · subst h20
    have hr : isKw [103, 101, 116, 115, 116, 114] = true := by decide
    rw [hr]; clear hr
    clear h0 h1 h2 h3 h4 h5 h6 h7 h8 h9 h10 h11 h12 h13 h14 h15 h16 h17 h18 h19 t0 t1 t2 t3 t4 t5 t6 t7 t8 t9 t10 t11 t12 t13 t14 t15 t16 t17 t18 t19
    go_enter Tryz.func185, Tryz.ntmps185
    go_wp2
    go_ret
    exact ⟨rfl, rfl⟩
  have t20 : (l == [103, 101, 116, 115, 116, 114]) = false := by rw [beq_eq_false_iff_ne]; exact h20
  by_cases h21 : l = [104, 97, 115]
  · subst h21
    have hr : isKw [104, 97, 115] = true := by decide
    rw [hr]; clear hr
    clear h0 h1 h2 h3 h4 h5 h6 h7 h8 h9 h10 h11 h12 h13 h14 h15 h16 h17 h18 h19 h20 t0 t1 t2 t3 t4 t5 t6 t7 t8 t9 t10 t11 t12 t13 t14 t15 t16 t17 t18 t19 t20
    go_enter Tryz.func185, Tryz.ntmps185
    go_wp2
    go_ret
    exact ⟨rfl, rfl⟩
  have t21 : (l == [104, 97, 115]) = false := by rw [beq_eq_false_iff_ne]; exact h21
  by_cases h22 : l = [110, 111, 119]
  · subst h22
    have hr : isKw [110, 111, 119] = true := by decide
    rw [hr]; clear hr
    clear h0 h1 h2 h3 h4 h5 h6 h7 h8 h9 h10 h11 h12 h13 h14 h15 h16 h17 h18 h19 h20 h21 t0 t1 t2 t3 t4 t5 t6 t7 t8 t9 t10 t11 t12 t13 t14 t15 t16 t17 t18 t19 t20 t21
    go_enter Tryz.func185, Tryz.ntmps185
    go_wp2
    go_ret
    exact ⟨rfl, rfl⟩
  have t22 : (l == [110, 111, 119]) = false := by rw [beq_eq_false_iff_ne]; exact h22
  by_cases h23 : l = [114, 97, 110, 100, 111, 109]
  · subst h23
    have hr : isKw [114, 97, 110, 100, 111, 109] = true := by decide
    rw [hr]; clear hr
    clear h0 h1 h2 h3 h4 h5 h6 h7 h8 h9 h10 h11 h12 h13 h14 h15 h16 h17 h18 h19 h20 h21 h22 t0 t1 t2 t3 t4 t5 t6 t7 t8 t9 t10 t11 t12 t13 t14 t15 t16 t17 t18 t19 t20 t21 t22
    go_enter Tryz.func185, Tryz.ntmps185
    go_wp2
    go_ret
    exact ⟨rfl, rfl⟩
  have t23 : (l == [114, 97, 110, 100, 111, 109]) = false := by rw [beq_eq_false_iff_ne]; exact h23
  by_cases h24 : l = [110, 111, 100, 101]
  · subst h24
    have hr : isKw [110, 111, 100, 101] = true := by decide
    rw [hr]; clear hr
    clear h0 h1 h2 h3 h4 h5 h6 h7 h8 h9 h10 h11 h12 h13 h14 h15 h16 h17 h18 h19 h20 h21 h22 h23 t0 t1 t2 t3 t4 t5 t6 t7 t8 t9 t10 t11 t12 t13 t14 t15 t16 t17 t18 t19 t20 t21 t22 t23
    go_enter Tryz.func185, Tryz.ntmps185
    go_wp2
    go_ret
    exact ⟨rfl, rfl⟩
  have t24 : (l == [110, 111, 100, 101]) = false := by rw [beq_eq_false_iff_ne]; exact h24
  have hr := kw_no ⟨h0, h1, h2, h3, h4, h5, h6, h7, h8, h9, h10, h11, h12, h13, h14, h15, h16, h17, h18, h19, h20, h21, h22, h23, h24⟩
  rw [hr]; clear hr h0 h1 h2 h3 h4 h5 h6 h7 h8 h9 h10 h11 h12 h13 h14 h15 h16 h17 h18 h19 h20 h21 h22 h23 h24
  go_enter Tryz.func185, Tryz.ntmps185
  go_wp2
  go_ret
  exact ⟨rfl, rfl⟩
set_option maxRecDepth 100000 in
set_option maxHeartbeats 4000000 in
theorem letter_any (c : Int) (w : World) :
    Calls Tryz.prog 183 #[.int .i32 c] w fun e w' => e = .returned (.bool (ltrI c)) ∧ w = w' := by
  by_cases h1 : 97 ≤ c
  · by_cases h2 : c ≤ 122
    · have hr : ltrI c = true := by unfold ltrI; rw [decide_eq_true (by omega), decide_eq_true (by omega)]; rfl
      rw [hr]; clear hr
      go_enter Tryz.func183, Tryz.ntmps183
      go_wp2
      go_ret
      exact ⟨rfl, rfl⟩
    · have hr : ltrI c = false := by unfold ltrI; rw [decide_eq_true (by omega), decide_eq_false (by omega)]; rfl
      rw [hr]; clear hr
      go_enter Tryz.func183, Tryz.ntmps183
      go_wp2
      go_ret
      exact ⟨rfl, rfl⟩
  · have hr : ltrI c = false := by unfold ltrI; rw [decide_eq_false (by omega)]; rfl
    rw [hr]; clear hr
    go_enter Tryz.func183, Tryz.ntmps183
    go_wp2
    go_ret
    exact ⟨rfl, rfl⟩
set_option maxRecDepth 100000 in
set_option maxHeartbeats 8000000 in
theorem word_any (l : List UInt8) (w : World) :
    Calls Tryz.prog 184 #[.string (bs l)] w fun e w' => e = .returned (.int .i64 ((wlen l : Nat) : Int)) ∧ Below w.heap.size w w' := by
  obtain ⟨R, hR⟩ : ∃ R, wlen l = R := ⟨_, rfl⟩
  rw [hR]
  have HR := Lib.hid (show 0 + wlen (l.drop 0) = R by rw [List.drop_zero, hR, Nat.zero_add]); clear hR
  go_enter Tryz.func184, Tryz.ntmps184
  go_wp2
  go_loopw [] (fun wr => ∃ k : Nat, k ≤ l.length ∧ wr = w.iter (bs l) k ∧ k + wlen (l.drop k) = R) (fun wr => l.length - wr.iterPos w.heap.size)
  case atStart => exact ⟨0, Nat.zero_le _, rfl, HR.out⟩
  case round =>
    obtain ⟨k, hk, rfl, hR⟩ := hrel
    clear HR
    have HR := Lib.hid hR; clear hR
    by_cases hlt : k < l.length
    · by_cases ha : l[k].toNat < 128
      · have hnx : ∀ ty, (Instr.next (.pointer (some ⟨w.heap.size, 0, none⟩)) true ty).run Tryz.prog (w.iter (bs l) k) = .ok (.tuple #[.bool true, .int .i64 (k : Int), .int .i32 (l[k].toNat : Int)]) (w.iter (bs l) (k + 1)) := fun ty => run_next_ascii w (bs l) k ty (by rw [bs_size]; exact hlt) ha
        by_cases h1 : ltr l[k] = true
        · have H1 := Lib.hid ((ltrI_byte l[k]).trans h1)
          have hp : prt l[k] = true := by unfold prt; rw [h1]; rfl
          have HN := Lib.hid (wl_go HR.out hlt hp); clear hp
          clear h1
          go_wp2_with fail
          refine (letter_any _ _).mono ?_
          rw [H1.out]
          rintro er w1 ⟨rfl, rfl⟩
          go_wp2
          go_roundw
          case rel => exact ⟨k + 1, by omega, rfl, HN.out⟩
          case measure => simp; omega
        have h1f : ltr l[k] = false := by rw [Bool.eq_false_iff]; exact h1
        have H1 := Lib.hid ((ltrI_byte l[k]).trans h1f)
        have hno : ¬ (97 ≤ l[k].toNat ∧ l[k].toNat ≤ 122) := fun h => h1 ((ltr_iff _).2 h)
        clear h1 h1f
        by_cases h2 : (l[k].toNat : Int) < 48
        · have t95 : ((l[k].toNat : Int) != 95) = true := by rw [bne_iff_ne]; omega
          have HS := Lib.hid (wl_stop HR.out hlt (by rw [prt_iff]; omega)); clear hno
          go_wp2_with fail
          refine (letter_any _ _).mono ?_
          rw [H1.out]
          rintro er w1 ⟨rfl, rfl⟩
          go_wp2
          go_ret
          exact ⟨by rw [HS.out] <;> rfl, (Below.refl _ _).alloc (Nat.le_refl _) _⟩
        by_cases h3 : (57 : Int) < (l[k].toNat : Int)
        · by_cases h4 : (l[k].toNat : Int) = 95
          · have t95 : ((l[k].toNat : Int) != 95) = false := by rw [h4]; rfl
            have hp : prt l[k] = true := by rw [prt_iff]; omega
            have HN := Lib.hid (wl_go HR.out hlt hp); clear hp
            have H4 := Lib.hid h4; clear h4 hno
            go_wp2_with fail
            refine (letter_any _ _).mono ?_
            rw [H1.out]
            rintro er w1 ⟨rfl, rfl⟩
            go_wp2
            go_roundw
            case rel => exact ⟨k + 1, by omega, rfl, HN.out⟩
            case measure => simp; omega
          have t95 : ((l[k].toNat : Int) != 95) = true := by rw [bne_iff_ne]; exact h4
          have HS := Lib.hid (wl_stop HR.out hlt (by rw [prt_iff]; omega)); clear hno h4
          go_wp2_with fail
          refine (letter_any _ _).mono ?_
          rw [H1.out]
          rintro er w1 ⟨rfl, rfl⟩
          go_wp2
          go_ret
          exact ⟨by rw [HS.out] <;> rfl, (Below.refl _ _).alloc (Nat.le_refl _) _⟩
        have hp : prt l[k] = true := by rw [prt_iff]; omega
        have HN := Lib.hid (wl_go HR.out hlt hp); clear hp
        clear hno
        go_wp2_with fail
        refine (letter_any _ _).mono ?_
        rw [H1.out]
        rintro er w1 ⟨rfl, rfl⟩
        go_wp2
        go_roundw
        case rel => exact ⟨k + 1, by omega, rfl, HN.out⟩
        case measure => simp; omega
      · obtain ⟨c, hc⟩ : ∃ c, (Utf8.decode (bs l) k).1 = c := ⟨_, rfl⟩
        have hsz : k < (bs l).size := by rw [bs_size]; exact hlt
        have hd := decode_high (bs l) k hsz (by show 128 ≤ l[k].toNat; omega)
        have hd2 := decode_le (bs l) k
        rw [hc] at hd hd2
        obtain ⟨q, hq⟩ : ∃ q, k + (Utf8.decode (bs l) k).2 = q := ⟨_, rfl⟩
        have hnx : ∀ ty, (Instr.next (.pointer (some ⟨w.heap.size, 0, none⟩)) true ty).run Tryz.prog (w.iter (bs l) k) = .ok (.tuple #[.bool true, .int .i64 (k : Int), .int .i32 (c : Int)]) (w.iter (bs l) q) := fun ty => by rw [run_next_any w (bs l) k ty hsz, hc, hq]
        have H1 := Lib.hid (show ltrI (c : Int) = false by unfold ltrI; rw [decide_eq_false (p := (c : Int) ≤ 122) (by omega)]; simp)
        have g1 : ¬ (c : Int) < 48 := by omega
        have g2 : (57 : Int) < (c : Int) := by omega
        have t95 : ((c : Int) != 95) = true := by rw [bne_iff_ne]; omega
        have HS := Lib.hid (wl_stop HR.out hlt (by rw [prt_iff]; omega))
        clear hc hq hd hd2
        go_wp2_with fail
        refine (letter_any _ _).mono ?_
        rw [H1.out]
        rintro er w1 ⟨rfl, rfl⟩
        go_wp2
        go_ret
        exact ⟨by rw [HS.out] <;> rfl, (Below.refl _ _).alloc (Nat.le_refl _) _⟩
    · have hnx : ∀ ty, (Instr.next (.pointer (some ⟨w.heap.size, 0, none⟩)) true ty).run Tryz.prog (w.iter (bs l) k) = .ok (.tuple #[.bool false]) (w.iter (bs l) k) := fun ty => run_next_end w (bs l) k ty (by rw [bs_size]; exact hlt)
      have hR := wl_end HR.out hlt
      have hkl : k = l.length := by omega
      have HS := Lib.hid (hR.trans hkl)
      clear hR hkl
      go_wp2
      go_ret
      exact ⟨by rw [HS.out] <;> rfl, (Below.refl _ _).alloc (Nat.le_refl _) _⟩
end Go.Proofs.YtnglaegofhpleaaGreatDoor
namespace Go.Proofs.YtnglaegofhpleaaGreatDoor
open Go.RowKit

theorem isNm_eq (l : List UInt8) (h : 0 < l.length) : isNm l = (decide (l.length ≤ 16) && (ltr l[0] && (decide (wlen l = l.length) && !isKw l))) := by
  cases l with
  | nil => simp at h
  | cons c r => rfl
/-- the marks of two bytes, and those of one -/
def M2 : List (List UInt8) := [[61, 61], [33, 61], [60, 61], [62, 61], [43, 43]]
def M1 : List UInt8 := [40, 41, 123, 125, 44, 59, 58, 61, 60, 62, 43, 45, 42, 47, 37]
set_option maxRecDepth 100000 in
set_option maxHeartbeats 8000000 in
theorem IsName_any (l : List UInt8) (hl : l.length ≤ 1000000) (w : World) :
    Calls Tryz.prog 171 #[.string (bs l)] w fun e w' => e = .returned (.bool (isNm l)) ∧ Below w.heap.size w w' := by
  by_cases h0 : 0 < l.length
  rotate_left
  · have : l = [] := List.eq_nil_of_length_eq_zero (by omega)
    subst this
    have hr : isNm [] = false := rfl
    rw [hr]; clear hr
    go_enter Tryz.func171, Tryz.ntmps171
    go_wp2
    go_ret
    exact ⟨rfl, Below.refl _ _⟩
  rw [isNm_eq l h0]
  have h0i : (1 : Int) ≤ (l.length : Int) := by omega
  have e0 : l.isEmpty = false := by cases l with | nil => simp at h0 | cons c r => rfl
  have hc0 : IntKind.i32.wrap (l[0].toNat : Int) = (l[0].toNat : Int) := by have := l[0].toNat_lt; simp only [IntKind.wrap, IntKind.signed, IntKind.bits]; simp; omega
  by_cases h16 : l.length ≤ 16
  rotate_left
  · have hr : (decide (l.length ≤ 16) && (ltr l[0] && (decide (wlen l = l.length) && !isKw l))) = false := by rw [decide_eq_false h16]; rfl
    rw [hr]; clear hr
    have h16' : ¬ (l.length : Int) ≤ 16 := by omega
    go_enter Tryz.func171, Tryz.ntmps171
    go_wp2
    go_ret
    exact ⟨rfl, Below.refl _ _⟩
  have h16' : (l.length : Int) ≤ 16 := by omega
  rw [decide_eq_true h16, Bool.true_and]
  cases h1 : ltr l[0] with
  | false =>
    have H1 := Lib.hid ((ltrI_byte l[0]).trans h1); clear h1
    go_enter Tryz.func171, Tryz.ntmps171
    go_wp2_with fail
    refine (letter_any _ _).mono ?_
    rw [H1.out]
    rintro er w1 ⟨rfl, rfl⟩
    go_wp2
    go_ret
    exact ⟨rfl, Below.refl _ _⟩
  | true =>
    have H1 := Lib.hid ((ltrI_byte l[0]).trans h1); clear h1
    obtain ⟨m, hm⟩ : ∃ m, wlen l = m := ⟨_, rfl⟩
    rw [hm, Bool.true_and]
    by_cases he : m = l.length
    rotate_left
    · have te : ((m : Int) == (l.length : Int)) = false := by rw [beq_eq_false_iff_ne]; omega
      have hr : (decide (m = l.length) && !isKw l) = false := by rw [decide_eq_false he]; rfl
      rw [hr]; have HM := Lib.hid hm; have HE := Lib.hid he; clear hr hm he
      go_enter Tryz.func171, Tryz.ntmps171
      go_wp2_with fail
      refine (letter_any _ _).mono ?_
      rw [H1.out]
      rintro er w1 ⟨rfl, rfl⟩
      go_wp2_with fail
      refine (word_any l _).mono ?_
      rw [HM.out]
      rintro er w2 ⟨rfl, hb1⟩
      go_wp2
      go_ret
      exact ⟨rfl, hb1⟩
    have te : ((m : Int) == (l.length : Int)) = true := by rw [beq_iff_eq]; omega
    obtain ⟨b, hb⟩ : ∃ b, isKw l = b := ⟨_, rfl⟩
    have hr : (decide (m = l.length) && !isKw l) = !b := by rw [decide_eq_true he, hb]; rfl
    rw [hr]; have HM := Lib.hid hm; have HE := Lib.hid he; have HK := Lib.hid hb; clear hr hm he hb
    go_enter Tryz.func171, Tryz.ntmps171
    go_wp2_with fail
    refine (letter_any _ _).mono ?_
    rw [H1.out]
    rintro er w1 ⟨rfl, rfl⟩
    go_wp2_with fail
    refine (word_any l _).mono ?_
    rw [HM.out]
    rintro er w2 ⟨rfl, hb1⟩
    go_wp2_with fail
    refine (IsKeyword_any l _).mono ?_
    rw [HK.out]
    rintro er w3 ⟨rfl, rfl⟩
    go_wp2
    go_ret
    exact ⟨rfl, hb1⟩
end Go.Proofs.YtnglaegofhpleaaGreatDoor
namespace Go.Proofs.YtnglaegofhpleaaGreatDoor
open Go.RowKit

set_option maxRecDepth 100000 in
set_option maxHeartbeats 4000000 in
theorem Arity_any (op : Int) (w : World) :
    Calls Tryz.prog 49 #[.int .i64 op] w fun e w' => e = .returned (.int .i64 (arS op)) ∧ w' = w := by
  by_cases h1 : op < 1
  · skip
    have hr : arS op = -1 := by unfold arS; rw [if_pos (.inl h1)]
    rw [hr]; clear hr
    go_enter Tryz.func49, Tryz.ntmps49
    go_wp2
    go_ret
    exact ⟨rfl, rfl⟩
  by_cases h2 : 27 < op
  · skip
    have hr : arS op = -1 := by unfold arS; rw [if_pos (.inr h2)]
    rw [hr]; clear hr
    go_enter Tryz.func49, Tryz.ntmps49
    go_wp2
    go_ret
    exact ⟨rfl, rfl⟩
  by_cases h3 : op ≤ 3
  · skip
    have hr : arS op = 0 := by unfold arS; rw [if_neg (by omega), if_pos (.inl h3)]
    rw [hr]; clear hr
    go_enter Tryz.func49, Tryz.ntmps49
    go_wp2
    go_ret
    exact ⟨rfl, rfl⟩
  by_cases h4 : 25 ≤ op
  · skip
    have hr : arS op = 0 := by unfold arS; rw [if_neg (by omega), if_pos (.inr h4)]
    rw [hr]; clear hr
    go_enter Tryz.func49, Tryz.ntmps49
    go_wp2
    go_ret
    exact ⟨rfl, rfl⟩
  by_cases h5 : op = 9
  · subst h5
    have hr : arS 9 = 1 := by rfl
    rw [hr]; clear hr
    go_enter Tryz.func49, Tryz.ntmps49
    go_wp2
    go_ret
    exact ⟨rfl, rfl⟩
  by_cases h6 : op = 18
  · subst h6
    have hr : arS 18 = 1 := by rfl
    rw [hr]; clear hr
    go_enter Tryz.func49, Tryz.ntmps49
    go_wp2
    go_ret
    exact ⟨rfl, rfl⟩
  have t5 : (op == 9) = false := by rw [beq_eq_false_iff_ne]; exact h5
  have t6 : (op == 18) = false := by rw [beq_eq_false_iff_ne]; exact h6
  by_cases h7 : 20 ≤ op
  · skip
    have hr : arS op = 1 := by unfold arS; rw [if_neg (by omega), if_neg (by omega), if_pos (.inr (.inr h7))]
    rw [hr]; clear hr
    go_enter Tryz.func49, Tryz.ntmps49
    go_wp2
    go_ret
    exact ⟨rfl, rfl⟩
  have hr : arS op = 2 := by unfold arS; rw [if_neg (by omega), if_neg (by omega), if_neg (by omega)]
  rw [hr]; clear hr
  go_enter Tryz.func49, Tryz.ntmps49
  go_wp2
  go_ret
  exact ⟨rfl, rfl⟩
set_option maxRecDepth 100000 in
set_option maxHeartbeats 8000000 in
theorem takes_any (x : Ins) (w : World) :
    Calls Tryz.prog 50 #[.agg (insV x)] w fun e w' => e = .returned (.int .i64 (takeI x)) ∧ Below w.heap.size w w' := by
  obtain ⟨op, a, b, n, s⟩ := x
  simp only [insV]
  by_cases e4 : op = 4
  · subst e4
    have hr : takeI ⟨4, a, b, n, s⟩ = 1 := by rfl
    rw [hr]; clear hr
    have hb0 := ((Below.refl w.heap.size w).alloc (Nat.le_refl _) (.cells #[.int .i64 4, .int .i64 a, .int .i64 b, .int .i64 n, .string (bs s)] 45))
    have h_HX := (Bx.new w #[.int .i64 4, .int .i64 a, .int .i64 b, .int .i64 n, .string (bs s)] 45)
    have HB := Lib.hid hb0; have HX := Lib.hid h_HX
    clear hb0 h_HX
    go_enter Tryz.func50, Tryz.ntmps50
    go_upto_region 1 with (fail)
    generalize hW0 : w.alloc (.cells #[.int .i64 4, .int .i64 a, .int .i64 b, .int .i64 n, .string (bs s)] 45) = v0 at HB HX ⊢
    clear hW0
    have x0 : v0.cell? ⟨w.heap.size, 0, none⟩ = some (.int .i64 4) := HX.out.cell 0
    have x1 : v0.cell? ⟨w.heap.size, 1, none⟩ = some (.int .i64 a) := HX.out.cell 1
    have x2 : v0.cell? ⟨w.heap.size, 2, none⟩ = some (.int .i64 b) := HX.out.cell 2
    have x3 : v0.cell? ⟨w.heap.size, 3, none⟩ = some (.int .i64 n) := HX.out.cell 3
    have x4 : v0.cell? ⟨w.heap.size, 4, none⟩ = some (.string (bs s)) := HX.out.cell 4
    go_wp2
    go_ret
    exact ⟨rfl, HB.out⟩
  have t4 : (op == 4) = false := by rw [beq_eq_false_iff_ne]; exact e4
  by_cases e7 : op = 7
  · subst e7
    have hr : takeI ⟨7, a, b, n, s⟩ = 1 := by rfl
    rw [hr]; clear hr
    have hb0 := ((Below.refl w.heap.size w).alloc (Nat.le_refl _) (.cells #[.int .i64 7, .int .i64 a, .int .i64 b, .int .i64 n, .string (bs s)] 45))
    have h_HX := (Bx.new w #[.int .i64 7, .int .i64 a, .int .i64 b, .int .i64 n, .string (bs s)] 45)
    have HB := Lib.hid hb0; have HX := Lib.hid h_HX
    clear hb0 h_HX
    go_enter Tryz.func50, Tryz.ntmps50
    go_upto_region 1 with (fail)
    generalize hW0 : w.alloc (.cells #[.int .i64 7, .int .i64 a, .int .i64 b, .int .i64 n, .string (bs s)] 45) = v0 at HB HX ⊢
    clear hW0
    have x0 : v0.cell? ⟨w.heap.size, 0, none⟩ = some (.int .i64 7) := HX.out.cell 0
    have x1 : v0.cell? ⟨w.heap.size, 1, none⟩ = some (.int .i64 a) := HX.out.cell 1
    have x2 : v0.cell? ⟨w.heap.size, 2, none⟩ = some (.int .i64 b) := HX.out.cell 2
    have x3 : v0.cell? ⟨w.heap.size, 3, none⟩ = some (.int .i64 n) := HX.out.cell 3
    have x4 : v0.cell? ⟨w.heap.size, 4, none⟩ = some (.string (bs s)) := HX.out.cell 4
    go_wp2
    go_ret
    exact ⟨rfl, HB.out⟩
  have t7 : (op == 7) = false := by rw [beq_eq_false_iff_ne]; exact e7
  by_cases e9 : op = 9
  · subst e9
    have hr : takeI ⟨9, a, b, n, s⟩ = 1 := by rfl
    rw [hr]; clear hr
    have hb0 := ((Below.refl w.heap.size w).alloc (Nat.le_refl _) (.cells #[.int .i64 9, .int .i64 a, .int .i64 b, .int .i64 n, .string (bs s)] 45))
    have h_HX := (Bx.new w #[.int .i64 9, .int .i64 a, .int .i64 b, .int .i64 n, .string (bs s)] 45)
    have HB := Lib.hid hb0; have HX := Lib.hid h_HX
    clear hb0 h_HX
    go_enter Tryz.func50, Tryz.ntmps50
    go_upto_region 1 with (fail)
    generalize hW0 : w.alloc (.cells #[.int .i64 9, .int .i64 a, .int .i64 b, .int .i64 n, .string (bs s)] 45) = v0 at HB HX ⊢
    clear hW0
    have x0 : v0.cell? ⟨w.heap.size, 0, none⟩ = some (.int .i64 9) := HX.out.cell 0
    have x1 : v0.cell? ⟨w.heap.size, 1, none⟩ = some (.int .i64 a) := HX.out.cell 1
    have x2 : v0.cell? ⟨w.heap.size, 2, none⟩ = some (.int .i64 b) := HX.out.cell 2
    have x3 : v0.cell? ⟨w.heap.size, 3, none⟩ = some (.int .i64 n) := HX.out.cell 3
    have x4 : v0.cell? ⟨w.heap.size, 4, none⟩ = some (.string (bs s)) := HX.out.cell 4
    go_wp2
    go_ret
    exact ⟨rfl, HB.out⟩
  have t9 : (op == 9) = false := by rw [beq_eq_false_iff_ne]; exact e9
  by_cases e10 : op = 10
  · subst e10
    have hr : takeI ⟨10, a, b, n, s⟩ = 1 := by rfl
    rw [hr]; clear hr
    have hb0 := ((Below.refl w.heap.size w).alloc (Nat.le_refl _) (.cells #[.int .i64 10, .int .i64 a, .int .i64 b, .int .i64 n, .string (bs s)] 45))
    have h_HX := (Bx.new w #[.int .i64 10, .int .i64 a, .int .i64 b, .int .i64 n, .string (bs s)] 45)
    have HB := Lib.hid hb0; have HX := Lib.hid h_HX
    clear hb0 h_HX
    go_enter Tryz.func50, Tryz.ntmps50
    go_upto_region 1 with (fail)
    generalize hW0 : w.alloc (.cells #[.int .i64 10, .int .i64 a, .int .i64 b, .int .i64 n, .string (bs s)] 45) = v0 at HB HX ⊢
    clear hW0
    have x0 : v0.cell? ⟨w.heap.size, 0, none⟩ = some (.int .i64 10) := HX.out.cell 0
    have x1 : v0.cell? ⟨w.heap.size, 1, none⟩ = some (.int .i64 a) := HX.out.cell 1
    have x2 : v0.cell? ⟨w.heap.size, 2, none⟩ = some (.int .i64 b) := HX.out.cell 2
    have x3 : v0.cell? ⟨w.heap.size, 3, none⟩ = some (.int .i64 n) := HX.out.cell 3
    have x4 : v0.cell? ⟨w.heap.size, 4, none⟩ = some (.string (bs s)) := HX.out.cell 4
    go_wp2
    go_ret
    exact ⟨rfl, HB.out⟩
  have t10 : (op == 10) = false := by rw [beq_eq_false_iff_ne]; exact e10
  by_cases e8 : op = 8
  · subst e8
    have hr : takeI ⟨8, a, b, n, s⟩ = 2 := by rfl
    rw [hr]; clear hr
    have hb0 := ((Below.refl w.heap.size w).alloc (Nat.le_refl _) (.cells #[.int .i64 8, .int .i64 a, .int .i64 b, .int .i64 n, .string (bs s)] 45))
    have h_HX := (Bx.new w #[.int .i64 8, .int .i64 a, .int .i64 b, .int .i64 n, .string (bs s)] 45)
    have HB := Lib.hid hb0; have HX := Lib.hid h_HX
    clear hb0 h_HX
    go_enter Tryz.func50, Tryz.ntmps50
    go_upto_region 1 with (fail)
    generalize hW0 : w.alloc (.cells #[.int .i64 8, .int .i64 a, .int .i64 b, .int .i64 n, .string (bs s)] 45) = v0 at HB HX ⊢
    clear hW0
    have x0 : v0.cell? ⟨w.heap.size, 0, none⟩ = some (.int .i64 8) := HX.out.cell 0
    have x1 : v0.cell? ⟨w.heap.size, 1, none⟩ = some (.int .i64 a) := HX.out.cell 1
    have x2 : v0.cell? ⟨w.heap.size, 2, none⟩ = some (.int .i64 b) := HX.out.cell 2
    have x3 : v0.cell? ⟨w.heap.size, 3, none⟩ = some (.int .i64 n) := HX.out.cell 3
    have x4 : v0.cell? ⟨w.heap.size, 4, none⟩ = some (.string (bs s)) := HX.out.cell 4
    go_wp2
    go_ret
    exact ⟨rfl, HB.out⟩
  have t8 : (op == 8) = false := by rw [beq_eq_false_iff_ne]; exact e8
  by_cases e5 : op = 5
  · subst e5
    have hr : takeI ⟨5, a, b, n, s⟩ = arS a := by rfl
    rw [hr]; clear hr
    have hb0 := ((Below.refl w.heap.size w).alloc (Nat.le_refl _) (.cells #[.int .i64 5, .int .i64 a, .int .i64 b, .int .i64 n, .string (bs s)] 45))
    have h_HX := (Bx.new w #[.int .i64 5, .int .i64 a, .int .i64 b, .int .i64 n, .string (bs s)] 45)
    have HB := Lib.hid hb0; have HX := Lib.hid h_HX
    clear hb0 h_HX
    go_enter Tryz.func50, Tryz.ntmps50
    go_upto_region 1 with (fail)
    generalize hW0 : w.alloc (.cells #[.int .i64 5, .int .i64 a, .int .i64 b, .int .i64 n, .string (bs s)] 45) = v0 at HB HX ⊢
    clear hW0
    have x0 : v0.cell? ⟨w.heap.size, 0, none⟩ = some (.int .i64 5) := HX.out.cell 0
    have x1 : v0.cell? ⟨w.heap.size, 1, none⟩ = some (.int .i64 a) := HX.out.cell 1
    have x2 : v0.cell? ⟨w.heap.size, 2, none⟩ = some (.int .i64 b) := HX.out.cell 2
    have x3 : v0.cell? ⟨w.heap.size, 3, none⟩ = some (.int .i64 n) := HX.out.cell 3
    have x4 : v0.cell? ⟨w.heap.size, 4, none⟩ = some (.string (bs s)) := HX.out.cell 4
    go_wp2_with fail
    refine (Arity_any a _).mono ?_
    rintro er w1 ⟨rfl, rfl⟩
    go_wp2
    go_ret
    exact ⟨rfl, HB.out⟩
  have t5 : (op == 5) = false := by rw [beq_eq_false_iff_ne]; exact e5
  have hr : takeI ⟨op, a, b, n, s⟩ = 0 := by unfold takeI; simp [e4, e7, e9, e10, e8, e5]
  rw [hr]; clear hr
  have hb0 := ((Below.refl w.heap.size w).alloc (Nat.le_refl _) (.cells #[.int .i64 op, .int .i64 a, .int .i64 b, .int .i64 n, .string (bs s)] 45))
  have h_HX := (Bx.new w #[.int .i64 op, .int .i64 a, .int .i64 b, .int .i64 n, .string (bs s)] 45)
  have HB := Lib.hid hb0; have HX := Lib.hid h_HX
  clear hb0 h_HX
  go_enter Tryz.func50, Tryz.ntmps50
  go_upto_region 1 with (fail)
  generalize hW0 : w.alloc (.cells #[.int .i64 op, .int .i64 a, .int .i64 b, .int .i64 n, .string (bs s)] 45) = v0 at HB HX ⊢
  clear hW0
  have x0 : v0.cell? ⟨w.heap.size, 0, none⟩ = some (.int .i64 op) := HX.out.cell 0
  have x1 : v0.cell? ⟨w.heap.size, 1, none⟩ = some (.int .i64 a) := HX.out.cell 1
  have x2 : v0.cell? ⟨w.heap.size, 2, none⟩ = some (.int .i64 b) := HX.out.cell 2
  have x3 : v0.cell? ⟨w.heap.size, 3, none⟩ = some (.int .i64 n) := HX.out.cell 3
  have x4 : v0.cell? ⟨w.heap.size, 4, none⟩ = some (.string (bs s)) := HX.out.cell 4
  go_wp2
  go_ret
  exact ⟨rfl, HB.out⟩
set_option maxRecDepth 100000 in
set_option maxHeartbeats 8000000 in
theorem puts_any (x : Ins) (w : World) :
    Calls Tryz.prog 51 #[.agg (insV x)] w fun e w' => e = .returned (.int .i64 (putI x)) ∧ Below w.heap.size w w' := by
  obtain ⟨op, a, b, n, s⟩ := x
  simp only [insV]
  by_cases e1 : op = 1
  · subst e1
    have hr : putI ⟨1, a, b, n, s⟩ = 1 := by rfl
    rw [hr]; clear hr
    have hb0 := ((Below.refl w.heap.size w).alloc (Nat.le_refl _) (.cells #[.int .i64 1, .int .i64 a, .int .i64 b, .int .i64 n, .string (bs s)] 45))
    have h_HX := (Bx.new w #[.int .i64 1, .int .i64 a, .int .i64 b, .int .i64 n, .string (bs s)] 45)
    have HB := Lib.hid hb0; have HX := Lib.hid h_HX
    clear hb0 h_HX
    go_enter Tryz.func51, Tryz.ntmps51
    go_upto_region 1 with (fail)
    generalize hW0 : w.alloc (.cells #[.int .i64 1, .int .i64 a, .int .i64 b, .int .i64 n, .string (bs s)] 45) = v0 at HB HX ⊢
    clear hW0
    have x0 : v0.cell? ⟨w.heap.size, 0, none⟩ = some (.int .i64 1) := HX.out.cell 0
    have x1 : v0.cell? ⟨w.heap.size, 1, none⟩ = some (.int .i64 a) := HX.out.cell 1
    have x2 : v0.cell? ⟨w.heap.size, 2, none⟩ = some (.int .i64 b) := HX.out.cell 2
    have x3 : v0.cell? ⟨w.heap.size, 3, none⟩ = some (.int .i64 n) := HX.out.cell 3
    have x4 : v0.cell? ⟨w.heap.size, 4, none⟩ = some (.string (bs s)) := HX.out.cell 4
    go_wp2
    go_ret
    exact ⟨rfl, HB.out⟩
  have t1 : (op == 1) = false := by rw [beq_eq_false_iff_ne]; exact e1
  by_cases e2 : op = 2
  · subst e2
    have hr : putI ⟨2, a, b, n, s⟩ = 1 := by rfl
    rw [hr]; clear hr
    have hb0 := ((Below.refl w.heap.size w).alloc (Nat.le_refl _) (.cells #[.int .i64 2, .int .i64 a, .int .i64 b, .int .i64 n, .string (bs s)] 45))
    have h_HX := (Bx.new w #[.int .i64 2, .int .i64 a, .int .i64 b, .int .i64 n, .string (bs s)] 45)
    have HB := Lib.hid hb0; have HX := Lib.hid h_HX
    clear hb0 h_HX
    go_enter Tryz.func51, Tryz.ntmps51
    go_upto_region 1 with (fail)
    generalize hW0 : w.alloc (.cells #[.int .i64 2, .int .i64 a, .int .i64 b, .int .i64 n, .string (bs s)] 45) = v0 at HB HX ⊢
    clear hW0
    have x0 : v0.cell? ⟨w.heap.size, 0, none⟩ = some (.int .i64 2) := HX.out.cell 0
    have x1 : v0.cell? ⟨w.heap.size, 1, none⟩ = some (.int .i64 a) := HX.out.cell 1
    have x2 : v0.cell? ⟨w.heap.size, 2, none⟩ = some (.int .i64 b) := HX.out.cell 2
    have x3 : v0.cell? ⟨w.heap.size, 3, none⟩ = some (.int .i64 n) := HX.out.cell 3
    have x4 : v0.cell? ⟨w.heap.size, 4, none⟩ = some (.string (bs s)) := HX.out.cell 4
    go_wp2
    go_ret
    exact ⟨rfl, HB.out⟩
  have t2 : (op == 2) = false := by rw [beq_eq_false_iff_ne]; exact e2
  by_cases e3 : op = 3
  · subst e3
    have hr : putI ⟨3, a, b, n, s⟩ = 1 := by rfl
    rw [hr]; clear hr
    have hb0 := ((Below.refl w.heap.size w).alloc (Nat.le_refl _) (.cells #[.int .i64 3, .int .i64 a, .int .i64 b, .int .i64 n, .string (bs s)] 45))
    have h_HX := (Bx.new w #[.int .i64 3, .int .i64 a, .int .i64 b, .int .i64 n, .string (bs s)] 45)
    have HB := Lib.hid hb0; have HX := Lib.hid h_HX
    clear hb0 h_HX
    go_enter Tryz.func51, Tryz.ntmps51
    go_upto_region 1 with (fail)
    generalize hW0 : w.alloc (.cells #[.int .i64 3, .int .i64 a, .int .i64 b, .int .i64 n, .string (bs s)] 45) = v0 at HB HX ⊢
    clear hW0
    have x0 : v0.cell? ⟨w.heap.size, 0, none⟩ = some (.int .i64 3) := HX.out.cell 0
    have x1 : v0.cell? ⟨w.heap.size, 1, none⟩ = some (.int .i64 a) := HX.out.cell 1
    have x2 : v0.cell? ⟨w.heap.size, 2, none⟩ = some (.int .i64 b) := HX.out.cell 2
    have x3 : v0.cell? ⟨w.heap.size, 3, none⟩ = some (.int .i64 n) := HX.out.cell 3
    have x4 : v0.cell? ⟨w.heap.size, 4, none⟩ = some (.string (bs s)) := HX.out.cell 4
    go_wp2
    go_ret
    exact ⟨rfl, HB.out⟩
  have t3 : (op == 3) = false := by rw [beq_eq_false_iff_ne]; exact e3
  by_cases e5 : op = 5
  · subst e5
    have hr : putI ⟨5, a, b, n, s⟩ = 1 := by rfl
    rw [hr]; clear hr
    have hb0 := ((Below.refl w.heap.size w).alloc (Nat.le_refl _) (.cells #[.int .i64 5, .int .i64 a, .int .i64 b, .int .i64 n, .string (bs s)] 45))
    have h_HX := (Bx.new w #[.int .i64 5, .int .i64 a, .int .i64 b, .int .i64 n, .string (bs s)] 45)
    have HB := Lib.hid hb0; have HX := Lib.hid h_HX
    clear hb0 h_HX
    go_enter Tryz.func51, Tryz.ntmps51
    go_upto_region 1 with (fail)
    generalize hW0 : w.alloc (.cells #[.int .i64 5, .int .i64 a, .int .i64 b, .int .i64 n, .string (bs s)] 45) = v0 at HB HX ⊢
    clear hW0
    have x0 : v0.cell? ⟨w.heap.size, 0, none⟩ = some (.int .i64 5) := HX.out.cell 0
    have x1 : v0.cell? ⟨w.heap.size, 1, none⟩ = some (.int .i64 a) := HX.out.cell 1
    have x2 : v0.cell? ⟨w.heap.size, 2, none⟩ = some (.int .i64 b) := HX.out.cell 2
    have x3 : v0.cell? ⟨w.heap.size, 3, none⟩ = some (.int .i64 n) := HX.out.cell 3
    have x4 : v0.cell? ⟨w.heap.size, 4, none⟩ = some (.string (bs s)) := HX.out.cell 4
    go_wp2
    go_ret
    exact ⟨rfl, HB.out⟩
  have t5 : (op == 5) = false := by rw [beq_eq_false_iff_ne]; exact e5
  have hr : putI ⟨op, a, b, n, s⟩ = 0 := by unfold putI; simp [e1, e2, e3, e5]
  rw [hr]; clear hr
  have hb0 := ((Below.refl w.heap.size w).alloc (Nat.le_refl _) (.cells #[.int .i64 op, .int .i64 a, .int .i64 b, .int .i64 n, .string (bs s)] 45))
  have h_HX := (Bx.new w #[.int .i64 op, .int .i64 a, .int .i64 b, .int .i64 n, .string (bs s)] 45)
  have HB := Lib.hid hb0; have HX := Lib.hid h_HX
  clear hb0 h_HX
  go_enter Tryz.func51, Tryz.ntmps51
  go_upto_region 1 with (fail)
  generalize hW0 : w.alloc (.cells #[.int .i64 op, .int .i64 a, .int .i64 b, .int .i64 n, .string (bs s)] 45) = v0 at HB HX ⊢
  clear hW0
  have x0 : v0.cell? ⟨w.heap.size, 0, none⟩ = some (.int .i64 op) := HX.out.cell 0
  have x1 : v0.cell? ⟨w.heap.size, 1, none⟩ = some (.int .i64 a) := HX.out.cell 1
  have x2 : v0.cell? ⟨w.heap.size, 2, none⟩ = some (.int .i64 b) := HX.out.cell 2
  have x3 : v0.cell? ⟨w.heap.size, 3, none⟩ = some (.int .i64 n) := HX.out.cell 3
  have x4 : v0.cell? ⟨w.heap.size, 4, none⟩ = some (.string (bs s)) := HX.out.cell 4
  go_wp2
  go_ret
  exact ⟨rfl, HB.out⟩
set_option maxRecDepth 100000 in
set_option maxHeartbeats 8000000 in
theorem leaves_any (x : Ins) (w : World) :
    Calls Tryz.prog 29 #[.agg (insV x)] w fun e w' => e = .returned (.bool (leaI x)) ∧ Below w.heap.size w w' := by
  obtain ⟨op, a, b, n, s⟩ := x
  simp only [insV]
  by_cases e6 : op = 6
  · subst e6
    have hr : leaI ⟨6, a, b, n, s⟩ = true := by rfl
    rw [hr]; clear hr
    have hb0 := ((Below.refl w.heap.size w).alloc (Nat.le_refl _) (.cells #[.int .i64 6, .int .i64 a, .int .i64 b, .int .i64 n, .string (bs s)] 45))
    have h_HX := (Bx.new w #[.int .i64 6, .int .i64 a, .int .i64 b, .int .i64 n, .string (bs s)] 45)
    have HB := Lib.hid hb0; have HX := Lib.hid h_HX
    clear hb0 h_HX
    go_enter Tryz.func29, Tryz.ntmps29
    go_upto_region 1 with (fail)
    generalize hW0 : w.alloc (.cells #[.int .i64 6, .int .i64 a, .int .i64 b, .int .i64 n, .string (bs s)] 45) = v0 at HB HX ⊢
    clear hW0
    have x0 : v0.cell? ⟨w.heap.size, 0, none⟩ = some (.int .i64 6) := HX.out.cell 0
    have x1 : v0.cell? ⟨w.heap.size, 1, none⟩ = some (.int .i64 a) := HX.out.cell 1
    have x2 : v0.cell? ⟨w.heap.size, 2, none⟩ = some (.int .i64 b) := HX.out.cell 2
    have x3 : v0.cell? ⟨w.heap.size, 3, none⟩ = some (.int .i64 n) := HX.out.cell 3
    have x4 : v0.cell? ⟨w.heap.size, 4, none⟩ = some (.string (bs s)) := HX.out.cell 4
    go_wp2
    go_ret
    exact ⟨rfl, HB.out⟩
  have t6 : (op == 6) = false := by rw [beq_eq_false_iff_ne]; exact e6
  by_cases e11 : op = 11
  · subst e11
    have hr : leaI ⟨11, a, b, n, s⟩ = true := by rfl
    rw [hr]; clear hr
    have hb0 := ((Below.refl w.heap.size w).alloc (Nat.le_refl _) (.cells #[.int .i64 11, .int .i64 a, .int .i64 b, .int .i64 n, .string (bs s)] 45))
    have h_HX := (Bx.new w #[.int .i64 11, .int .i64 a, .int .i64 b, .int .i64 n, .string (bs s)] 45)
    have HB := Lib.hid hb0; have HX := Lib.hid h_HX
    clear hb0 h_HX
    go_enter Tryz.func29, Tryz.ntmps29
    go_upto_region 1 with (fail)
    generalize hW0 : w.alloc (.cells #[.int .i64 11, .int .i64 a, .int .i64 b, .int .i64 n, .string (bs s)] 45) = v0 at HB HX ⊢
    clear hW0
    have x0 : v0.cell? ⟨w.heap.size, 0, none⟩ = some (.int .i64 11) := HX.out.cell 0
    have x1 : v0.cell? ⟨w.heap.size, 1, none⟩ = some (.int .i64 a) := HX.out.cell 1
    have x2 : v0.cell? ⟨w.heap.size, 2, none⟩ = some (.int .i64 b) := HX.out.cell 2
    have x3 : v0.cell? ⟨w.heap.size, 3, none⟩ = some (.int .i64 n) := HX.out.cell 3
    have x4 : v0.cell? ⟨w.heap.size, 4, none⟩ = some (.string (bs s)) := HX.out.cell 4
    go_wp2
    go_ret
    exact ⟨rfl, HB.out⟩
  have t11 : (op == 11) = false := by rw [beq_eq_false_iff_ne]; exact e11
  by_cases e13 : op = 13
  · subst e13
    have hr : leaI ⟨13, a, b, n, s⟩ = true := by rfl
    rw [hr]; clear hr
    have hb0 := ((Below.refl w.heap.size w).alloc (Nat.le_refl _) (.cells #[.int .i64 13, .int .i64 a, .int .i64 b, .int .i64 n, .string (bs s)] 45))
    have h_HX := (Bx.new w #[.int .i64 13, .int .i64 a, .int .i64 b, .int .i64 n, .string (bs s)] 45)
    have HB := Lib.hid hb0; have HX := Lib.hid h_HX
    clear hb0 h_HX
    go_enter Tryz.func29, Tryz.ntmps29
    go_upto_region 1 with (fail)
    generalize hW0 : w.alloc (.cells #[.int .i64 13, .int .i64 a, .int .i64 b, .int .i64 n, .string (bs s)] 45) = v0 at HB HX ⊢
    clear hW0
    have x0 : v0.cell? ⟨w.heap.size, 0, none⟩ = some (.int .i64 13) := HX.out.cell 0
    have x1 : v0.cell? ⟨w.heap.size, 1, none⟩ = some (.int .i64 a) := HX.out.cell 1
    have x2 : v0.cell? ⟨w.heap.size, 2, none⟩ = some (.int .i64 b) := HX.out.cell 2
    have x3 : v0.cell? ⟨w.heap.size, 3, none⟩ = some (.int .i64 n) := HX.out.cell 3
    have x4 : v0.cell? ⟨w.heap.size, 4, none⟩ = some (.string (bs s)) := HX.out.cell 4
    go_wp2
    go_ret
    exact ⟨rfl, HB.out⟩
  have t13 : (op == 13) = false := by rw [beq_eq_false_iff_ne]; exact e13
  have hr : leaI ⟨op, a, b, n, s⟩ = false := by unfold leaI; simp [e6, e11, e13]
  rw [hr]; clear hr
  have hb0 := ((Below.refl w.heap.size w).alloc (Nat.le_refl _) (.cells #[.int .i64 op, .int .i64 a, .int .i64 b, .int .i64 n, .string (bs s)] 45))
  have h_HX := (Bx.new w #[.int .i64 op, .int .i64 a, .int .i64 b, .int .i64 n, .string (bs s)] 45)
  have HB := Lib.hid hb0; have HX := Lib.hid h_HX
  clear hb0 h_HX
  go_enter Tryz.func29, Tryz.ntmps29
  go_upto_region 1 with (fail)
  generalize hW0 : w.alloc (.cells #[.int .i64 op, .int .i64 a, .int .i64 b, .int .i64 n, .string (bs s)] 45) = v0 at HB HX ⊢
  clear hW0
  have x0 : v0.cell? ⟨w.heap.size, 0, none⟩ = some (.int .i64 op) := HX.out.cell 0
  have x1 : v0.cell? ⟨w.heap.size, 1, none⟩ = some (.int .i64 a) := HX.out.cell 1
  have x2 : v0.cell? ⟨w.heap.size, 2, none⟩ = some (.int .i64 b) := HX.out.cell 2
  have x3 : v0.cell? ⟨w.heap.size, 3, none⟩ = some (.int .i64 n) := HX.out.cell 3
  have x4 : v0.cell? ⟨w.heap.size, 4, none⟩ = some (.string (bs s)) := HX.out.cell 4
  go_wp2
  go_ret
  exact ⟨rfl, HB.out⟩
set_option maxRecDepth 100000 in
set_option maxHeartbeats 8000000 in
theorem jumps_any (x : Ins) (w : World) :
    Calls Tryz.prog 30 #[.agg (insV x)] w fun e w' => e = .returned (.bool (jmpI x)) ∧ Below w.heap.size w w' := by
  obtain ⟨op, a, b, n, s⟩ := x
  simp only [insV]
  by_cases e6 : op = 6
  · subst e6
    have hr : jmpI ⟨6, a, b, n, s⟩ = true := by rfl
    rw [hr]; clear hr
    have hb0 := ((Below.refl w.heap.size w).alloc (Nat.le_refl _) (.cells #[.int .i64 6, .int .i64 a, .int .i64 b, .int .i64 n, .string (bs s)] 45))
    have h_HX := (Bx.new w #[.int .i64 6, .int .i64 a, .int .i64 b, .int .i64 n, .string (bs s)] 45)
    have HB := Lib.hid hb0; have HX := Lib.hid h_HX
    clear hb0 h_HX
    go_enter Tryz.func30, Tryz.ntmps30
    go_upto_region 1 with (fail)
    generalize hW0 : w.alloc (.cells #[.int .i64 6, .int .i64 a, .int .i64 b, .int .i64 n, .string (bs s)] 45) = v0 at HB HX ⊢
    clear hW0
    have x0 : v0.cell? ⟨w.heap.size, 0, none⟩ = some (.int .i64 6) := HX.out.cell 0
    have x1 : v0.cell? ⟨w.heap.size, 1, none⟩ = some (.int .i64 a) := HX.out.cell 1
    have x2 : v0.cell? ⟨w.heap.size, 2, none⟩ = some (.int .i64 b) := HX.out.cell 2
    have x3 : v0.cell? ⟨w.heap.size, 3, none⟩ = some (.int .i64 n) := HX.out.cell 3
    have x4 : v0.cell? ⟨w.heap.size, 4, none⟩ = some (.string (bs s)) := HX.out.cell 4
    go_wp2
    go_ret
    exact ⟨rfl, HB.out⟩
  have t6 : (op == 6) = false := by rw [beq_eq_false_iff_ne]; exact e6
  by_cases e7 : op = 7
  · subst e7
    have hr : jmpI ⟨7, a, b, n, s⟩ = true := by rfl
    rw [hr]; clear hr
    have hb0 := ((Below.refl w.heap.size w).alloc (Nat.le_refl _) (.cells #[.int .i64 7, .int .i64 a, .int .i64 b, .int .i64 n, .string (bs s)] 45))
    have h_HX := (Bx.new w #[.int .i64 7, .int .i64 a, .int .i64 b, .int .i64 n, .string (bs s)] 45)
    have HB := Lib.hid hb0; have HX := Lib.hid h_HX
    clear hb0 h_HX
    go_enter Tryz.func30, Tryz.ntmps30
    go_upto_region 1 with (fail)
    generalize hW0 : w.alloc (.cells #[.int .i64 7, .int .i64 a, .int .i64 b, .int .i64 n, .string (bs s)] 45) = v0 at HB HX ⊢
    clear hW0
    have x0 : v0.cell? ⟨w.heap.size, 0, none⟩ = some (.int .i64 7) := HX.out.cell 0
    have x1 : v0.cell? ⟨w.heap.size, 1, none⟩ = some (.int .i64 a) := HX.out.cell 1
    have x2 : v0.cell? ⟨w.heap.size, 2, none⟩ = some (.int .i64 b) := HX.out.cell 2
    have x3 : v0.cell? ⟨w.heap.size, 3, none⟩ = some (.int .i64 n) := HX.out.cell 3
    have x4 : v0.cell? ⟨w.heap.size, 4, none⟩ = some (.string (bs s)) := HX.out.cell 4
    go_wp2
    go_ret
    exact ⟨rfl, HB.out⟩
  have t7 : (op == 7) = false := by rw [beq_eq_false_iff_ne]; exact e7
  have hr : jmpI ⟨op, a, b, n, s⟩ = false := by unfold jmpI; simp [e6, e7]
  rw [hr]; clear hr
  have hb0 := ((Below.refl w.heap.size w).alloc (Nat.le_refl _) (.cells #[.int .i64 op, .int .i64 a, .int .i64 b, .int .i64 n, .string (bs s)] 45))
  have h_HX := (Bx.new w #[.int .i64 op, .int .i64 a, .int .i64 b, .int .i64 n, .string (bs s)] 45)
  have HB := Lib.hid hb0; have HX := Lib.hid h_HX
  clear hb0 h_HX
  go_enter Tryz.func30, Tryz.ntmps30
  go_upto_region 1 with (fail)
  generalize hW0 : w.alloc (.cells #[.int .i64 op, .int .i64 a, .int .i64 b, .int .i64 n, .string (bs s)] 45) = v0 at HB HX ⊢
  clear hW0
  have x0 : v0.cell? ⟨w.heap.size, 0, none⟩ = some (.int .i64 op) := HX.out.cell 0
  have x1 : v0.cell? ⟨w.heap.size, 1, none⟩ = some (.int .i64 a) := HX.out.cell 1
  have x2 : v0.cell? ⟨w.heap.size, 2, none⟩ = some (.int .i64 b) := HX.out.cell 2
  have x3 : v0.cell? ⟨w.heap.size, 3, none⟩ = some (.int .i64 n) := HX.out.cell 3
  have x4 : v0.cell? ⟨w.heap.size, 4, none⟩ = some (.string (bs s)) := HX.out.cell 4
  go_wp2
  go_ret
  exact ⟨rfl, HB.out⟩
set_option maxRecDepth 100000 in
set_option maxHeartbeats 8000000 in
theorem fields_any (op : Int) (h1 : 1 ≤ op) (h2 : op ≤ 14) (w : World) :
    Calls Tryz.prog 84 #[.int .i64 op] w fun e w' => e = .returned (.int .i64 (fldS op)) ∧ Below w.heap.size w w' := by
  have hop : op = 1 ∨ op = 2 ∨ op = 3 ∨ op = 4 ∨ op = 5 ∨ op = 6 ∨ op = 7 ∨ op = 8 ∨ op = 9 ∨ op = 10 ∨ op = 11 ∨ op = 12 ∨ op = 13 ∨ op = 14 := by omega
  clear h1 h2
  rcases hop with rfl | rfl | rfl | rfl | rfl | rfl | rfl | rfl | rfl | rfl | rfl | rfl | rfl | rfl
  all_goals
    go_enter Tryz.func84, Tryz.ntmps84
    go_wp2
    go_ret
    exact ⟨rfl, (Below.refl _ _).alloc (Nat.le_refl _) _⟩
theorem plain_len {s : List UInt8} (h : s.all okc = true) : plainS s = decide (s.length ≤ 64) := by unfold plainS; rw [h]; rfl
theorem plain_no {s : List UInt8} (h : s.all okc = false) : plainS s = false := by unfold plainS; rw [h]; rfl
set_option maxRecDepth 100000 in
set_option maxHeartbeats 8000000 in
theorem bplain_any (s : List UInt8) (hl : s.length ≤ 9223372036854775807) (w : World) :
    Calls Tryz.prog 48 #[.string (bs s)] w fun e w' => e = .returned (.bool (plainS s)) ∧ w' = w := by
  obtain ⟨R, hR⟩ : ∃ R, plainS s = R := ⟨_, rfl⟩
  rw [hR]
  have HR := Lib.hid hR; clear hR
  go_enter Tryz.func48, Tryz.ntmps48
  go_wp2
  go_loop [3, 6] (fun _ i => ∃ k : Nat, k ≤ s.length ∧ i = .int .i64 k ∧ ∀ j (hj : j < s.length), j < k → okc s[j] = true) (fun _ i => s.length - (intOf i).toNat)
  case atStart => exact ⟨0, Nat.zero_le _, rfl, fun j _ hj => absurd hj (Nat.not_lt_zero _)⟩
  case round =>
    obtain ⟨k, hk, rfl, hall⟩ := hrel
    have HA := Lib.hid hall; clear hall
    by_cases hlt : k < s.length
    · have hlt' : (k : Int) < (s.length : Int) := by omega
      have hw1 : IntKind.i64.wrap ((k : Int) + 1) = ((k + 1 : Nat) : Int) := by rw [IntKind.wrap_i64]; omega
      by_cases h1 : (s[k].toNat : Int) < 32
      · have HF := Lib.hid (show R = false by rw [← HR.out, plain_no (all_bad k hlt (okc_lo h1))])
        go_wp2
        go_ret
        exact ⟨by rw [HF.out] <;> rfl, rfl⟩
      by_cases h2 : 126 < (s[k].toNat : Int)
      · have HF := Lib.hid (show R = false by rw [← HR.out, plain_no (all_bad k hlt (okc_hi h2))])
        go_wp2
        go_ret
        exact ⟨by rw [HF.out] <;> rfl, rfl⟩
      have hok : okc s[k] = true := (okc_iff _).2 ⟨by omega, by omega⟩
      have HN := Lib.hid (show ∀ j (hj : j < s.length), j < k + 1 → okc s[j] = true from fun j hj hjk => by
        by_cases e : j = k
        · subst e; exact hok
        · exact HA.out j hj (by omega))
      go_wp2
      go_round
      case rel => exact ⟨k + 1, by omega, by go_num, HN.out⟩
      case measure => simp [intOf]; omega
    · have hlt' : ¬ (k : Int) < (s.length : Int) := by omega
      have hall : s.all okc = true := by
        rw [List.all_eq_true]; intro c hc
        obtain ⟨j, hj, rfl⟩ := List.getElem_of_mem hc
        exact HA.out j hj (by omega)
      have hr := plain_len hall
      rw [HR.out] at hr
      by_cases h64 : s.length ≤ 64
      · have h64' : (s.length : Int) ≤ 64 := by omega
        have HF := Lib.hid (show R = true by rw [hr]; simpa using h64); clear hr hall
        go_wp2
        go_ret
        exact ⟨by rw [HF.out] <;> rfl, rfl⟩
      · have h64' : ¬ (s.length : Int) ≤ 64 := by omega
        have HF := Lib.hid (show R = false by rw [hr]; simpa using h64); clear hr hall
        go_wp2
        go_ret
        exact ⟨by rw [HF.out] <;> rfl, rfl⟩
end Go.Proofs.YtnglaegofhpleaaGreatDoor
namespace Go.Proofs.YtnglaegofhpleaaGreatDoor
open Go.RowKit

/-- the library's variables that layer 16 reads -/
def LaidB (W : World) : Prop := Laid W ∧ Lib.TabIs Tryz.prog W "strings.asciiSpace" .u8 Lib.asciiSpaceTab ∧ ∃ m, W.cell? ⟨3, 0, none⟩ = some (.int .i64 m)
theorem gSpace : Tryz.prog.globalNamed "strings.asciiSpace" = some 0 := by kernel_rfl
theorem LaidB.below {W W' : World} (h : LaidB W) (hb : Below W.heap.size W W') : LaidB W' := by
  obtain ⟨h1, h2, m, h3⟩ := h
  refine ⟨h1.below hb, ?_, m, cell1_below h3 hb⟩
  unfold Lib.TabIs at h2 ⊢
  exact Joins.var_stays gSpace h2 hb (Nat.le_refl _)
set_option maxRecDepth 100000 in
theorem Fields_of (s : ByteArray) (F : List (List UInt8)) (n : Nat) (hF : Lib.fields s.data.toList = F) (hn : F.length = n) (hs : s.size < 4294967281) (ha : s.data.toList.all (fun b => decide (b.toNat < 128)) = true) (w : World) (hB : LaidB w) :
    Calls Tryz.prog 83 #[.string s] w fun e w' => e = .returned (.slice (some ⟨w.heap.size, 0, none⟩) n n) ∧ w' = w.alloc (.cells (F.map strV).toArray 9) := by
  subst hF hn
  refine (Tryz.strings_Fields s w hs ?_ hB.2.1).mono ?_
  · intro j b hj
    have := List.all_eq_true.1 ha b (List.mem_of_getElem? hj)
    simpa using this
  · rintro e w' ⟨rfl, rfl⟩
    exact ⟨rfl, rfl⟩
theorem strs_at {F : List (List UInt8)} {k : Nat} (h : k < F.length) : (F.map strV).toArray[k]? = some (.string (bs (F.getD k []))) := by
  simp only [List.getElem?_toArray, List.getElem?_map, List.getElem?_eq_getElem h, Option.map_some, List.getD_eq_getElem?_getD, Option.getD_some]; rfl
theorem nameS_in {k : Nat} (h : k < 14) : nameS ((k : Int) + 1) = OPN.getD k [] := by
  unfold nameS; rw [if_pos ⟨by omega, by omega⟩]; congr 1; omega
theorem nameS_out {op : Int} (h : op < 1 ∨ 14 < op) : nameS op = [] := by unfold nameS; rw [if_neg (by omega)]
theorem OPN_ne : ∀ k, k < 14 → OPN.getD k [] ≠ [] := by decide
theorem nameS_ne {op : Int} (h1 : 1 ≤ op) (h2 : op ≤ 14) : nameS op ≠ [] := by
  obtain ⟨k, rfl⟩ : ∃ k : Nat, op = (k : Int) + 1 := ⟨(op - 1).toNat, by omega⟩
  rw [nameS_in (by omega)]; exact OPN_ne k (by omega)

set_option maxRecDepth 100000 in
set_option maxHeartbeats 8000000 in
theorem Name_any (op : Int) (w : World) (hB : LaidB w) :
    Calls Tryz.prog 45 #[.int .i64 op] w fun e w' => e = .returned (.string (bs (nameS op))) ∧ Below w.heap.size w w' := by
  by_cases h1 : op < 1
  · rw [nameS_out (.inl h1)]
    go_enter Tryz.func45, Tryz.ntmps45
    go_wp2
    go_ret
    exact ⟨rfl, Below.refl _ _⟩
  by_cases h2 : 14 < op
  · rw [nameS_out (.inr h2)]
    go_enter Tryz.func45, Tryz.ntmps45
    go_wp2
    go_ret
    exact ⟨rfl, Below.refl _ _⟩
  obtain ⟨k, rfl⟩ : ∃ k : Nat, op = (k : Int) + 1 := ⟨(op - 1).toNat, by omega⟩
  have hk : k < 14 := by omega
  rw [nameS_in hk]
  have hw1 : IntKind.i64.wrap ((k : Int) + 1 - 1) = (k : Int) := by rw [IntKind.wrap_i64]; omega
  have hk' : (k : Int) < 14 := by omega
  go_enter Tryz.func45, Tryz.ntmps45
  go_wp2_with fail
  refine (Fields_of _ OPN 14 (by kernel_rfl) rfl (of_decide_eq_true (by kernel_rfl)) (by kernel_rfl) _ hB).mono ?_
  rintro er w1 ⟨rfl, rfl⟩
  have HX := Lib.hid (Bx.new w (OPN.map strV).toArray 9); have HB := Lib.hid ((Below.refl w.heap.size w).alloc (Nat.le_refl _) (.cells (OPN.map strV).toArray 9))
  generalize hW : w.alloc (.cells (OPN.map strV).toArray 9) = v1 at HX HB ⊢
  clear hW
  have c0 : v1.cell? ⟨w.heap.size, k, none⟩ = some (.string (bs (OPN.getD k []))) := by rw [HX.out.cell k]; exact strs_at (by show k < 14; exact hk)
  go_wp2
  go_ret
  exact ⟨rfl, HB.out⟩
def Grp (op : Int) : Prop :=
  (fldS op = 4 ∧ uA op = false ∧ uB op = false ∧ uN op = true ∧ uS op = false) ∨ (fldS op = 8 ∧ uA op = false ∧ uB op = false ∧ uN op = false ∧ uS op = true) ∨
  (fldS op = 7 ∧ uA op = true ∧ uB op = true ∧ uN op = true ∧ uS op = false) ∨ (fldS op = 1 ∧ uA op = true ∧ uB op = false ∧ uN op = false ∧ uS op = false) ∨ (fldS op = 0 ∧ uA op = false ∧ uB op = false ∧ uN op = false ∧ uS op = false)
instance (op : Int) : Decidable (Grp op) := by unfold Grp; infer_instance
theorem grp_any {op : Int} (h1 : 1 ≤ op) (h2 : op ≤ 14) : Grp op := by
  have hop : op = 1 ∨ op = 2 ∨ op = 3 ∨ op = 4 ∨ op = 5 ∨ op = 6 ∨ op = 7 ∨ op = 8 ∨ op = 9 ∨ op = 10 ∨ op = 11 ∨ op = 12 ∨ op = 13 ∨ op = 14 := by omega
  rcases hop with rfl | rfl | rfl | rfl | rfl | rfl | rfl | rfl | rfl | rfl | rfl | rfl | rfl | rfl <;> decide

set_option maxRecDepth 100000 in
set_option maxHeartbeats 8000000 in
theorem unused_any (x : Ins) (h1 : 1 ≤ x.op) (h2 : x.op ≤ 14) (w : World) :
    Calls Tryz.prog 46 #[.agg (insV x)] w fun e w' => e = .returned (.bool (unuS x)) ∧ Below w.heap.size w w' := by
  obtain ⟨op, a, b, n, s⟩ := x
  simp only at h1 h2
  simp only [insV]
  rcases grp_any h1 h2 with h | h | h | h | h
  · obtain ⟨hF, hA, hB, hN, hS⟩ := h
    by_cases ea : a = 0
    rotate_left
    · have ta : (a == 0) = false := by rw [beq_eq_false_iff_ne]; exact ea
      have hr : unuS ⟨op, a, b, n, s⟩ = false := by unfold unuS; simp [hA, hB, hN, hS, ea]
      rw [hr]; clear hr hA hB hN hS
      have hb0 := ((Below.refl w.heap.size w).alloc (Nat.le_refl _) (.cells #[.int .i64 op, .int .i64 a, .int .i64 b, .int .i64 n, .string (bs s)] 45))
      have h_HX := (Bx.new w #[.int .i64 op, .int .i64 a, .int .i64 b, .int .i64 n, .string (bs s)] 45)
      have HB := Lib.hid hb0; have HX := Lib.hid h_HX
      clear hb0 h_HX
      go_enter Tryz.func46, Tryz.ntmps46
      go_upto_region 1 with (fail)
      generalize hW0 : w.alloc (.cells #[.int .i64 op, .int .i64 a, .int .i64 b, .int .i64 n, .string (bs s)] 45) = v0 at HB HX ⊢
      clear hW0
      have x0 : v0.cell? ⟨w.heap.size, 0, none⟩ = some (.int .i64 op) := HX.out.cell 0
      have x1 : v0.cell? ⟨w.heap.size, 1, none⟩ = some (.int .i64 a) := HX.out.cell 1
      have x2 : v0.cell? ⟨w.heap.size, 2, none⟩ = some (.int .i64 b) := HX.out.cell 2
      have x3 : v0.cell? ⟨w.heap.size, 3, none⟩ = some (.int .i64 n) := HX.out.cell 3
      have x4 : v0.cell? ⟨w.heap.size, 4, none⟩ = some (.string (bs s)) := HX.out.cell 4
      go_wp2_with fail
      refine (fields_any op h1 h2 _).mono ?_
      rw [hF]
      rintro er w1 ⟨rfl, hb1⟩
      clear x0 x1 x2 x3 x4
      have HX := Lib.hid (HX.out.call hb1); have HB := Lib.hid (btrans HB.out HB.out.size hb1); clear hb1
      have x0 : w1.cell? ⟨w.heap.size, 0, none⟩ = some (.int .i64 op) := HX.out.cell 0
      have x1 : w1.cell? ⟨w.heap.size, 1, none⟩ = some (.int .i64 a) := HX.out.cell 1
      have x2 : w1.cell? ⟨w.heap.size, 2, none⟩ = some (.int .i64 b) := HX.out.cell 2
      have x3 : w1.cell? ⟨w.heap.size, 3, none⟩ = some (.int .i64 n) := HX.out.cell 3
      have x4 : w1.cell? ⟨w.heap.size, 4, none⟩ = some (.string (bs s)) := HX.out.cell 4
      go_wp2
      go_ret
      exact ⟨rfl, HB.out⟩
    subst ea
    by_cases eb : b = 0
    rotate_left
    · have tb : (b == 0) = false := by rw [beq_eq_false_iff_ne]; exact eb
      have hr : unuS ⟨op, 0, b, n, s⟩ = false := by unfold unuS; simp [hA, hB, hN, hS, eb]
      rw [hr]; clear hr hA hB hN hS
      have hb0 := ((Below.refl w.heap.size w).alloc (Nat.le_refl _) (.cells #[.int .i64 op, .int .i64 0, .int .i64 b, .int .i64 n, .string (bs s)] 45))
      have h_HX := (Bx.new w #[.int .i64 op, .int .i64 0, .int .i64 b, .int .i64 n, .string (bs s)] 45)
      have HB := Lib.hid hb0; have HX := Lib.hid h_HX
      clear hb0 h_HX
      go_enter Tryz.func46, Tryz.ntmps46
      go_upto_region 1 with (fail)
      generalize hW0 : w.alloc (.cells #[.int .i64 op, .int .i64 0, .int .i64 b, .int .i64 n, .string (bs s)] 45) = v0 at HB HX ⊢
      clear hW0
      have x0 : v0.cell? ⟨w.heap.size, 0, none⟩ = some (.int .i64 op) := HX.out.cell 0
      have x1 : v0.cell? ⟨w.heap.size, 1, none⟩ = some (.int .i64 0) := HX.out.cell 1
      have x2 : v0.cell? ⟨w.heap.size, 2, none⟩ = some (.int .i64 b) := HX.out.cell 2
      have x3 : v0.cell? ⟨w.heap.size, 3, none⟩ = some (.int .i64 n) := HX.out.cell 3
      have x4 : v0.cell? ⟨w.heap.size, 4, none⟩ = some (.string (bs s)) := HX.out.cell 4
      go_wp2_with fail
      refine (fields_any op h1 h2 _).mono ?_
      rw [hF]
      rintro er w1 ⟨rfl, hb1⟩
      clear x0 x1 x2 x3 x4
      have HX := Lib.hid (HX.out.call hb1); have HB := Lib.hid (btrans HB.out HB.out.size hb1); clear hb1
      have x0 : w1.cell? ⟨w.heap.size, 0, none⟩ = some (.int .i64 op) := HX.out.cell 0
      have x1 : w1.cell? ⟨w.heap.size, 1, none⟩ = some (.int .i64 0) := HX.out.cell 1
      have x2 : w1.cell? ⟨w.heap.size, 2, none⟩ = some (.int .i64 b) := HX.out.cell 2
      have x3 : w1.cell? ⟨w.heap.size, 3, none⟩ = some (.int .i64 n) := HX.out.cell 3
      have x4 : w1.cell? ⟨w.heap.size, 4, none⟩ = some (.string (bs s)) := HX.out.cell 4
      go_wp2
      go_ret
      exact ⟨rfl, HB.out⟩
    subst eb
    by_cases es : s = []
    rotate_left
    · have ts : (s == []) = false := by rw [beq_eq_false_iff_ne]; exact es
      have hr : unuS ⟨op, 0, 0, n, s⟩ = false := by unfold unuS; simp [hA, hB, hN, hS, es]
      rw [hr]; clear hr hA hB hN hS
      have hb0 := ((Below.refl w.heap.size w).alloc (Nat.le_refl _) (.cells #[.int .i64 op, .int .i64 0, .int .i64 0, .int .i64 n, .string (bs s)] 45))
      have h_HX := (Bx.new w #[.int .i64 op, .int .i64 0, .int .i64 0, .int .i64 n, .string (bs s)] 45)
      have HB := Lib.hid hb0; have HX := Lib.hid h_HX
      clear hb0 h_HX
      go_enter Tryz.func46, Tryz.ntmps46
      go_upto_region 1 with (fail)
      generalize hW0 : w.alloc (.cells #[.int .i64 op, .int .i64 0, .int .i64 0, .int .i64 n, .string (bs s)] 45) = v0 at HB HX ⊢
      clear hW0
      have x0 : v0.cell? ⟨w.heap.size, 0, none⟩ = some (.int .i64 op) := HX.out.cell 0
      have x1 : v0.cell? ⟨w.heap.size, 1, none⟩ = some (.int .i64 0) := HX.out.cell 1
      have x2 : v0.cell? ⟨w.heap.size, 2, none⟩ = some (.int .i64 0) := HX.out.cell 2
      have x3 : v0.cell? ⟨w.heap.size, 3, none⟩ = some (.int .i64 n) := HX.out.cell 3
      have x4 : v0.cell? ⟨w.heap.size, 4, none⟩ = some (.string (bs s)) := HX.out.cell 4
      go_wp2_with fail
      refine (fields_any op h1 h2 _).mono ?_
      rw [hF]
      rintro er w1 ⟨rfl, hb1⟩
      clear x0 x1 x2 x3 x4
      have HX := Lib.hid (HX.out.call hb1); have HB := Lib.hid (btrans HB.out HB.out.size hb1); clear hb1
      have x0 : w1.cell? ⟨w.heap.size, 0, none⟩ = some (.int .i64 op) := HX.out.cell 0
      have x1 : w1.cell? ⟨w.heap.size, 1, none⟩ = some (.int .i64 0) := HX.out.cell 1
      have x2 : w1.cell? ⟨w.heap.size, 2, none⟩ = some (.int .i64 0) := HX.out.cell 2
      have x3 : w1.cell? ⟨w.heap.size, 3, none⟩ = some (.int .i64 n) := HX.out.cell 3
      have x4 : w1.cell? ⟨w.heap.size, 4, none⟩ = some (.string (bs s)) := HX.out.cell 4
      go_wp2
      go_ret
      exact ⟨rfl, HB.out⟩
    subst es
    have hr : unuS ⟨op, 0, 0, n, []⟩ = true := by unfold unuS; simp [hA, hB, hN, hS]
    rw [hr]; clear hr hA hB hN hS
    have hb0 := ((Below.refl w.heap.size w).alloc (Nat.le_refl _) (.cells #[.int .i64 op, .int .i64 0, .int .i64 0, .int .i64 n, .string (bs [])] 45))
    have h_HX := (Bx.new w #[.int .i64 op, .int .i64 0, .int .i64 0, .int .i64 n, .string (bs [])] 45)
    have HB := Lib.hid hb0; have HX := Lib.hid h_HX
    clear hb0 h_HX
    go_enter Tryz.func46, Tryz.ntmps46
    go_upto_region 1 with (fail)
    generalize hW0 : w.alloc (.cells #[.int .i64 op, .int .i64 0, .int .i64 0, .int .i64 n, .string (bs [])] 45) = v0 at HB HX ⊢
    clear hW0
    have x0 : v0.cell? ⟨w.heap.size, 0, none⟩ = some (.int .i64 op) := HX.out.cell 0
    have x1 : v0.cell? ⟨w.heap.size, 1, none⟩ = some (.int .i64 0) := HX.out.cell 1
    have x2 : v0.cell? ⟨w.heap.size, 2, none⟩ = some (.int .i64 0) := HX.out.cell 2
    have x3 : v0.cell? ⟨w.heap.size, 3, none⟩ = some (.int .i64 n) := HX.out.cell 3
    have x4 : v0.cell? ⟨w.heap.size, 4, none⟩ = some (.string (bs [])) := HX.out.cell 4
    go_wp2_with fail
    refine (fields_any op h1 h2 _).mono ?_
    rw [hF]
    rintro er w1 ⟨rfl, hb1⟩
    clear x0 x1 x2 x3 x4
    have HX := Lib.hid (HX.out.call hb1); have HB := Lib.hid (btrans HB.out HB.out.size hb1); clear hb1
    have x0 : w1.cell? ⟨w.heap.size, 0, none⟩ = some (.int .i64 op) := HX.out.cell 0
    have x1 : w1.cell? ⟨w.heap.size, 1, none⟩ = some (.int .i64 0) := HX.out.cell 1
    have x2 : w1.cell? ⟨w.heap.size, 2, none⟩ = some (.int .i64 0) := HX.out.cell 2
    have x3 : w1.cell? ⟨w.heap.size, 3, none⟩ = some (.int .i64 n) := HX.out.cell 3
    have x4 : w1.cell? ⟨w.heap.size, 4, none⟩ = some (.string (bs [])) := HX.out.cell 4
    go_wp2
    go_ret
    exact ⟨rfl, HB.out⟩
  · obtain ⟨hF, hA, hB, hN, hS⟩ := h
    by_cases ea : a = 0
    rotate_left
    · have ta : (a == 0) = false := by rw [beq_eq_false_iff_ne]; exact ea
      have hr : unuS ⟨op, a, b, n, s⟩ = false := by unfold unuS; simp [hA, hB, hN, hS, ea]
      rw [hr]; clear hr hA hB hN hS
      have hb0 := ((Below.refl w.heap.size w).alloc (Nat.le_refl _) (.cells #[.int .i64 op, .int .i64 a, .int .i64 b, .int .i64 n, .string (bs s)] 45))
      have h_HX := (Bx.new w #[.int .i64 op, .int .i64 a, .int .i64 b, .int .i64 n, .string (bs s)] 45)
      have HB := Lib.hid hb0; have HX := Lib.hid h_HX
      clear hb0 h_HX
      go_enter Tryz.func46, Tryz.ntmps46
      go_upto_region 1 with (fail)
      generalize hW0 : w.alloc (.cells #[.int .i64 op, .int .i64 a, .int .i64 b, .int .i64 n, .string (bs s)] 45) = v0 at HB HX ⊢
      clear hW0
      have x0 : v0.cell? ⟨w.heap.size, 0, none⟩ = some (.int .i64 op) := HX.out.cell 0
      have x1 : v0.cell? ⟨w.heap.size, 1, none⟩ = some (.int .i64 a) := HX.out.cell 1
      have x2 : v0.cell? ⟨w.heap.size, 2, none⟩ = some (.int .i64 b) := HX.out.cell 2
      have x3 : v0.cell? ⟨w.heap.size, 3, none⟩ = some (.int .i64 n) := HX.out.cell 3
      have x4 : v0.cell? ⟨w.heap.size, 4, none⟩ = some (.string (bs s)) := HX.out.cell 4
      go_wp2_with fail
      refine (fields_any op h1 h2 _).mono ?_
      rw [hF]
      rintro er w1 ⟨rfl, hb1⟩
      clear x0 x1 x2 x3 x4
      have HX := Lib.hid (HX.out.call hb1); have HB := Lib.hid (btrans HB.out HB.out.size hb1); clear hb1
      have x0 : w1.cell? ⟨w.heap.size, 0, none⟩ = some (.int .i64 op) := HX.out.cell 0
      have x1 : w1.cell? ⟨w.heap.size, 1, none⟩ = some (.int .i64 a) := HX.out.cell 1
      have x2 : w1.cell? ⟨w.heap.size, 2, none⟩ = some (.int .i64 b) := HX.out.cell 2
      have x3 : w1.cell? ⟨w.heap.size, 3, none⟩ = some (.int .i64 n) := HX.out.cell 3
      have x4 : w1.cell? ⟨w.heap.size, 4, none⟩ = some (.string (bs s)) := HX.out.cell 4
      go_wp2
      go_ret
      exact ⟨rfl, HB.out⟩
    subst ea
    by_cases eb : b = 0
    rotate_left
    · have tb : (b == 0) = false := by rw [beq_eq_false_iff_ne]; exact eb
      have hr : unuS ⟨op, 0, b, n, s⟩ = false := by unfold unuS; simp [hA, hB, hN, hS, eb]
      rw [hr]; clear hr hA hB hN hS
      have hb0 := ((Below.refl w.heap.size w).alloc (Nat.le_refl _) (.cells #[.int .i64 op, .int .i64 0, .int .i64 b, .int .i64 n, .string (bs s)] 45))
      have h_HX := (Bx.new w #[.int .i64 op, .int .i64 0, .int .i64 b, .int .i64 n, .string (bs s)] 45)
      have HB := Lib.hid hb0; have HX := Lib.hid h_HX
      clear hb0 h_HX
      go_enter Tryz.func46, Tryz.ntmps46
      go_upto_region 1 with (fail)
      generalize hW0 : w.alloc (.cells #[.int .i64 op, .int .i64 0, .int .i64 b, .int .i64 n, .string (bs s)] 45) = v0 at HB HX ⊢
      clear hW0
      have x0 : v0.cell? ⟨w.heap.size, 0, none⟩ = some (.int .i64 op) := HX.out.cell 0
      have x1 : v0.cell? ⟨w.heap.size, 1, none⟩ = some (.int .i64 0) := HX.out.cell 1
      have x2 : v0.cell? ⟨w.heap.size, 2, none⟩ = some (.int .i64 b) := HX.out.cell 2
      have x3 : v0.cell? ⟨w.heap.size, 3, none⟩ = some (.int .i64 n) := HX.out.cell 3
      have x4 : v0.cell? ⟨w.heap.size, 4, none⟩ = some (.string (bs s)) := HX.out.cell 4
      go_wp2_with fail
      refine (fields_any op h1 h2 _).mono ?_
      rw [hF]
      rintro er w1 ⟨rfl, hb1⟩
      clear x0 x1 x2 x3 x4
      have HX := Lib.hid (HX.out.call hb1); have HB := Lib.hid (btrans HB.out HB.out.size hb1); clear hb1
      have x0 : w1.cell? ⟨w.heap.size, 0, none⟩ = some (.int .i64 op) := HX.out.cell 0
      have x1 : w1.cell? ⟨w.heap.size, 1, none⟩ = some (.int .i64 0) := HX.out.cell 1
      have x2 : w1.cell? ⟨w.heap.size, 2, none⟩ = some (.int .i64 b) := HX.out.cell 2
      have x3 : w1.cell? ⟨w.heap.size, 3, none⟩ = some (.int .i64 n) := HX.out.cell 3
      have x4 : w1.cell? ⟨w.heap.size, 4, none⟩ = some (.string (bs s)) := HX.out.cell 4
      go_wp2
      go_ret
      exact ⟨rfl, HB.out⟩
    subst eb
    by_cases en : n = 0
    rotate_left
    · have tn : (n == 0) = false := by rw [beq_eq_false_iff_ne]; exact en
      have hr : unuS ⟨op, 0, 0, n, s⟩ = false := by unfold unuS; simp [hA, hB, hN, hS, en]
      rw [hr]; clear hr hA hB hN hS
      have hb0 := ((Below.refl w.heap.size w).alloc (Nat.le_refl _) (.cells #[.int .i64 op, .int .i64 0, .int .i64 0, .int .i64 n, .string (bs s)] 45))
      have h_HX := (Bx.new w #[.int .i64 op, .int .i64 0, .int .i64 0, .int .i64 n, .string (bs s)] 45)
      have HB := Lib.hid hb0; have HX := Lib.hid h_HX
      clear hb0 h_HX
      go_enter Tryz.func46, Tryz.ntmps46
      go_upto_region 1 with (fail)
      generalize hW0 : w.alloc (.cells #[.int .i64 op, .int .i64 0, .int .i64 0, .int .i64 n, .string (bs s)] 45) = v0 at HB HX ⊢
      clear hW0
      have x0 : v0.cell? ⟨w.heap.size, 0, none⟩ = some (.int .i64 op) := HX.out.cell 0
      have x1 : v0.cell? ⟨w.heap.size, 1, none⟩ = some (.int .i64 0) := HX.out.cell 1
      have x2 : v0.cell? ⟨w.heap.size, 2, none⟩ = some (.int .i64 0) := HX.out.cell 2
      have x3 : v0.cell? ⟨w.heap.size, 3, none⟩ = some (.int .i64 n) := HX.out.cell 3
      have x4 : v0.cell? ⟨w.heap.size, 4, none⟩ = some (.string (bs s)) := HX.out.cell 4
      go_wp2_with fail
      refine (fields_any op h1 h2 _).mono ?_
      rw [hF]
      rintro er w1 ⟨rfl, hb1⟩
      clear x0 x1 x2 x3 x4
      have HX := Lib.hid (HX.out.call hb1); have HB := Lib.hid (btrans HB.out HB.out.size hb1); clear hb1
      have x0 : w1.cell? ⟨w.heap.size, 0, none⟩ = some (.int .i64 op) := HX.out.cell 0
      have x1 : w1.cell? ⟨w.heap.size, 1, none⟩ = some (.int .i64 0) := HX.out.cell 1
      have x2 : w1.cell? ⟨w.heap.size, 2, none⟩ = some (.int .i64 0) := HX.out.cell 2
      have x3 : w1.cell? ⟨w.heap.size, 3, none⟩ = some (.int .i64 n) := HX.out.cell 3
      have x4 : w1.cell? ⟨w.heap.size, 4, none⟩ = some (.string (bs s)) := HX.out.cell 4
      go_wp2
      go_ret
      exact ⟨rfl, HB.out⟩
    subst en
    have hr : unuS ⟨op, 0, 0, 0, s⟩ = true := by unfold unuS; simp [hA, hB, hN, hS]
    rw [hr]; clear hr hA hB hN hS
    have hb0 := ((Below.refl w.heap.size w).alloc (Nat.le_refl _) (.cells #[.int .i64 op, .int .i64 0, .int .i64 0, .int .i64 0, .string (bs s)] 45))
    have h_HX := (Bx.new w #[.int .i64 op, .int .i64 0, .int .i64 0, .int .i64 0, .string (bs s)] 45)
    have HB := Lib.hid hb0; have HX := Lib.hid h_HX
    clear hb0 h_HX
    go_enter Tryz.func46, Tryz.ntmps46
    go_upto_region 1 with (fail)
    generalize hW0 : w.alloc (.cells #[.int .i64 op, .int .i64 0, .int .i64 0, .int .i64 0, .string (bs s)] 45) = v0 at HB HX ⊢
    clear hW0
    have x0 : v0.cell? ⟨w.heap.size, 0, none⟩ = some (.int .i64 op) := HX.out.cell 0
    have x1 : v0.cell? ⟨w.heap.size, 1, none⟩ = some (.int .i64 0) := HX.out.cell 1
    have x2 : v0.cell? ⟨w.heap.size, 2, none⟩ = some (.int .i64 0) := HX.out.cell 2
    have x3 : v0.cell? ⟨w.heap.size, 3, none⟩ = some (.int .i64 0) := HX.out.cell 3
    have x4 : v0.cell? ⟨w.heap.size, 4, none⟩ = some (.string (bs s)) := HX.out.cell 4
    go_wp2_with fail
    refine (fields_any op h1 h2 _).mono ?_
    rw [hF]
    rintro er w1 ⟨rfl, hb1⟩
    clear x0 x1 x2 x3 x4
    have HX := Lib.hid (HX.out.call hb1); have HB := Lib.hid (btrans HB.out HB.out.size hb1); clear hb1
    have x0 : w1.cell? ⟨w.heap.size, 0, none⟩ = some (.int .i64 op) := HX.out.cell 0
    have x1 : w1.cell? ⟨w.heap.size, 1, none⟩ = some (.int .i64 0) := HX.out.cell 1
    have x2 : w1.cell? ⟨w.heap.size, 2, none⟩ = some (.int .i64 0) := HX.out.cell 2
    have x3 : w1.cell? ⟨w.heap.size, 3, none⟩ = some (.int .i64 0) := HX.out.cell 3
    have x4 : w1.cell? ⟨w.heap.size, 4, none⟩ = some (.string (bs s)) := HX.out.cell 4
    go_wp2
    go_ret
    exact ⟨rfl, HB.out⟩
  · obtain ⟨hF, hA, hB, hN, hS⟩ := h
    by_cases es : s = []
    rotate_left
    · have ts : (s == []) = false := by rw [beq_eq_false_iff_ne]; exact es
      have hr : unuS ⟨op, a, b, n, s⟩ = false := by unfold unuS; simp [hA, hB, hN, hS, es]
      rw [hr]; clear hr hA hB hN hS
      have hb0 := ((Below.refl w.heap.size w).alloc (Nat.le_refl _) (.cells #[.int .i64 op, .int .i64 a, .int .i64 b, .int .i64 n, .string (bs s)] 45))
      have h_HX := (Bx.new w #[.int .i64 op, .int .i64 a, .int .i64 b, .int .i64 n, .string (bs s)] 45)
      have HB := Lib.hid hb0; have HX := Lib.hid h_HX
      clear hb0 h_HX
      go_enter Tryz.func46, Tryz.ntmps46
      go_upto_region 1 with (fail)
      generalize hW0 : w.alloc (.cells #[.int .i64 op, .int .i64 a, .int .i64 b, .int .i64 n, .string (bs s)] 45) = v0 at HB HX ⊢
      clear hW0
      have x0 : v0.cell? ⟨w.heap.size, 0, none⟩ = some (.int .i64 op) := HX.out.cell 0
      have x1 : v0.cell? ⟨w.heap.size, 1, none⟩ = some (.int .i64 a) := HX.out.cell 1
      have x2 : v0.cell? ⟨w.heap.size, 2, none⟩ = some (.int .i64 b) := HX.out.cell 2
      have x3 : v0.cell? ⟨w.heap.size, 3, none⟩ = some (.int .i64 n) := HX.out.cell 3
      have x4 : v0.cell? ⟨w.heap.size, 4, none⟩ = some (.string (bs s)) := HX.out.cell 4
      go_wp2_with fail
      refine (fields_any op h1 h2 _).mono ?_
      rw [hF]
      rintro er w1 ⟨rfl, hb1⟩
      clear x0 x1 x2 x3 x4
      have HX := Lib.hid (HX.out.call hb1); have HB := Lib.hid (btrans HB.out HB.out.size hb1); clear hb1
      have x0 : w1.cell? ⟨w.heap.size, 0, none⟩ = some (.int .i64 op) := HX.out.cell 0
      have x1 : w1.cell? ⟨w.heap.size, 1, none⟩ = some (.int .i64 a) := HX.out.cell 1
      have x2 : w1.cell? ⟨w.heap.size, 2, none⟩ = some (.int .i64 b) := HX.out.cell 2
      have x3 : w1.cell? ⟨w.heap.size, 3, none⟩ = some (.int .i64 n) := HX.out.cell 3
      have x4 : w1.cell? ⟨w.heap.size, 4, none⟩ = some (.string (bs s)) := HX.out.cell 4
      go_wp2
      go_ret
      exact ⟨rfl, HB.out⟩
    subst es
    have hr : unuS ⟨op, a, b, n, []⟩ = true := by unfold unuS; simp [hA, hB, hN, hS]
    rw [hr]; clear hr hA hB hN hS
    have hb0 := ((Below.refl w.heap.size w).alloc (Nat.le_refl _) (.cells #[.int .i64 op, .int .i64 a, .int .i64 b, .int .i64 n, .string (bs [])] 45))
    have h_HX := (Bx.new w #[.int .i64 op, .int .i64 a, .int .i64 b, .int .i64 n, .string (bs [])] 45)
    have HB := Lib.hid hb0; have HX := Lib.hid h_HX
    clear hb0 h_HX
    go_enter Tryz.func46, Tryz.ntmps46
    go_upto_region 1 with (fail)
    generalize hW0 : w.alloc (.cells #[.int .i64 op, .int .i64 a, .int .i64 b, .int .i64 n, .string (bs [])] 45) = v0 at HB HX ⊢
    clear hW0
    have x0 : v0.cell? ⟨w.heap.size, 0, none⟩ = some (.int .i64 op) := HX.out.cell 0
    have x1 : v0.cell? ⟨w.heap.size, 1, none⟩ = some (.int .i64 a) := HX.out.cell 1
    have x2 : v0.cell? ⟨w.heap.size, 2, none⟩ = some (.int .i64 b) := HX.out.cell 2
    have x3 : v0.cell? ⟨w.heap.size, 3, none⟩ = some (.int .i64 n) := HX.out.cell 3
    have x4 : v0.cell? ⟨w.heap.size, 4, none⟩ = some (.string (bs [])) := HX.out.cell 4
    go_wp2_with fail
    refine (fields_any op h1 h2 _).mono ?_
    rw [hF]
    rintro er w1 ⟨rfl, hb1⟩
    clear x0 x1 x2 x3 x4
    have HX := Lib.hid (HX.out.call hb1); have HB := Lib.hid (btrans HB.out HB.out.size hb1); clear hb1
    have x0 : w1.cell? ⟨w.heap.size, 0, none⟩ = some (.int .i64 op) := HX.out.cell 0
    have x1 : w1.cell? ⟨w.heap.size, 1, none⟩ = some (.int .i64 a) := HX.out.cell 1
    have x2 : w1.cell? ⟨w.heap.size, 2, none⟩ = some (.int .i64 b) := HX.out.cell 2
    have x3 : w1.cell? ⟨w.heap.size, 3, none⟩ = some (.int .i64 n) := HX.out.cell 3
    have x4 : w1.cell? ⟨w.heap.size, 4, none⟩ = some (.string (bs [])) := HX.out.cell 4
    go_wp2
    go_ret
    exact ⟨rfl, HB.out⟩
  · obtain ⟨hF, hA, hB, hN, hS⟩ := h
    by_cases eb : b = 0
    rotate_left
    · have tb : (b == 0) = false := by rw [beq_eq_false_iff_ne]; exact eb
      have hr : unuS ⟨op, a, b, n, s⟩ = false := by unfold unuS; simp [hA, hB, hN, hS, eb]
      rw [hr]; clear hr hA hB hN hS
      have hb0 := ((Below.refl w.heap.size w).alloc (Nat.le_refl _) (.cells #[.int .i64 op, .int .i64 a, .int .i64 b, .int .i64 n, .string (bs s)] 45))
      have h_HX := (Bx.new w #[.int .i64 op, .int .i64 a, .int .i64 b, .int .i64 n, .string (bs s)] 45)
      have HB := Lib.hid hb0; have HX := Lib.hid h_HX
      clear hb0 h_HX
      go_enter Tryz.func46, Tryz.ntmps46
      go_upto_region 1 with (fail)
      generalize hW0 : w.alloc (.cells #[.int .i64 op, .int .i64 a, .int .i64 b, .int .i64 n, .string (bs s)] 45) = v0 at HB HX ⊢
      clear hW0
      have x0 : v0.cell? ⟨w.heap.size, 0, none⟩ = some (.int .i64 op) := HX.out.cell 0
      have x1 : v0.cell? ⟨w.heap.size, 1, none⟩ = some (.int .i64 a) := HX.out.cell 1
      have x2 : v0.cell? ⟨w.heap.size, 2, none⟩ = some (.int .i64 b) := HX.out.cell 2
      have x3 : v0.cell? ⟨w.heap.size, 3, none⟩ = some (.int .i64 n) := HX.out.cell 3
      have x4 : v0.cell? ⟨w.heap.size, 4, none⟩ = some (.string (bs s)) := HX.out.cell 4
      go_wp2_with fail
      refine (fields_any op h1 h2 _).mono ?_
      rw [hF]
      rintro er w1 ⟨rfl, hb1⟩
      clear x0 x1 x2 x3 x4
      have HX := Lib.hid (HX.out.call hb1); have HB := Lib.hid (btrans HB.out HB.out.size hb1); clear hb1
      have x0 : w1.cell? ⟨w.heap.size, 0, none⟩ = some (.int .i64 op) := HX.out.cell 0
      have x1 : w1.cell? ⟨w.heap.size, 1, none⟩ = some (.int .i64 a) := HX.out.cell 1
      have x2 : w1.cell? ⟨w.heap.size, 2, none⟩ = some (.int .i64 b) := HX.out.cell 2
      have x3 : w1.cell? ⟨w.heap.size, 3, none⟩ = some (.int .i64 n) := HX.out.cell 3
      have x4 : w1.cell? ⟨w.heap.size, 4, none⟩ = some (.string (bs s)) := HX.out.cell 4
      go_wp2
      go_ret
      exact ⟨rfl, HB.out⟩
    subst eb
    by_cases en : n = 0
    rotate_left
    · have tn : (n == 0) = false := by rw [beq_eq_false_iff_ne]; exact en
      have hr : unuS ⟨op, a, 0, n, s⟩ = false := by unfold unuS; simp [hA, hB, hN, hS, en]
      rw [hr]; clear hr hA hB hN hS
      have hb0 := ((Below.refl w.heap.size w).alloc (Nat.le_refl _) (.cells #[.int .i64 op, .int .i64 a, .int .i64 0, .int .i64 n, .string (bs s)] 45))
      have h_HX := (Bx.new w #[.int .i64 op, .int .i64 a, .int .i64 0, .int .i64 n, .string (bs s)] 45)
      have HB := Lib.hid hb0; have HX := Lib.hid h_HX
      clear hb0 h_HX
      go_enter Tryz.func46, Tryz.ntmps46
      go_upto_region 1 with (fail)
      generalize hW0 : w.alloc (.cells #[.int .i64 op, .int .i64 a, .int .i64 0, .int .i64 n, .string (bs s)] 45) = v0 at HB HX ⊢
      clear hW0
      have x0 : v0.cell? ⟨w.heap.size, 0, none⟩ = some (.int .i64 op) := HX.out.cell 0
      have x1 : v0.cell? ⟨w.heap.size, 1, none⟩ = some (.int .i64 a) := HX.out.cell 1
      have x2 : v0.cell? ⟨w.heap.size, 2, none⟩ = some (.int .i64 0) := HX.out.cell 2
      have x3 : v0.cell? ⟨w.heap.size, 3, none⟩ = some (.int .i64 n) := HX.out.cell 3
      have x4 : v0.cell? ⟨w.heap.size, 4, none⟩ = some (.string (bs s)) := HX.out.cell 4
      go_wp2_with fail
      refine (fields_any op h1 h2 _).mono ?_
      rw [hF]
      rintro er w1 ⟨rfl, hb1⟩
      clear x0 x1 x2 x3 x4
      have HX := Lib.hid (HX.out.call hb1); have HB := Lib.hid (btrans HB.out HB.out.size hb1); clear hb1
      have x0 : w1.cell? ⟨w.heap.size, 0, none⟩ = some (.int .i64 op) := HX.out.cell 0
      have x1 : w1.cell? ⟨w.heap.size, 1, none⟩ = some (.int .i64 a) := HX.out.cell 1
      have x2 : w1.cell? ⟨w.heap.size, 2, none⟩ = some (.int .i64 0) := HX.out.cell 2
      have x3 : w1.cell? ⟨w.heap.size, 3, none⟩ = some (.int .i64 n) := HX.out.cell 3
      have x4 : w1.cell? ⟨w.heap.size, 4, none⟩ = some (.string (bs s)) := HX.out.cell 4
      go_wp2
      go_ret
      exact ⟨rfl, HB.out⟩
    subst en
    by_cases es : s = []
    rotate_left
    · have ts : (s == []) = false := by rw [beq_eq_false_iff_ne]; exact es
      have hr : unuS ⟨op, a, 0, 0, s⟩ = false := by unfold unuS; simp [hA, hB, hN, hS, es]
      rw [hr]; clear hr hA hB hN hS
      have hb0 := ((Below.refl w.heap.size w).alloc (Nat.le_refl _) (.cells #[.int .i64 op, .int .i64 a, .int .i64 0, .int .i64 0, .string (bs s)] 45))
      have h_HX := (Bx.new w #[.int .i64 op, .int .i64 a, .int .i64 0, .int .i64 0, .string (bs s)] 45)
      have HB := Lib.hid hb0; have HX := Lib.hid h_HX
      clear hb0 h_HX
      go_enter Tryz.func46, Tryz.ntmps46
      go_upto_region 1 with (fail)
      generalize hW0 : w.alloc (.cells #[.int .i64 op, .int .i64 a, .int .i64 0, .int .i64 0, .string (bs s)] 45) = v0 at HB HX ⊢
      clear hW0
      have x0 : v0.cell? ⟨w.heap.size, 0, none⟩ = some (.int .i64 op) := HX.out.cell 0
      have x1 : v0.cell? ⟨w.heap.size, 1, none⟩ = some (.int .i64 a) := HX.out.cell 1
      have x2 : v0.cell? ⟨w.heap.size, 2, none⟩ = some (.int .i64 0) := HX.out.cell 2
      have x3 : v0.cell? ⟨w.heap.size, 3, none⟩ = some (.int .i64 0) := HX.out.cell 3
      have x4 : v0.cell? ⟨w.heap.size, 4, none⟩ = some (.string (bs s)) := HX.out.cell 4
      go_wp2_with fail
      refine (fields_any op h1 h2 _).mono ?_
      rw [hF]
      rintro er w1 ⟨rfl, hb1⟩
      clear x0 x1 x2 x3 x4
      have HX := Lib.hid (HX.out.call hb1); have HB := Lib.hid (btrans HB.out HB.out.size hb1); clear hb1
      have x0 : w1.cell? ⟨w.heap.size, 0, none⟩ = some (.int .i64 op) := HX.out.cell 0
      have x1 : w1.cell? ⟨w.heap.size, 1, none⟩ = some (.int .i64 a) := HX.out.cell 1
      have x2 : w1.cell? ⟨w.heap.size, 2, none⟩ = some (.int .i64 0) := HX.out.cell 2
      have x3 : w1.cell? ⟨w.heap.size, 3, none⟩ = some (.int .i64 0) := HX.out.cell 3
      have x4 : w1.cell? ⟨w.heap.size, 4, none⟩ = some (.string (bs s)) := HX.out.cell 4
      go_wp2
      go_ret
      exact ⟨rfl, HB.out⟩
    subst es
    have hr : unuS ⟨op, a, 0, 0, []⟩ = true := by unfold unuS; simp [hA, hB, hN, hS]
    rw [hr]; clear hr hA hB hN hS
    have hb0 := ((Below.refl w.heap.size w).alloc (Nat.le_refl _) (.cells #[.int .i64 op, .int .i64 a, .int .i64 0, .int .i64 0, .string (bs [])] 45))
    have h_HX := (Bx.new w #[.int .i64 op, .int .i64 a, .int .i64 0, .int .i64 0, .string (bs [])] 45)
    have HB := Lib.hid hb0; have HX := Lib.hid h_HX
    clear hb0 h_HX
    go_enter Tryz.func46, Tryz.ntmps46
    go_upto_region 1 with (fail)
    generalize hW0 : w.alloc (.cells #[.int .i64 op, .int .i64 a, .int .i64 0, .int .i64 0, .string (bs [])] 45) = v0 at HB HX ⊢
    clear hW0
    have x0 : v0.cell? ⟨w.heap.size, 0, none⟩ = some (.int .i64 op) := HX.out.cell 0
    have x1 : v0.cell? ⟨w.heap.size, 1, none⟩ = some (.int .i64 a) := HX.out.cell 1
    have x2 : v0.cell? ⟨w.heap.size, 2, none⟩ = some (.int .i64 0) := HX.out.cell 2
    have x3 : v0.cell? ⟨w.heap.size, 3, none⟩ = some (.int .i64 0) := HX.out.cell 3
    have x4 : v0.cell? ⟨w.heap.size, 4, none⟩ = some (.string (bs [])) := HX.out.cell 4
    go_wp2_with fail
    refine (fields_any op h1 h2 _).mono ?_
    rw [hF]
    rintro er w1 ⟨rfl, hb1⟩
    clear x0 x1 x2 x3 x4
    have HX := Lib.hid (HX.out.call hb1); have HB := Lib.hid (btrans HB.out HB.out.size hb1); clear hb1
    have x0 : w1.cell? ⟨w.heap.size, 0, none⟩ = some (.int .i64 op) := HX.out.cell 0
    have x1 : w1.cell? ⟨w.heap.size, 1, none⟩ = some (.int .i64 a) := HX.out.cell 1
    have x2 : w1.cell? ⟨w.heap.size, 2, none⟩ = some (.int .i64 0) := HX.out.cell 2
    have x3 : w1.cell? ⟨w.heap.size, 3, none⟩ = some (.int .i64 0) := HX.out.cell 3
    have x4 : w1.cell? ⟨w.heap.size, 4, none⟩ = some (.string (bs [])) := HX.out.cell 4
    go_wp2
    go_ret
    exact ⟨rfl, HB.out⟩
  · obtain ⟨hF, hA, hB, hN, hS⟩ := h
    by_cases ea : a = 0
    rotate_left
    · have ta : (a == 0) = false := by rw [beq_eq_false_iff_ne]; exact ea
      have hr : unuS ⟨op, a, b, n, s⟩ = false := by unfold unuS; simp [hA, hB, hN, hS, ea]
      rw [hr]; clear hr hA hB hN hS
      have hb0 := ((Below.refl w.heap.size w).alloc (Nat.le_refl _) (.cells #[.int .i64 op, .int .i64 a, .int .i64 b, .int .i64 n, .string (bs s)] 45))
      have h_HX := (Bx.new w #[.int .i64 op, .int .i64 a, .int .i64 b, .int .i64 n, .string (bs s)] 45)
      have HB := Lib.hid hb0; have HX := Lib.hid h_HX
      clear hb0 h_HX
      go_enter Tryz.func46, Tryz.ntmps46
      go_upto_region 1 with (fail)
      generalize hW0 : w.alloc (.cells #[.int .i64 op, .int .i64 a, .int .i64 b, .int .i64 n, .string (bs s)] 45) = v0 at HB HX ⊢
      clear hW0
      have x0 : v0.cell? ⟨w.heap.size, 0, none⟩ = some (.int .i64 op) := HX.out.cell 0
      have x1 : v0.cell? ⟨w.heap.size, 1, none⟩ = some (.int .i64 a) := HX.out.cell 1
      have x2 : v0.cell? ⟨w.heap.size, 2, none⟩ = some (.int .i64 b) := HX.out.cell 2
      have x3 : v0.cell? ⟨w.heap.size, 3, none⟩ = some (.int .i64 n) := HX.out.cell 3
      have x4 : v0.cell? ⟨w.heap.size, 4, none⟩ = some (.string (bs s)) := HX.out.cell 4
      go_wp2_with fail
      refine (fields_any op h1 h2 _).mono ?_
      rw [hF]
      rintro er w1 ⟨rfl, hb1⟩
      clear x0 x1 x2 x3 x4
      have HX := Lib.hid (HX.out.call hb1); have HB := Lib.hid (btrans HB.out HB.out.size hb1); clear hb1
      have x0 : w1.cell? ⟨w.heap.size, 0, none⟩ = some (.int .i64 op) := HX.out.cell 0
      have x1 : w1.cell? ⟨w.heap.size, 1, none⟩ = some (.int .i64 a) := HX.out.cell 1
      have x2 : w1.cell? ⟨w.heap.size, 2, none⟩ = some (.int .i64 b) := HX.out.cell 2
      have x3 : w1.cell? ⟨w.heap.size, 3, none⟩ = some (.int .i64 n) := HX.out.cell 3
      have x4 : w1.cell? ⟨w.heap.size, 4, none⟩ = some (.string (bs s)) := HX.out.cell 4
      go_wp2
      go_ret
      exact ⟨rfl, HB.out⟩
    subst ea
    by_cases eb : b = 0
    rotate_left
    · have tb : (b == 0) = false := by rw [beq_eq_false_iff_ne]; exact eb
      have hr : unuS ⟨op, 0, b, n, s⟩ = false := by unfold unuS; simp [hA, hB, hN, hS, eb]
      rw [hr]; clear hr hA hB hN hS
      have hb0 := ((Below.refl w.heap.size w).alloc (Nat.le_refl _) (.cells #[.int .i64 op, .int .i64 0, .int .i64 b, .int .i64 n, .string (bs s)] 45))
      have h_HX := (Bx.new w #[.int .i64 op, .int .i64 0, .int .i64 b, .int .i64 n, .string (bs s)] 45)
      have HB := Lib.hid hb0; have HX := Lib.hid h_HX
      clear hb0 h_HX
      go_enter Tryz.func46, Tryz.ntmps46
      go_upto_region 1 with (fail)
      generalize hW0 : w.alloc (.cells #[.int .i64 op, .int .i64 0, .int .i64 b, .int .i64 n, .string (bs s)] 45) = v0 at HB HX ⊢
      clear hW0
      have x0 : v0.cell? ⟨w.heap.size, 0, none⟩ = some (.int .i64 op) := HX.out.cell 0
      have x1 : v0.cell? ⟨w.heap.size, 1, none⟩ = some (.int .i64 0) := HX.out.cell 1
      have x2 : v0.cell? ⟨w.heap.size, 2, none⟩ = some (.int .i64 b) := HX.out.cell 2
      have x3 : v0.cell? ⟨w.heap.size, 3, none⟩ = some (.int .i64 n) := HX.out.cell 3
      have x4 : v0.cell? ⟨w.heap.size, 4, none⟩ = some (.string (bs s)) := HX.out.cell 4
      go_wp2_with fail
      refine (fields_any op h1 h2 _).mono ?_
      rw [hF]
      rintro er w1 ⟨rfl, hb1⟩
      clear x0 x1 x2 x3 x4
      have HX := Lib.hid (HX.out.call hb1); have HB := Lib.hid (btrans HB.out HB.out.size hb1); clear hb1
      have x0 : w1.cell? ⟨w.heap.size, 0, none⟩ = some (.int .i64 op) := HX.out.cell 0
      have x1 : w1.cell? ⟨w.heap.size, 1, none⟩ = some (.int .i64 0) := HX.out.cell 1
      have x2 : w1.cell? ⟨w.heap.size, 2, none⟩ = some (.int .i64 b) := HX.out.cell 2
      have x3 : w1.cell? ⟨w.heap.size, 3, none⟩ = some (.int .i64 n) := HX.out.cell 3
      have x4 : w1.cell? ⟨w.heap.size, 4, none⟩ = some (.string (bs s)) := HX.out.cell 4
      go_wp2
      go_ret
      exact ⟨rfl, HB.out⟩
    subst eb
    by_cases en : n = 0
    rotate_left
    · have tn : (n == 0) = false := by rw [beq_eq_false_iff_ne]; exact en
      have hr : unuS ⟨op, 0, 0, n, s⟩ = false := by unfold unuS; simp [hA, hB, hN, hS, en]
      rw [hr]; clear hr hA hB hN hS
      have hb0 := ((Below.refl w.heap.size w).alloc (Nat.le_refl _) (.cells #[.int .i64 op, .int .i64 0, .int .i64 0, .int .i64 n, .string (bs s)] 45))
      have h_HX := (Bx.new w #[.int .i64 op, .int .i64 0, .int .i64 0, .int .i64 n, .string (bs s)] 45)
      have HB := Lib.hid hb0; have HX := Lib.hid h_HX
      clear hb0 h_HX
      go_enter Tryz.func46, Tryz.ntmps46
      go_upto_region 1 with (fail)
      generalize hW0 : w.alloc (.cells #[.int .i64 op, .int .i64 0, .int .i64 0, .int .i64 n, .string (bs s)] 45) = v0 at HB HX ⊢
      clear hW0
      have x0 : v0.cell? ⟨w.heap.size, 0, none⟩ = some (.int .i64 op) := HX.out.cell 0
      have x1 : v0.cell? ⟨w.heap.size, 1, none⟩ = some (.int .i64 0) := HX.out.cell 1
      have x2 : v0.cell? ⟨w.heap.size, 2, none⟩ = some (.int .i64 0) := HX.out.cell 2
      have x3 : v0.cell? ⟨w.heap.size, 3, none⟩ = some (.int .i64 n) := HX.out.cell 3
      have x4 : v0.cell? ⟨w.heap.size, 4, none⟩ = some (.string (bs s)) := HX.out.cell 4
      go_wp2_with fail
      refine (fields_any op h1 h2 _).mono ?_
      rw [hF]
      rintro er w1 ⟨rfl, hb1⟩
      clear x0 x1 x2 x3 x4
      have HX := Lib.hid (HX.out.call hb1); have HB := Lib.hid (btrans HB.out HB.out.size hb1); clear hb1
      have x0 : w1.cell? ⟨w.heap.size, 0, none⟩ = some (.int .i64 op) := HX.out.cell 0
      have x1 : w1.cell? ⟨w.heap.size, 1, none⟩ = some (.int .i64 0) := HX.out.cell 1
      have x2 : w1.cell? ⟨w.heap.size, 2, none⟩ = some (.int .i64 0) := HX.out.cell 2
      have x3 : w1.cell? ⟨w.heap.size, 3, none⟩ = some (.int .i64 n) := HX.out.cell 3
      have x4 : w1.cell? ⟨w.heap.size, 4, none⟩ = some (.string (bs s)) := HX.out.cell 4
      go_wp2
      go_ret
      exact ⟨rfl, HB.out⟩
    subst en
    by_cases es : s = []
    rotate_left
    · have ts : (s == []) = false := by rw [beq_eq_false_iff_ne]; exact es
      have hr : unuS ⟨op, 0, 0, 0, s⟩ = false := by unfold unuS; simp [hA, hB, hN, hS, es]
      rw [hr]; clear hr hA hB hN hS
      have hb0 := ((Below.refl w.heap.size w).alloc (Nat.le_refl _) (.cells #[.int .i64 op, .int .i64 0, .int .i64 0, .int .i64 0, .string (bs s)] 45))
      have h_HX := (Bx.new w #[.int .i64 op, .int .i64 0, .int .i64 0, .int .i64 0, .string (bs s)] 45)
      have HB := Lib.hid hb0; have HX := Lib.hid h_HX
      clear hb0 h_HX
      go_enter Tryz.func46, Tryz.ntmps46
      go_upto_region 1 with (fail)
      generalize hW0 : w.alloc (.cells #[.int .i64 op, .int .i64 0, .int .i64 0, .int .i64 0, .string (bs s)] 45) = v0 at HB HX ⊢
      clear hW0
      have x0 : v0.cell? ⟨w.heap.size, 0, none⟩ = some (.int .i64 op) := HX.out.cell 0
      have x1 : v0.cell? ⟨w.heap.size, 1, none⟩ = some (.int .i64 0) := HX.out.cell 1
      have x2 : v0.cell? ⟨w.heap.size, 2, none⟩ = some (.int .i64 0) := HX.out.cell 2
      have x3 : v0.cell? ⟨w.heap.size, 3, none⟩ = some (.int .i64 0) := HX.out.cell 3
      have x4 : v0.cell? ⟨w.heap.size, 4, none⟩ = some (.string (bs s)) := HX.out.cell 4
      go_wp2_with fail
      refine (fields_any op h1 h2 _).mono ?_
      rw [hF]
      rintro er w1 ⟨rfl, hb1⟩
      clear x0 x1 x2 x3 x4
      have HX := Lib.hid (HX.out.call hb1); have HB := Lib.hid (btrans HB.out HB.out.size hb1); clear hb1
      have x0 : w1.cell? ⟨w.heap.size, 0, none⟩ = some (.int .i64 op) := HX.out.cell 0
      have x1 : w1.cell? ⟨w.heap.size, 1, none⟩ = some (.int .i64 0) := HX.out.cell 1
      have x2 : w1.cell? ⟨w.heap.size, 2, none⟩ = some (.int .i64 0) := HX.out.cell 2
      have x3 : w1.cell? ⟨w.heap.size, 3, none⟩ = some (.int .i64 0) := HX.out.cell 3
      have x4 : w1.cell? ⟨w.heap.size, 4, none⟩ = some (.string (bs s)) := HX.out.cell 4
      go_wp2
      go_ret
      exact ⟨rfl, HB.out⟩
    subst es
    have hr : unuS ⟨op, 0, 0, 0, []⟩ = true := by unfold unuS; simp [hA, hB, hN, hS]
    rw [hr]; clear hr hA hB hN hS
    have hb0 := ((Below.refl w.heap.size w).alloc (Nat.le_refl _) (.cells #[.int .i64 op, .int .i64 0, .int .i64 0, .int .i64 0, .string (bs [])] 45))
    have h_HX := (Bx.new w #[.int .i64 op, .int .i64 0, .int .i64 0, .int .i64 0, .string (bs [])] 45)
    have HB := Lib.hid hb0; have HX := Lib.hid h_HX
    clear hb0 h_HX
    go_enter Tryz.func46, Tryz.ntmps46
    go_upto_region 1 with (fail)
    generalize hW0 : w.alloc (.cells #[.int .i64 op, .int .i64 0, .int .i64 0, .int .i64 0, .string (bs [])] 45) = v0 at HB HX ⊢
    clear hW0
    have x0 : v0.cell? ⟨w.heap.size, 0, none⟩ = some (.int .i64 op) := HX.out.cell 0
    have x1 : v0.cell? ⟨w.heap.size, 1, none⟩ = some (.int .i64 0) := HX.out.cell 1
    have x2 : v0.cell? ⟨w.heap.size, 2, none⟩ = some (.int .i64 0) := HX.out.cell 2
    have x3 : v0.cell? ⟨w.heap.size, 3, none⟩ = some (.int .i64 0) := HX.out.cell 3
    have x4 : v0.cell? ⟨w.heap.size, 4, none⟩ = some (.string (bs [])) := HX.out.cell 4
    go_wp2_with fail
    refine (fields_any op h1 h2 _).mono ?_
    rw [hF]
    rintro er w1 ⟨rfl, hb1⟩
    clear x0 x1 x2 x3 x4
    have HX := Lib.hid (HX.out.call hb1); have HB := Lib.hid (btrans HB.out HB.out.size hb1); clear hb1
    have x0 : w1.cell? ⟨w.heap.size, 0, none⟩ = some (.int .i64 op) := HX.out.cell 0
    have x1 : w1.cell? ⟨w.heap.size, 1, none⟩ = some (.int .i64 0) := HX.out.cell 1
    have x2 : w1.cell? ⟨w.heap.size, 2, none⟩ = some (.int .i64 0) := HX.out.cell 2
    have x3 : w1.cell? ⟨w.heap.size, 3, none⟩ = some (.int .i64 0) := HX.out.cell 3
    have x4 : w1.cell? ⟨w.heap.size, 4, none⟩ = some (.string (bs [])) := HX.out.cell 4
    go_wp2
    go_ret
    exact ⟨rfl, HB.out⟩
end Go.Proofs.YtnglaegofhpleaaGreatDoor
