/- What the claim needs of: VmYa, VmH, VmM, VmA, VmI, VmJ, VmL, VmO. No conditions. -/
import Derived.Test.YtnglaegofhpleaaGreatDoorZt3
import Derived.Test.YtnglaegofhpleaaGreatDoorRows
import Derived.WalkKit
import Derived.WalkSpells
import Derived.WalkLawsBesides
import Derived.Lib.SlBytesRow
import Derived.Lib.Hide
import Derived.Lib.ParseIntBTie
import Derived.Lib.ItoaLen
import Derived.Shelf.Small.Strs
import Derived.Shelf.Small.Wraps
import Derived.Shelf.Strconv.Itoa0
import Derived.Shelf.Strconv.Itoa1
import Derived.Shelf.LaysM
import Derived.Shelf.Strconv.Itoa2
import Derived.Shelf.Strconv.Itoa3
import Derived.Shelf.Strconv.Itoa4
import Derived.Shelf.Strings.Fields
import Derived.Shelf.Slices.Turned
import Derived.Lib.SmallJoins
import Derived.Lib.AppendIntMem
import Derived.Deep.RegionHeld3
import Derived.Outline
import Derived.Deep.Cut
import Derived.Deep.CutRange
import Derived.Deep.DeepCutAuto
import Derived.Deep.RegionLaw
import Derived.Lib.Builder
import Derived.Lib.AppendStr
import Derived.Lib.UnsafeStr
import Derived.Laws.Externs
import Derived.Laws.AppendOwnNone
import Derived.Deep.DeepAppendWide
import Derived.Laws.RangeAny
import Derived.Lib.IndexLaws
import Derived.Lib.LaidTab
import Derived.Shelf.Spec.SlicesInsert
import Derived.Shelf.Spec.SlicesInsertGrow
import Derived.Shelf.Spec.SearchS
import Derived.OrdersIn
import Derived.TacticsIn
import Derived.BigQuiet
import Derived.Tactics
import Derived.Tactics2
import Derived.Defers
import Derived.Recover
import Derived.Laws.Pointers
import Derived.Deep.AppendLies
import Derived.Laws.CopyOwn
import Derived.Stop.LaidErr
import Derived.LaidMore
import Derived.Deep.Slices
import Derived.OpenShut
import Derived.ProofKit
import Derived.SizedLaws
import Derived.SliceStrings
import Derived.HandedShaped
import Derived.Shelf.Vars
namespace Go.Proofs.YtnglaegofhpleaaGreatDoor
open Go.RowKit

set_option maxRecDepth 100000 in
set_option maxHeartbeats 8000000 in
theorem RKValid_any (s : List UInt8) (w : World) (hs : s.length ≤ 9223372036854775807) :
    Calls Tryz.prog 86 #[.string (bs s)] w fun e w' => e = .returned (.bool (keyB s)) ∧ w' = w := by
  obtain ⟨R, hR⟩ : ∃ R, keyB s = R := ⟨_, rfl⟩
  rw [hR]
  have HR := Lib.hid hR; clear hR
  go_enter Tryz.func86, Tryz.ntmps86
  go_wp2
  go_loopw [3] (fun i wr => ∃ k : Nat, k ≤ s.length ∧ i = .int .i64 k ∧ Hid ((s.take k).all kyc = true) ∧ wr = w) (fun i _ => s.length - (intOf i).toNat)
  case atStart => exact ⟨0, Nat.zero_le _, by first | exact True.intro | rfl, Lib.hid rfl, by first | exact True.intro | rfl⟩
  case round =>
    obtain ⟨k, hk, rfl, HQ, rfl⟩ := hrel
    by_cases hlt : k < s.length
    · have hlt' : (k : Int) < (s.length : Int) := by omega
      have hw1 : IntKind.i64.wrap ((k : Int) + 1) = (k : Int) + 1 := by rw [IntKind.wrap_i64]; omega
      have hkc := kyc_int s[k]
      have HKC := Lib.hid hkc; clear hkc
      by_cases a1 : (s[k].toNat : Int) < 97
      · by_cases b1 : (s[k].toNat : Int) < 48
        · skip
          by_cases e1 : (s[k].toNat : Int) = 47
          · skip
            have HN := Lib.hid (kyc_step hlt HQ.out (show kycI (s[k].toNat : Int) = true from by unfold kycI; simp; omega))
            have n47 : ((s[k].toNat : Int) != 47) = false := by rw [Bool.eq_false_iff, Ne, bne_iff_ne]; omega
            go_wp2
            go_roundw
            case rel => exact ⟨k + 1, by omega, by go_num, HN, by first | exact True.intro | rfl⟩
            case measure => simp [intOf]; omega
          by_cases e2 : (s[k].toNat : Int) = 46
          · skip
            have HN := Lib.hid (kyc_step hlt HQ.out (show kycI (s[k].toNat : Int) = true from by unfold kycI; simp; omega))
            have n47 : ((s[k].toNat : Int) != 47) = true := by rw [bne_iff_ne]; omega
            have n46 : ((s[k].toNat : Int) != 46) = false := by rw [Bool.eq_false_iff, Ne, bne_iff_ne]; omega
            go_wp2
            go_roundw
            case rel => exact ⟨k + 1, by omega, by go_num, HN, by first | exact True.intro | rfl⟩
            case measure => simp [intOf]; omega
          by_cases e3 : (s[k].toNat : Int) = 95
          · skip
            have HN := Lib.hid (kyc_step hlt HQ.out (show kycI (s[k].toNat : Int) = true from by unfold kycI; simp; omega))
            have n47 : ((s[k].toNat : Int) != 47) = true := by rw [bne_iff_ne]; omega
            have n46 : ((s[k].toNat : Int) != 46) = true := by rw [bne_iff_ne]; omega
            have n95 : ((s[k].toNat : Int) != 95) = false := by rw [Bool.eq_false_iff, Ne, bne_iff_ne]; omega
            go_wp2
            go_roundw
            case rel => exact ⟨k + 1, by omega, by go_num, HN, by first | exact True.intro | rfl⟩
            case measure => simp [intOf]; omega
          by_cases e4 : (s[k].toNat : Int) = 45
          · skip
            have HN := Lib.hid (kyc_step hlt HQ.out (show kycI (s[k].toNat : Int) = true from by unfold kycI; simp; omega))
            have n47 : ((s[k].toNat : Int) != 47) = true := by rw [bne_iff_ne]; omega
            have n46 : ((s[k].toNat : Int) != 46) = true := by rw [bne_iff_ne]; omega
            have n95 : ((s[k].toNat : Int) != 95) = true := by rw [bne_iff_ne]; omega
            have n45 : ((s[k].toNat : Int) != 45) = false := by rw [Bool.eq_false_iff, Ne, bne_iff_ne]; omega
            go_wp2
            go_roundw
            case rel => exact ⟨k + 1, by omega, by go_num, HN, by first | exact True.intro | rfl⟩
            case measure => simp [intOf]; omega
          have HF := Lib.hid (show R = false from HR.out.symm.trans (by unfold keyB; rw [kyc_bad k hlt (show kycI (s[k].toNat : Int) = false from by unfold kycI; simp; omega)]; simp))
          have n47 : ((s[k].toNat : Int) != 47) = true := by rw [bne_iff_ne]; omega
          have n46 : ((s[k].toNat : Int) != 46) = true := by rw [bne_iff_ne]; omega
          have n95 : ((s[k].toNat : Int) != 95) = true := by rw [bne_iff_ne]; omega
          have n45 : ((s[k].toNat : Int) != 45) = true := by rw [bne_iff_ne]; omega
          go_wp2
          go_ret
          exact ⟨by rw [HF.out] <;> rfl, by first | exact True.intro | rfl⟩
        by_cases b2 : 57 < (s[k].toNat : Int)
        · skip
          by_cases e1 : (s[k].toNat : Int) = 47
          · skip
            have HN := Lib.hid (kyc_step hlt HQ.out (show kycI (s[k].toNat : Int) = true from by unfold kycI; simp; omega))
            have n47 : ((s[k].toNat : Int) != 47) = false := by rw [Bool.eq_false_iff, Ne, bne_iff_ne]; omega
            go_wp2
            go_roundw
            case rel => exact ⟨k + 1, by omega, by go_num, HN, by first | exact True.intro | rfl⟩
            case measure => simp [intOf]; omega
          by_cases e2 : (s[k].toNat : Int) = 46
          · skip
            have HN := Lib.hid (kyc_step hlt HQ.out (show kycI (s[k].toNat : Int) = true from by unfold kycI; simp; omega))
            have n47 : ((s[k].toNat : Int) != 47) = true := by rw [bne_iff_ne]; omega
            have n46 : ((s[k].toNat : Int) != 46) = false := by rw [Bool.eq_false_iff, Ne, bne_iff_ne]; omega
            go_wp2
            go_roundw
            case rel => exact ⟨k + 1, by omega, by go_num, HN, by first | exact True.intro | rfl⟩
            case measure => simp [intOf]; omega
          by_cases e3 : (s[k].toNat : Int) = 95
          · skip
            have HN := Lib.hid (kyc_step hlt HQ.out (show kycI (s[k].toNat : Int) = true from by unfold kycI; simp; omega))
            have n47 : ((s[k].toNat : Int) != 47) = true := by rw [bne_iff_ne]; omega
            have n46 : ((s[k].toNat : Int) != 46) = true := by rw [bne_iff_ne]; omega
            have n95 : ((s[k].toNat : Int) != 95) = false := by rw [Bool.eq_false_iff, Ne, bne_iff_ne]; omega
            go_wp2
            go_roundw
            case rel => exact ⟨k + 1, by omega, by go_num, HN, by first | exact True.intro | rfl⟩
            case measure => simp [intOf]; omega
          by_cases e4 : (s[k].toNat : Int) = 45
          · skip
            have HN := Lib.hid (kyc_step hlt HQ.out (show kycI (s[k].toNat : Int) = true from by unfold kycI; simp; omega))
            have n47 : ((s[k].toNat : Int) != 47) = true := by rw [bne_iff_ne]; omega
            have n46 : ((s[k].toNat : Int) != 46) = true := by rw [bne_iff_ne]; omega
            have n95 : ((s[k].toNat : Int) != 95) = true := by rw [bne_iff_ne]; omega
            have n45 : ((s[k].toNat : Int) != 45) = false := by rw [Bool.eq_false_iff, Ne, bne_iff_ne]; omega
            go_wp2
            go_roundw
            case rel => exact ⟨k + 1, by omega, by go_num, HN, by first | exact True.intro | rfl⟩
            case measure => simp [intOf]; omega
          have HF := Lib.hid (show R = false from HR.out.symm.trans (by unfold keyB; rw [kyc_bad k hlt (show kycI (s[k].toNat : Int) = false from by unfold kycI; simp; omega)]; simp))
          have n47 : ((s[k].toNat : Int) != 47) = true := by rw [bne_iff_ne]; omega
          have n46 : ((s[k].toNat : Int) != 46) = true := by rw [bne_iff_ne]; omega
          have n95 : ((s[k].toNat : Int) != 95) = true := by rw [bne_iff_ne]; omega
          have n45 : ((s[k].toNat : Int) != 45) = true := by rw [bne_iff_ne]; omega
          go_wp2
          go_ret
          exact ⟨by rw [HF.out] <;> rfl, by first | exact True.intro | rfl⟩
        have HN := Lib.hid (kyc_step hlt HQ.out (show kycI (s[k].toNat : Int) = true from by unfold kycI; simp; omega))
        go_wp2
        go_roundw
        case rel => exact ⟨k + 1, by omega, by go_num, HN, by first | exact True.intro | rfl⟩
        case measure => simp [intOf]; omega
      by_cases a2 : 122 < (s[k].toNat : Int)
      · have b1 : ¬ (s[k].toNat : Int) < 48 := by omega
        have b2 : 57 < (s[k].toNat : Int) := by omega
        by_cases e1 : (s[k].toNat : Int) = 47
        · skip
          have HN := Lib.hid (kyc_step hlt HQ.out (show kycI (s[k].toNat : Int) = true from by unfold kycI; simp; omega))
          have n47 : ((s[k].toNat : Int) != 47) = false := by rw [Bool.eq_false_iff, Ne, bne_iff_ne]; omega
          go_wp2
          go_roundw
          case rel => exact ⟨k + 1, by omega, by go_num, HN, by first | exact True.intro | rfl⟩
          case measure => simp [intOf]; omega
        by_cases e2 : (s[k].toNat : Int) = 46
        · skip
          have HN := Lib.hid (kyc_step hlt HQ.out (show kycI (s[k].toNat : Int) = true from by unfold kycI; simp; omega))
          have n47 : ((s[k].toNat : Int) != 47) = true := by rw [bne_iff_ne]; omega
          have n46 : ((s[k].toNat : Int) != 46) = false := by rw [Bool.eq_false_iff, Ne, bne_iff_ne]; omega
          go_wp2
          go_roundw
          case rel => exact ⟨k + 1, by omega, by go_num, HN, by first | exact True.intro | rfl⟩
          case measure => simp [intOf]; omega
        by_cases e3 : (s[k].toNat : Int) = 95
        · skip
          have HN := Lib.hid (kyc_step hlt HQ.out (show kycI (s[k].toNat : Int) = true from by unfold kycI; simp; omega))
          have n47 : ((s[k].toNat : Int) != 47) = true := by rw [bne_iff_ne]; omega
          have n46 : ((s[k].toNat : Int) != 46) = true := by rw [bne_iff_ne]; omega
          have n95 : ((s[k].toNat : Int) != 95) = false := by rw [Bool.eq_false_iff, Ne, bne_iff_ne]; omega
          go_wp2
          go_roundw
          case rel => exact ⟨k + 1, by omega, by go_num, HN, by first | exact True.intro | rfl⟩
          case measure => simp [intOf]; omega
        by_cases e4 : (s[k].toNat : Int) = 45
        · skip
          have HN := Lib.hid (kyc_step hlt HQ.out (show kycI (s[k].toNat : Int) = true from by unfold kycI; simp; omega))
          have n47 : ((s[k].toNat : Int) != 47) = true := by rw [bne_iff_ne]; omega
          have n46 : ((s[k].toNat : Int) != 46) = true := by rw [bne_iff_ne]; omega
          have n95 : ((s[k].toNat : Int) != 95) = true := by rw [bne_iff_ne]; omega
          have n45 : ((s[k].toNat : Int) != 45) = false := by rw [Bool.eq_false_iff, Ne, bne_iff_ne]; omega
          go_wp2
          go_roundw
          case rel => exact ⟨k + 1, by omega, by go_num, HN, by first | exact True.intro | rfl⟩
          case measure => simp [intOf]; omega
        have HF := Lib.hid (show R = false from HR.out.symm.trans (by unfold keyB; rw [kyc_bad k hlt (show kycI (s[k].toNat : Int) = false from by unfold kycI; simp; omega)]; simp))
        have n47 : ((s[k].toNat : Int) != 47) = true := by rw [bne_iff_ne]; omega
        have n46 : ((s[k].toNat : Int) != 46) = true := by rw [bne_iff_ne]; omega
        have n95 : ((s[k].toNat : Int) != 95) = true := by rw [bne_iff_ne]; omega
        have n45 : ((s[k].toNat : Int) != 45) = true := by rw [bne_iff_ne]; omega
        go_wp2
        go_ret
        exact ⟨by rw [HF.out] <;> rfl, by first | exact True.intro | rfl⟩
      have HN := Lib.hid (kyc_step hlt HQ.out (show kycI (s[k].toNat : Int) = true from by unfold kycI; simp; omega))
      go_wp2
      go_roundw
      case rel => exact ⟨k + 1, by omega, by go_num, HN, by first | exact True.intro | rfl⟩
      case measure => simp [intOf]; omega
    · have hlt' : ¬ (k : Int) < (s.length : Int) := by omega
      have HA := Lib.hid (show s.all kyc = true from by have h := HQ.out; rw [List.take_of_length_le (by omega)] at h; exact h)
      by_cases h1 : (1 : Int) ≤ (s.length : Int)
      · by_cases h2 : (s.length : Int) ≤ 24
        · skip
          have HF := Lib.hid (show R = true from HR.out.symm.trans (by unfold keyB; rw [HA.out]; simp; omega))
          go_wp2
          go_ret
          exact ⟨by rw [HF.out] <;> rfl, by first | exact True.intro | rfl⟩
        have h2d : decide ((s.length : Int) ≤ 24) = false := decide_eq_false h2
        have HF := Lib.hid (show R = false from HR.out.symm.trans (by unfold keyB; rw [HA.out]; simp; omega))
        go_wp2
        go_ret
        exact ⟨by rw [HF.out] <;> rfl, by first | exact True.intro | rfl⟩
      have h1d : decide ((1 : Int) ≤ (s.length : Int)) = false := decide_eq_false h1
      have HF := Lib.hid (show R = false from HR.out.symm.trans (by unfold keyB; rw [HA.out]; simp; omega))
      go_wp2
      go_ret
      exact ⟨by rw [HF.out] <;> rfl, by first | exact True.intro | rfl⟩
theorem bl_lo {a b : List UInt8} (h : Op.bytesLess a b = true) : Op.bytesLess b a = false ∧ (b == a) = false := by
  refine ⟨?_, ?_⟩
  · rw [Bool.eq_false_iff]; intro q; have := bl_trans h q; rw [bl_irrefl] at this; cases this
  · rw [beq_eq_false_iff_ne]; rintro rfl; rw [bl_irrefl] at h; cases h
theorem bl_hi {a b : List UInt8} (h : Op.bytesLess a b = false) : Op.bytesLess b a = true ∨ (b == a) = true := by
  cases q : Op.bytesLess b a with
  | true => exact .inl rfl
  | false => exact .inr (beq_iff_eq.2 (bl_tri q h))
theorem bl_leq {a b : List UInt8} {x : Bool} (h : Op.bytesLess a b = x) : (Op.bytesLess b a || (b == a)) = !x := by
  cases x with
  | true => rw [(bl_lo h).1, (bl_lo h).2]; rfl
  | false => rcases bl_hi h with e | e <;> rw [e] <;> simp
def stpA (M : List Pr) (i : Nat) : Bool := keyB (M.getD i p00).key && (decide (i = 0) || Op.bytesLess (M.getD (i - 1) p00).key (M.getD i p00).key)
def ascP (M : List Pr) : Bool := (List.range M.length).all (stpA M)
theorem all_and6 {α : Type} (p q : α → Bool) : ∀ l : List α, l.all (fun x => p x && q x) = (l.all p && l.all q)
  | [] => rfl
  | x :: r => by rw [List.all_cons, List.all_cons, List.all_cons, all_and6 p q r]; cases p x <;> cases q x <;> simp
theorem srt_asc (M : List Pr) : srtB M = (ascP M && M.all fun p => vaB p.v) := by
  have h1 : srtB M = (List.range M.length).all (fun i => stpA M i && vaB (M.getD i p00).v) := by
    unfold srtB; congr 1; funext i; unfold stpP stpA
    generalize keyB _ = x; generalize vaB _ = y; generalize (decide (i = 0) || _) = z
    cases x <;> cases y <;> cases z <;> rfl
  rw [h1, all_and6]
  congr 1
  rw [Bool.eq_iff_iff, List.all_eq_true, List.all_eq_true]
  constructor
  · intro h p hp
    obtain ⟨i, hi, rfl⟩ := List.mem_iff_getElem.1 hp
    have := h i (List.mem_range.2 hi)
    rwa [getD_at hi] at this
  · intro h i hi
    have hi := List.mem_range.1 hi
    rw [getD_at hi]; exact h _ (List.getElem_mem hi)

set_option maxRecDepth 100000 in
set_option maxHeartbeats 8000000 in
theorem Rasc06_any (a : Option Addr) (cap : Nat) (M : List Pr) (w : World) (hl : M.length ≤ 9000000000000) (hx : ∀ p ∈ M, p.key.length ≤ 9223372036854775807 ∧ p.v.s.length ≤ 9223372036854775807) (hM : CellsAt w (.slice a M.length cap) M.length (prLs M)) :
    Calls Tryz.prog 53 #[.slice a M.length cap] w fun e w' => e = .returned (.bool (ascP M)) ∧ Below w.heap.size w w' := by
  obtain ⟨R, hR⟩ : ∃ R, ascP M = R := ⟨_, rfl⟩
  rw [hR]
  have HR := Lib.hid hR; have HM := Lib.hid hM; have HX := Lib.hid hx; clear hR hM hx
  go_enter Tryz.func53, Tryz.ntmps53
  go_wp2
  go_loopw [3] (fun i wr => ∃ k : Nat, k ≤ M.length ∧ i = .int .i64 k ∧ Hid ((List.range k).all (stpA M) = true) ∧ Below w.heap.size w wr) (fun i _ => M.length - (intOf i).toNat)
  case atStart => exact ⟨0, Nat.zero_le _, by first | exact True.intro | rfl, Lib.hid rfl, Below.refl _ _⟩
  case round =>
    obtain ⟨k, hk, rfl, HQ, hB⟩ := hrel
    have HB := Lib.hid hB; clear hB
    by_cases hlt : k < M.length
    · have hlt' : (k : Int) < (M.length : Int) := by omega
      have hkb : (0 : Int) ≤ (k : Int) ∧ (k : Int) < (M.length : Int) := ⟨by omega, by omega⟩
      have hw1 : IntKind.i64.wrap ((k : Int) + 1) = (k : Int) + 1 := by rw [IntKind.wrap_i64]; omega
      obtain ⟨b, off, rfl, p0, -⟩ := pr_cells (HM.out.below HB.out) hlt
      obtain ⟨m, hm⟩ : ∃ m, M[k] = m := ⟨_, rfl⟩
      rw [hm] at p0
      have hmk : m.key.length ≤ 9223372036854775807 := by have := (HX.out _ (List.getElem_mem hlt)).1; rw [hm] at this; exact this
      have HMK := Lib.hid (show M.getD k p00 = m by rw [getD_at hlt, hm]); clear hm
      obtain ⟨kb, hkb2⟩ : ∃ b, keyB m.key = b := ⟨_, rfl⟩
      have HKB := Lib.hid hkb2; clear hkb2
      cases kb with
      | false =>
        have HF := Lib.hid (show R = false from HR.out.symm.trans (rng_bad hlt (by unfold stpA; rw [HMK.out, HKB.out]; rfl)))
        go_wp2_with fail
        have HP0 := Lib.hid p0
        refine wp_region_held_drew (S := (fun w' => Below wr.heap.size wr w')) (by kernel_rfl) ?_ (fun hHeld => ?_)
        · exact (Below.refl _ _).drew
        refine tkX (i := 0) 10 ?_
        simp only [sA, sB, sC]
        refine tkX (i := 1) 11 ?_
        simp only [sA, sB, sC]
        refine tkX (i := 2) 12 ?_
        simp only [sA, sB, sC]
        refine tkX (i := 3) 13 ?_
        simp only [sA, sB, sC]
        refine tkY (i := 4) (v := ?vv5) 14 ?yy5 ?_
        case yy5 =>
          intro wq hSw
          have z0 := cell1_below HP0.out hSw
          clear hSw
          go_simp
          (try with_reducible rfl)
        simp only [sA, sB, sC]
        refine wpAnyH_ready (rs := [5]) (by kernel_rfl) (by simp) ?_
        refine (AllReadyH.cons rfl (fun K hK => ?_) AllReadyH.nil)
        go_simp
        (refine (RKValid_any m.key _ hmk).mono ?_; rw [HKB.out]; rintro er w1 ⟨rfl, rfl⟩)
        focus (try go_wp2_with fail)
        refine hK.out _ _ ?_ (fun hHeld => ?_)
        · exact hHeld
        clear hK K
        (try simp only [Act.put, sA, sB, sC])
        refine tkX (i := 6) 16 ?_
        simp only [sA, sB, sC]
        refine tkX (i := 7) 17 ?_
        simp only [sA, sB, sC]
        refine tkZ (i := 8) 18 ?_
        simp only [sA, sB, sC]
        refine tkZ (i := 9) 19 ?_
        simp only [sA, sB, sC]
        refine tkZ (i := 10) 20 ?_
        simp only [sA, sB, sC]
        refine tkZ (i := 11) 21 ?_
        simp only [sA, sB, sC]
        refine tkZ (i := 12) 22 ?_
        simp only [sA, sB, sC]
        refine tkZ (i := 13) 23 ?_
        simp only [sA, sB, sC]
        refine tkZ (i := 14) 24 ?_
        simp only [sA, sB, sC]
        refine tkZ (i := 15) 25 ?_
        simp only [sA, sB, sC]
        refine tkZ (i := 16) 26 ?_
        simp only [sA, sB, sC]
        refine tkZ (i := 17) 27 ?_
        simp only [sA, sB, sC]
        refine tkZ (i := 18) 28 ?_
        simp only [sA, sB, sC]
        refine tkZ (i := 19) 29 ?_
        simp only [sA, sB, sC]
        refine tkZ (i := 20) 30 ?_
        simp only [sA, sB, sC]
        refine tkZ (i := 21) 31 ?_
        simp only [sA, sB, sC]
        refine tkZ (i := 22) 32 ?_
        simp only [sA, sB, sC]
        refine tkZ (i := 23) 33 ?_
        simp only [sA, sB, sC]
        refine tkX (i := 24) 34 ?_
        simp only [sA, sB, sC]
        refine wpAnyH_done (by kernel_rfl) ?_ _
        clear hHeld
        have HB := Lib.hid (HB.out.trans (Below.refl _ _).drew)
        go_wp2
        go_ret
        exact ⟨by rw [HF.out] <;> rfl, HB.out⟩
      | true =>
        rcases k with _ | j
        · have HN := Lib.hid (rng_step HQ.out (show stpA M 0 = true by unfold stpA; rw [HMK.out, HKB.out]; rfl))
          rw [Nat.zero_mul, Nat.add_zero] at p0
          go_wp2_with fail
          have HP0 := Lib.hid p0
          refine wp_region_held_drew (S := (fun w' => Below wr.heap.size wr w')) (by kernel_rfl) ?_ (fun hHeld => ?_)
          · exact (Below.refl _ _).drew
          refine tkX (i := 0) 10 ?_
          simp only [sA, sB, sC]
          refine tkX (i := 1) 11 ?_
          simp only [sA, sB, sC]
          refine tkX (i := 2) 12 ?_
          simp only [sA, sB, sC]
          refine tkX (i := 3) 13 ?_
          simp only [sA, sB, sC]
          refine tkY (i := 4) (v := ?vv13) 14 ?yy13 ?_
          case yy13 =>
            intro wq hSw
            have z0 := cell1_below HP0.out hSw
            clear hSw
            go_simp
            (try with_reducible rfl)
          simp only [sA, sB, sC]
          refine wpAnyH_ready (rs := [5]) (by kernel_rfl) (by simp) ?_
          refine (AllReadyH.cons rfl (fun K hK => ?_) AllReadyH.nil)
          go_simp
          (refine (RKValid_any m.key _ hmk).mono ?_; rw [HKB.out]; rintro er w1 ⟨rfl, rfl⟩)
          focus (try go_wp2_with fail)
          refine hK.out _ _ ?_ (fun hHeld => ?_)
          · exact hHeld
          clear hK K
          (try simp only [Act.put, sA, sB, sC])
          refine tkX (i := 6) 16 ?_
          simp only [sA, sB, sC]
          refine tkX (i := 7) 17 ?_
          simp only [sA, sB, sC]
          refine tkX (i := 8) 18 ?_
          simp only [sA, sB, sC]
          refine tkX (i := 9) 19 ?_
          simp only [sA, sB, sC]
          refine tkX (i := 10) 20 ?_
          simp only [sA, sB, sC]
          refine tkZ (i := 11) 21 ?_
          simp only [sA, sB, sC]
          refine tkZ (i := 12) 22 ?_
          simp only [sA, sB, sC]
          refine tkZ (i := 13) 23 ?_
          simp only [sA, sB, sC]
          refine tkZ (i := 14) 24 ?_
          simp only [sA, sB, sC]
          refine tkZ (i := 15) 25 ?_
          simp only [sA, sB, sC]
          refine tkZ (i := 16) 26 ?_
          simp only [sA, sB, sC]
          refine tkZ (i := 17) 27 ?_
          simp only [sA, sB, sC]
          refine tkZ (i := 18) 28 ?_
          simp only [sA, sB, sC]
          refine tkZ (i := 19) 29 ?_
          simp only [sA, sB, sC]
          refine tkZ (i := 20) 30 ?_
          simp only [sA, sB, sC]
          refine tkZ (i := 21) 31 ?_
          simp only [sA, sB, sC]
          refine tkZ (i := 22) 32 ?_
          simp only [sA, sB, sC]
          refine tkX (i := 23) 33 ?_
          simp only [sA, sB, sC]
          refine tkX (i := 24) 34 ?_
          simp only [sA, sB, sC]
          refine wpAnyH_done (by kernel_rfl) ?_ _
          clear hHeld
          have HB := Lib.hid (HB.out.trans (Below.refl _ _).drew)
          go_wp2
          go_roundw
          case rel => exact ⟨1, by omega, by go_num, HN, HB.out⟩
          case measure => simp [intOf]; omega
        have hj : j < M.length := by omega
        obtain ⟨b2, off2, hbe, q0, -⟩ := pr_cells (HM.out.below HB.out) hj
        cases hbe
        obtain ⟨m2, hm2⟩ : ∃ m, M[j] = m := ⟨_, rfl⟩
        rw [hm2] at q0
        have HMJ := Lib.hid (show M.getD j p00 = m2 by rw [getD_at hj, hm2]); clear hm2
        have hwj : IntKind.i64.wrap (((j + 1 : Nat) : Int) - 1) = (j : Int) := by rw [IntKind.wrap_i64]; omega
        have hwj2 : IntKind.i64.wrap ((j : Int) + 1 - 1) = (j : Int) := by rw [IntKind.wrap_i64]; omega
        have hwj3 : IntKind.i64.wrap (j : Int) = (j : Int) := by rw [IntKind.wrap_i64]; omega
        have hj0 : (0 : Int) ≤ (j : Int) := by omega
        have hgt : (0 : Int) < ((j + 1 : Nat) : Int) := by omega
        have hgt2 : (0 : Int) < (j : Int) + 1 := by omega
        have hge2 : (0 : Int) ≤ (j : Int) + 1 := by omega
        have hj' : (j : Int) < (M.length : Int) := by omega
        obtain ⟨lb, hlb⟩ : ∃ b, Op.bytesLess m2.key m.key = b := ⟨_, rfl⟩
        have HLB := Lib.hid hlb
        go_wp2_with fail
        have HP0 := Lib.hid p0
        have HQ0 := Lib.hid q0
        refine wp_region_held_drew (S := (fun w' => Below wr.heap.size wr w')) (by kernel_rfl) ?_ (fun hHeld => ?_)
        · exact (Below.refl _ _).drew
        refine tkX (i := 0) 10 ?_
        simp only [sA, sB, sC]
        refine tkX (i := 1) 11 ?_
        simp only [sA, sB, sC]
        refine tkX (i := 2) 12 ?_
        simp only [sA, sB, sC]
        refine tkX (i := 3) 13 ?_
        simp only [sA, sB, sC]
        refine tkY (i := 4) (v := ?vv25) 14 ?yy25 ?_
        case yy25 =>
          intro wq hSw
          have z0 := cell1_below HP0.out hSw
          clear hSw
          go_simp
          (try with_reducible rfl)
        simp only [sA, sB, sC]
        refine wpAnyH_ready (rs := [5]) (by kernel_rfl) (by simp) ?_
        refine (AllReadyH.cons rfl (fun K hK => ?_) AllReadyH.nil)
        go_simp
        (refine (RKValid_any m.key _ hmk).mono ?_; rw [HKB.out]; rintro er w1 ⟨rfl, rfl⟩)
        focus (try go_wp2_with fail)
        refine hK.out _ _ ?_ (fun hHeld => ?_)
        · exact hHeld
        clear hK K
        (try simp only [Act.put, sA, sB, sC])
        refine tkX (i := 6) 16 ?_
        simp only [sA, sB, sC]
        refine tkX (i := 7) 17 ?_
        simp only [sA, sB, sC]
        refine tkX (i := 8) 18 ?_
        simp only [sA, sB, sC]
        refine tkX (i := 9) 19 ?_
        simp only [sA, sB, sC]
        refine tkX (i := 10) 20 ?_
        simp only [sA, sB, sC]
        refine tkX (i := 11) 21 ?_
        simp only [sA, sB, sC]
        refine tkX (i := 12) 22 ?_
        simp only [sA, sB, sC]
        refine tkX (i := 13) 23 ?_
        simp only [sA, sB, sC]
        refine tkX (i := 14) 24 ?_
        simp only [sA, sB, sC]
        refine tkY (i := 15) (v := ?vv35) 25 ?yy35 ?_
        case yy35 =>
          intro wq hSw
          have z0 := cell1_below HP0.out hSw
          clear hSw
          go_simp
          (try with_reducible rfl)
        simp only [sA, sB, sC]
        refine tkX (i := 16) 26 ?_
        simp only [sA, sB, sC]
        refine tkX (i := 17) 27 ?_
        simp only [sA, sB, sC]
        refine tkX (i := 18) 28 ?_
        simp only [sA, sB, sC]
        refine tkX (i := 19) 29 ?_
        simp only [sA, sB, sC]
        refine tkX (i := 20) 30 ?_
        simp only [sA, sB, sC]
        refine tkY (i := 21) (v := ?vv41) 31 ?yy41 ?_
        case yy41 =>
          intro wq hSw
          have z0 := cell1_below HQ0.out hSw
          clear hSw
          go_simp
          (try with_reducible rfl)
        simp only [sA, sB, sC]
        have hleq := bl_leq HLB.out
        refine takeH (i := 22) (v := .bool (!lb)) 32 rfl rfl (by kernel_rfl) (by kernel_rfl) (by kernel_rfl) (fun _ _ _ h => h) (Or.inl ⟨by kernel_rfl, ?yyl⟩) (by assumption) ?_
        case yyl => intro w hSw; clear hSw; go_simp
        simp only [sA, sB, sC]
        clear hleq
        refine tkX (i := 23) 33 ?_
        simp only [sA, sB, sC]
        refine tkX (i := 24) 34 ?_
        simp only [sA, sB, sC]
        refine wpAnyH_done (by kernel_rfl) ?_ _
        clear hHeld
        have HB := Lib.hid (HB.out.trans (Below.refl _ _).drew)
        cases lb with
        | true =>
          have HN := Lib.hid (rng_step HQ.out (show stpA M (j + 1) = true by unfold stpA; rw [HMK.out, HKB.out, Nat.add_sub_cancel, HMJ.out, HLB.out]; simp))
          go_wp2
          go_roundw
          case rel => exact ⟨j + 2, by omega, by go_num, HN, HB.out⟩
          case measure => simp [intOf]; omega
        | false =>
          have HF := Lib.hid (show R = false from HR.out.symm.trans (rng_bad hlt (by unfold stpA; rw [HMK.out, HKB.out, Nat.add_sub_cancel, HMJ.out, HLB.out]; simp)))
          go_wp2
          go_ret
          exact ⟨by rw [HF.out] <;> rfl, HB.out⟩
    · have hlt' : ¬ (k : Int) < (M.length : Int) := by omega
      have hkl : k = M.length := by omega
      have HF := Lib.hid (show R = true from HR.out.symm.trans (by unfold ascP; rw [← hkl]; exact HQ.out))
      clear hkl
      go_wp2
      go_ret
      exact ⟨by rw [HF.out] <;> rfl, HB.out⟩
theorem all_take {p : Pr → Bool} {M : List Pr} {k : Nat} (h : k < M.length) (hq : (M.take k).all p = true) (h2 : p M[k] = true) : (M.take (k + 1)).all p = true := by
  rw [List.take_succ_eq_append_getElem h, List.all_append, hq]; simp [h2]
theorem all_miss {p : Pr → Bool} {M : List Pr} {k : Nat} (h : k < M.length) (h2 : p M[k] = false) : M.all p = false := by
  rw [List.all_eq_false]; exact ⟨M[k], List.getElem_mem h, by rw [h2]; simp⟩
def vaP (p : Pr) : Bool := vaB p.v
theorem any_next6 {p : Pr → Bool} {M : List Pr} {k : Nat} (h : k < M.length) (hq : (M.take k).any p = false) (h2 : p M[k] = false) : (M.take (k + 1)).any p = false := by
  rw [List.take_succ_eq_append_getElem h, List.any_append, hq]; simp [h2]
theorem any_hit6 {p : Pr → Bool} {M : List Pr} {k : Nat} (h : k < M.length) (h2 : p M[k] = true) : M.any p = true := by
  rw [List.any_eq_true]; exact ⟨M[k], List.getElem_mem h, h2⟩

set_option maxRecDepth 100000 in
set_option maxHeartbeats 8000000 in
theorem RVW06_any (a : Option Addr) (cap : Nat) (M : List Pr) (w : World) (hl : M.length ≤ 9000000000000) (hx : ∀ p ∈ M, p.key.length ≤ 9223372036854775807 ∧ p.v.s.length ≤ 9223372036854775807) (hM : CellsAt w (.slice a M.length cap) M.length (prLs M)) :
    Calls Tryz.prog 31 #[.slice a M.length cap] w fun e w' => e = .returned (.bool (srtB M)) ∧ Below w.heap.size w w' := by
  obtain ⟨R, hR⟩ : ∃ R, srtB M = R := ⟨_, rfl⟩
  rw [hR]
  have HR := Lib.hid ((srt_asc M).symm.trans hR); have HM := Lib.hid hM; have HX := Lib.hid hx; clear hR hM hx
  go_enter Tryz.func31, Tryz.ntmps31
  go_wp2
  go_loopw [3] (fun i wr => ∃ k : Nat, k ≤ M.length ∧ i = .int .i64 k ∧ Hid ((M.take k).all vaP = true) ∧ Below w.heap.size w wr) (fun i _ => M.length - (intOf i).toNat)
  case atStart => exact ⟨0, Nat.zero_le _, by first | exact True.intro | rfl, Lib.hid rfl, Below.refl _ _⟩
  case round =>
    obtain ⟨k, hk, rfl, HQ, hB⟩ := hrel
    have HB := Lib.hid hB; clear hB
    by_cases hlt : k < M.length
    · have hlt' : (k : Int) < (M.length : Int) := by omega
      have hkb : (0 : Int) ≤ (k : Int) ∧ (k : Int) < (M.length : Int) := ⟨by omega, by omega⟩
      have hw1 : IntKind.i64.wrap ((k : Int) + 1) = (k : Int) + 1 := by rw [IntKind.wrap_i64]; omega
      obtain ⟨b, off, rfl, p0, p1, p2, p3⟩ := pr_cells (HM.out.below HB.out) hlt
      obtain ⟨m, hm⟩ : ∃ m, M[k] = m := ⟨_, rfl⟩
      rw [hm] at p0 p1 p2 p3
      have hml : m.v.s.length ≤ 9223372036854775807 := by have := (HX.out _ (List.getElem_mem hlt)).2; rw [hm] at this; exact this
      have HMK := Lib.hid hm; clear hm
      obtain ⟨vb, hvb⟩ : ∃ b, vaB m.v = b := ⟨_, rfl⟩
      have HVB := Lib.hid hvb; clear hvb
      go_wp2_with fail
      refine (RVValid_any m.v hml _).mono ?_
      rw [HVB.out]
      rintro er w1 ⟨rfl, hb1⟩
      have HB := Lib.hid (btrans HB.out HB.out.size hb1); clear hb1 p0 p1 p2 p3
      cases vb with
      | false =>
        have HF := Lib.hid (show R = false from HR.out.symm.trans (by rw [show (fun p : Pr => vaB p.v) = vaP from rfl, all_miss hlt (show vaP M[k] = false by rw [HMK.out]; exact HVB.out)]; simp))
        go_wp2
        go_ret
        exact ⟨by rw [HF.out] <;> rfl, HB.out⟩
      | true =>
        have HN := Lib.hid (all_take hlt HQ.out (show vaP M[k] = true by rw [HMK.out]; exact HVB.out))
        go_wp2
        go_roundw
        case rel => exact ⟨k + 1, by omega, by go_num, HN, HB.out⟩
        case measure => simp [intOf]; omega
    · have hlt' : ¬ (k : Int) < (M.length : Int) := by omega
      have HA := Lib.hid (show ascP M = R from (show (ascP M && M.all vaP) = ascP M by have h := HQ.out; rw [List.take_of_length_le (by omega)] at h; rw [h, Bool.and_true]).symm.trans HR.out)
      go_wp2_with fail
      refine (Rasc06_any a cap M _ hl HX.out (HM.out.below HB.out)).mono ?_
      rw [HA.out]
      rintro er w1 ⟨rfl, hb1⟩
      have HB := Lib.hid (btrans HB.out HB.out.size hb1); clear hb1
      go_wp2
      go_ret
      exact ⟨rfl, HB.out⟩
set_option maxRecDepth 100000 in
set_option maxHeartbeats 8000000 in
theorem RSV06_any (a : Option Addr) (cap : Nat) (M : List Pr) (w : World) (hl : M.length ≤ 9000000000000) (hx : ∀ p ∈ M, p.key.length ≤ 9223372036854775807 ∧ p.v.s.length ≤ 9223372036854775807) (hM : CellsAt w (.slice a M.length cap) M.length (prLs M)) :
    Calls Tryz.prog 15 #[.slice a M.length cap] w fun e w' => e = .returned (.bool (stB M)) ∧ Below w.heap.size w w' := by
  obtain ⟨R, hR⟩ : ∃ R, stB M = R := ⟨_, rfl⟩
  rw [hR]
  have HR := Lib.hid hR; have HM := Lib.hid hM; have HX := Lib.hid hx; clear hR hM hx
  go_enter Tryz.func15, Tryz.ntmps15
  go_wp2
  go_loopw [3] (fun i wr => ∃ k : Nat, k ≤ M.length ∧ i = .int .i64 k ∧ Hid ((M.take k).any absB = false) ∧ wr = w) (fun i _ => M.length - (intOf i).toNat)
  case atStart => exact ⟨0, Nat.zero_le _, by first | exact True.intro | rfl, Lib.hid rfl, by first | exact True.intro | rfl⟩
  case round =>
    obtain ⟨k, hk, rfl, HQ, rfl⟩ := hrel
    by_cases hlt : k < M.length
    · have hlt' : (k : Int) < (M.length : Int) := by omega
      have hkb : (0 : Int) ≤ (k : Int) ∧ (k : Int) < (M.length : Int) := ⟨by omega, by omega⟩
      have hw1 : IntKind.i64.wrap ((k : Int) + 1) = (k : Int) + 1 := by rw [IntKind.wrap_i64]; omega
      obtain ⟨b, off, rfl, p0, p1, p2, p3⟩ := pr_cells HM.out hlt
      obtain ⟨m, hm⟩ : ∃ m, M[k] = m := ⟨_, rfl⟩
      rw [hm] at p0 p1 p2 p3
      have HMK := Lib.hid hm; clear hm
      by_cases h0 : m.v.k = 0
      · have t0 : (m.v.k == 0) = true := by rw [h0]; rfl
        have HF := Lib.hid (show R = false from HR.out.symm.trans (by unfold stB; rw [any_hit6 hlt (show absB M[k] = true by rw [HMK.out]; exact decide_eq_true h0)]; simp))
        clear h0
        go_wp2
        go_ret
        exact ⟨by rw [HF.out] <;> rfl, Below.refl _ _⟩
      have t0 : (m.v.k == 0) = false := by rw [beq_eq_false_iff_ne]; exact h0
      have HN := Lib.hid (any_next6 hlt HQ.out (show absB M[k] = false by rw [HMK.out]; exact decide_eq_false h0))
      clear h0
      go_wp2
      go_roundw
      case rel => exact ⟨k + 1, by omega, by go_num, HN, by first | exact True.intro | rfl⟩
      case measure => simp [intOf]; omega
    · have hlt' : ¬ (k : Int) < (M.length : Int) := by omega
      have HA := Lib.hid (show srtB M = R from (show stB M = srtB M by unfold stB; have h := HQ.out; rw [List.take_of_length_le (by omega)] at h; rw [h]; simp).symm.trans HR.out)
      go_wp2_with fail
      refine (RVW06_any a cap M _ hl HX.out HM.out).mono ?_
      rw [HA.out]
      rintro er w1 ⟨rfl, hb1⟩
      go_wp2
      go_ret
      exact ⟨rfl, hb1⟩
end Go.Proofs.YtnglaegofhpleaaGreatDoor
namespace Go.Proofs.YtnglaegofhpleaaGreatDoor
open Go.RowKit

def WithPost (B : Nat) (v : Value) (M : List (List UInt8)) (w : World) (e : Ending) (w' : World) : Prop :=
  ∃ v', e = .returned v' ∧ w'.ownsRow B 9 1 v' M.length (M.map strV) ∧ w.grownBy w' v.ownBlock ∧ (v'.ownBlock = v.ownBlock ∨ ∃ b, v'.ownBlock = some b ∧ w.heap.size ≤ b)
theorem putK_len (L : List (List UInt8)) (i : Nat) (k : List UInt8) (h : i ≤ L.length) : (putK L i k).length = L.length + 1 := by unfold putK; simp; omega
theorem own_drewN {B n k q : Nat} {e : TypeId} {v : Value} {xs : List Value} {w : World} (h : w.ownsRow B e k v n xs) : (w.drewN q).ownsRow B e k v n xs := h

set_option maxRecDepth 100000 in
set_option maxHeartbeats 8000000 in
theorem vwith_any (B : Nat) (v : Value) (L : List (List UInt8)) (k : List UInt8) (w : World) (hs : SortK L) (hown : w.ownsRow B 9 1 v L.length (L.map strV)) (hB : B ≤ w.heap.size) (hl : L.length ≤ 1000000000000) :
    Calls Tryz.prog 94 #[v, .string (bs k)] w (WithPost B v (withK L k) w) := by
  have HO := Lib.hid hown; have HS := Lib.hid hs; clear hs
  rcases own_strs hown with ⟨rfl, rfl⟩ | ⟨g, cap, rfl, hg, hc⟩
  · clear hown
    go_enter Tryz.func94, Tryz.ntmps94
    go_wp2_with fail
    refine (Any2.slices_BinarySearch_string_empty Tryz.lays2_26_laid none 0 (bs k) _).mono ?_
    rintro er w1 ⟨rfl, rfl⟩
    have HX := Lib.hid (Bx.new w1 #[strV k] 9); have HO := Lib.hid (HO.out.alloc (.cells #[strV k] 9)); have HG := Lib.hid (World.grownBy_alloc w1 (.cells #[strV k] 9) none)
    go_wp2_with fail
    refine (insRow_any B (.slice none 0 0) [] k 0 (Nat.le_refl _) _ w1.heap.size HO.out (by simp; omega) HX.out (by simp [Value.ownBlock]) (by simp)).mono ?_
    rintro er w2 ⟨v', rfl, ho, hgr, hov⟩
    have hfin : WithPost B (.slice none 0 0) (withK [] k) w1 (.returned v') w2 := ⟨_, rfl, ho, HG.out.trans hgr, hov.imp id (fun h => ⟨_, h, by simp⟩)⟩
    have HFIN := Lib.hid hfin
    clear ho hgr hov hfin
    go_wp2
    go_ret
    exact HFIN.out
  · obtain ⟨p, hp⟩ : ∃ p, posK L k = p := ⟨_, rfl⟩
    obtain ⟨fb, hfb⟩ : ∃ b, fndK L k = b := ⟨_, rfl⟩
    have hpl : p ≤ L.length := by rw [← hp]; exact pos_le L k
    have HP := Lib.hid hp; have HF := Lib.hid hfb; have HC := Lib.hid hc; clear hp hfb hc hown
    go_enter Tryz.func94, Tryz.ntmps94
    go_wp2_with fail
    refine (BSearch_any g cap L k _ HS.out HC.out hl).mono ?_
    rw [HP.out, HF.out]
    rintro er w1 ⟨rfl, q, rfl⟩
    have HO := Lib.hid (own_drewN (q := q) HO.out); have HG := Lib.hid (grown_drewN w q (some g))
    have hBq : B ≤ (w.drewN q).heap.size := hB
    have hgq : g < (w.drewN q).heap.size := (HO.out.lt g rfl).2
    have hsz : w.heap.size = (w.drewN q).heap.size := rfl
    generalize hW : w.drewN q = v1 at HO HG hBq hgq hsz ⊢
    clear hW
    cases fb with
    | true =>
      have hfin : WithPost B (.slice (some ⟨g, 0, none⟩) L.length cap) (withK L k) w (.returned (.slice (some ⟨g, 0, none⟩) L.length cap)) v1 := ⟨_, rfl, by unfold withK; rw [if_pos HF.out]; exact HO.out, HG.out, .inl rfl⟩
      have HFIN := Lib.hid hfin; clear hfin
      go_wp2
      go_ret
      exact HFIN.out
    | false =>
      have HX := Lib.hid (Bx.new v1 #[strV k] 9); have HO := Lib.hid (HO.out.alloc (.cells #[strV k] 9)); have HG := Lib.hid (HG.out.trans (World.grownBy_alloc v1 (.cells #[strV k] 9) (some g)))
      go_wp2_with fail
      refine (insRow_any B (.slice (some ⟨g, 0, none⟩) L.length cap) L k p hpl _ v1.heap.size HO.out (by simp; omega) HX.out (by simp [Value.ownBlock]; omega) hl).mono ?_
      rintro er w2 ⟨v', rfl, ho, hgr, hov⟩
      have hfin : WithPost B (.slice (some ⟨g, 0, none⟩) L.length cap) (withK L k) w (.returned v') w2 := ⟨_, rfl, by unfold withK; rw [if_neg (by rw [HF.out]; simp), HP.out, putK_len _ _ _ hpl]; exact ho, HG.out.trans hgr, hov.imp id (fun h => ⟨_, h, by simp; omega⟩)⟩
      have HFIN := Lib.hid hfin
      clear ho hgr hov hfin
      go_wp2
      go_ret
      exact HFIN.out
set_option maxRecDepth 100000 in
set_option maxHeartbeats 8000000 in
theorem iwith_any (B : Nat) (v : Value) (L : List (List UInt8)) (k : List UInt8) (w : World) (hs : SortK L) (hown : w.ownsRow B 9 1 v L.length (L.map strV)) (hB : B ≤ w.heap.size) (hl : L.length ≤ 1000000000000) :
    Calls Tryz.prog 175 #[v, .string (bs k)] w (WithPost B v (withK L k) w) := by
  have HO := Lib.hid hown; have HS := Lib.hid hs; clear hs
  rcases own_strs hown with ⟨rfl, rfl⟩ | ⟨g, cap, rfl, hg, hc⟩
  · clear hown
    go_enter Tryz.func175, Tryz.ntmps175
    go_wp2_with fail
    refine (Any2.slices_BinarySearch_string_empty Tryz.lays2_26_laid none 0 (bs k) _).mono ?_
    rintro er w1 ⟨rfl, rfl⟩
    have HX := Lib.hid (Bx.new w1 #[strV k] 9); have HO := Lib.hid (HO.out.alloc (.cells #[strV k] 9)); have HG := Lib.hid (World.grownBy_alloc w1 (.cells #[strV k] 9) none)
    go_wp2_with fail
    refine (insRow_any B (.slice none 0 0) [] k 0 (Nat.le_refl _) _ w1.heap.size HO.out (by simp; omega) HX.out (by simp [Value.ownBlock]) (by simp)).mono ?_
    rintro er w2 ⟨v', rfl, ho, hgr, hov⟩
    have hfin : WithPost B (.slice none 0 0) (withK [] k) w1 (.returned v') w2 := ⟨_, rfl, ho, HG.out.trans hgr, hov.imp id (fun h => ⟨_, h, by simp⟩)⟩
    have HFIN := Lib.hid hfin
    clear ho hgr hov hfin
    go_wp2
    go_ret
    exact HFIN.out
  · obtain ⟨p, hp⟩ : ∃ p, posK L k = p := ⟨_, rfl⟩
    obtain ⟨fb, hfb⟩ : ∃ b, fndK L k = b := ⟨_, rfl⟩
    have hpl : p ≤ L.length := by rw [← hp]; exact pos_le L k
    have HP := Lib.hid hp; have HF := Lib.hid hfb; have HC := Lib.hid hc; clear hp hfb hc hown
    go_enter Tryz.func175, Tryz.ntmps175
    go_wp2_with fail
    refine (BSearch_any g cap L k _ HS.out HC.out hl).mono ?_
    rw [HP.out, HF.out]
    rintro er w1 ⟨rfl, q, rfl⟩
    have HO := Lib.hid (own_drewN (q := q) HO.out); have HG := Lib.hid (grown_drewN w q (some g))
    have hBq : B ≤ (w.drewN q).heap.size := hB
    have hgq : g < (w.drewN q).heap.size := (HO.out.lt g rfl).2
    have hsz : w.heap.size = (w.drewN q).heap.size := rfl
    generalize hW : w.drewN q = v1 at HO HG hBq hgq hsz ⊢
    clear hW
    cases fb with
    | true =>
      have hfin : WithPost B (.slice (some ⟨g, 0, none⟩) L.length cap) (withK L k) w (.returned (.slice (some ⟨g, 0, none⟩) L.length cap)) v1 := ⟨_, rfl, by unfold withK; rw [if_pos HF.out]; exact HO.out, HG.out, .inl rfl⟩
      have HFIN := Lib.hid hfin; clear hfin
      go_wp2
      go_ret
      exact HFIN.out
    | false =>
      have HX := Lib.hid (Bx.new v1 #[strV k] 9); have HO := Lib.hid (HO.out.alloc (.cells #[strV k] 9)); have HG := Lib.hid (HG.out.trans (World.grownBy_alloc v1 (.cells #[strV k] 9) (some g)))
      go_wp2_with fail
      refine (insRow_any B (.slice (some ⟨g, 0, none⟩) L.length cap) L k p hpl _ v1.heap.size HO.out (by simp; omega) HX.out (by simp [Value.ownBlock]; omega) hl).mono ?_
      rintro er w2 ⟨v', rfl, ho, hgr, hov⟩
      have hfin : WithPost B (.slice (some ⟨g, 0, none⟩) L.length cap) (withK L k) w (.returned v') w2 := ⟨_, rfl, by unfold withK; rw [if_neg (by rw [HF.out]; simp), HP.out, putK_len _ _ _ hpl]; exact ho, HG.out.trans hgr, hov.imp id (fun h => ⟨_, h, by simp; omega⟩)⟩
      have HFIN := Lib.hid hfin
      clear ho hgr hov hfin
      go_wp2
      go_ret
      exact HFIN.out
end Go.Proofs.YtnglaegofhpleaaGreatDoor
namespace Go.Proofs.YtnglaegofhpleaaGreatDoor
open Go.RowKit

def entP (e : MapEntry) (p : Pr) : Prop := e.key = .string (bs p.key) ∧ e.val = .agg (vV p.v)
inductive Ents : List MapEntry → List Pr → Prop
  | nil : Ents [] []
  | cons {e p es L} : entP e p → Ents es L → Ents (e :: es) (p :: L)
theorem Ents.snoc {es : List MapEntry} {L : List Pr} {e : MapEntry} {p : Pr} (h : Ents es L) (he : entP e p) : Ents (es ++ [e]) (L ++ [p]) := by
  induction h with
  | nil => exact .cons he .nil
  | cons h1 _ ih => exact .cons h1 ih
/-- block m is a map that holds the pairs L -/
def Mp (m : Nat) (L : List Pr) (W : World) : Prop := ∃ es clock, W.heap[m]? = some (.map es clock) ∧ Ents es.toList L
theorem Mp.lt {m : Nat} {L : List Pr} {W : World} (h : Mp m L W) : m < W.heap.size := by obtain ⟨_, _, h, _⟩ := h; exact lt_heap h
theorem Mp.new (w : World) : Mp w.heap.size [] (w.alloc (.map #[] 0)) := ⟨#[], 0, heap_alloc_new w _, .nil⟩
theorem Mp.kept {m : Nat} {L : List Pr} {W W' : World} {row : Option Nat} (h : Mp m L W) (hg : W.grownBy W' row) (hne : row ≠ some m) : Mp m L W' := by
  have hl := h.lt
  obtain ⟨es, c, h1, h2⟩ := h
  exact ⟨es, c, (hg.block m hl (fun e => hne e.symm)).trans h1, h2⟩
theorem Mp.call {m : Nat} {L : List Pr} {W W' : World} (h : Mp m L W) (hb : Below W.heap.size W W') : Mp m L W' := by
  have hl := h.lt
  obtain ⟨es, c, h1, h2⟩ := h
  exact ⟨es, c, (hb.block _ hl).trans h1, h2⟩
theorem bs_beq (a b : List UInt8) : (bs a == bs b) = (a == b) := by
  by_cases h : a = b
  · subst h
    have : (bs a == bs a) = true := by show ((bs a).data == (bs a).data) = true; exact beq_self_eq_true _
    rw [this]; exact (beq_self_eq_true a).symm
  · have : (bs a == bs b) = false := by
      show ((bs a).data == (bs b).data) = false
      rw [beq_eq_false_iff_ne]; intro e; exact h (bs_inj (by cases ha : bs a; cases hb : bs b; rw [ha, hb] at e; simp only at e; rw [e]))
    rw [this]; exact (beq_eq_false_iff_ne.2 h).symm
theorem getM {m : Nat} {es : Array MapEntry} {c : Nat} {W : World} (h : W.heap[m]? = some (.map es c)) : (getObj m).run Tryz.prog W = .ok (.map es c) W := by simp [getObj, Sem.run, h]
theorem setM {m : Nat} {es : Array MapEntry} {c : Nat} {W : World} (o : Obj) (h : W.heap[m]? = some (.map es c)) : (setObj m o).run Tryz.prog W = .ok () { W with heap := W.heap.setIfInBounds m o } := by simp [setObj, Sem.run, h]
theorem findNow_ents (k : List UInt8) : ∀ {es : List MapEntry} {L : List Pr}, Ents es L → ∀ i, ∃ r, Instr.findNow .string (.string (bs k)) es i = some r ∧ match r with
    | some (_, v) => hasK L k = true ∧ v = .agg (vV (getP L k))
    | none => hasK L k = false
  | _, _, .nil, i => ⟨none, rfl, rfl⟩
  | _, _, .cons (e := e) (p := p) (es := es) (L := L) he h, i => by
    obtain ⟨h1, h2⟩ := he
    have hq : Instr.sameNow .string (.string (bs k)) e.key = some (k == p.key) := by rw [h1]; show some (bs k == bs p.key) = _; rw [bs_beq]
    by_cases hk : p.key = k
    · have hb : (k == p.key) = true := by rw [hk]; exact beq_self_eq_true _
      refine ⟨some (i, e.val), by simp only [Instr.findNow, hq, hb], ?_, ?_⟩
      · unfold hasK; simp [hk]
      · rw [h2, getP_cons, if_pos hk]
    · have hb : (k == p.key) = false := by rw [beq_eq_false_iff_ne]; exact fun e => hk e.symm
      obtain ⟨r, hr, hm⟩ := findNow_ents k h (i + 1)
      refine ⟨r, by simp only [Instr.findNow, hq, hb]; exact hr, ?_⟩
      have e1 : hasK (p :: L) k = hasK L k := by unfold hasK; simp [Ne.symm hk]
      have e2 : getP (p :: L) k = getP L k := by rw [getP_cons, if_neg hk]
      rw [e1, e2]; exact hm
theorem key_ok (b : Bool) (k : ByteArray) (W : World) : (Instr.checkKey b 10000 9 (.string k)).run Tryz.prog W = .ok () W := by
  rw [show (10000 : Nat) = 9999 + 1 from rfl]
  unfold Instr.checkKey
  simp [go_sem]
theorem zero_val (W : World) : (zeroValue 52).run Tryz.prog W = .ok (.agg #[.int .i64 0, .int .i64 0, .string ⟨#[]⟩]) W := by simp [go_sem]
theorem run_look {m : Nat} {L : List Pr} {W : World} (h : Mp m L W) (k : List UInt8) :
    (Instr.lookup 141 (.map (some m)) (.string (bs k)) true).run Tryz.prog W = .ok (.tuple #[.agg (vV (getP L k)), .bool (hasK L k)]) W := by
  obtain ⟨es, c, h1, h2⟩ := h
  obtain ⟨r, hr, hm⟩ := findNow_ents k h2 0
  have hf : (Instr.findKey 9 (.string (bs k)) es.toList).run Tryz.prog W = .ok r W := by
    unfold Instr.findKey; simp [go_sem, hr]
  unfold Instr.lookup
  simp only [Sem.run_bind, run_underlying Tryz.underlying141, Result.andThen_ok, getM h1, Sem.run_pure, key_ok, hf]
  cases r with
  | none =>
    simp only at hm
    have hn : getP L k = v00 := getP_none L (fun q => by rw [hasK, List.contains_iff_mem.2 q] at hm; cases hm)
    simp only [Sem.run_bind, Result.andThen_ok, Sem.run_pure, zero_val, hn, hm]; rfl
  | some iv =>
    obtain ⟨i, v⟩ := iv
    simp only at hm
    simp only [Sem.run_bind, Result.andThen_ok, Sem.run_pure, hm.1, hm.2]; rfl
theorem run_put {m : Nat} {L : List Pr} {W : World} (h : Mp m L W) (p : Pr) (hn : hasK L p.key = false) :
    ∃ W', (Instr.mapUpdate 141 (.map (some m)) (.string (bs p.key)) (.agg (vV p.v))).run Tryz.prog W = .ok () W' ∧ Mp m (L ++ [p]) W' ∧ W.grownBy W' (some m) := by
  obtain ⟨es, c, h1, h2⟩ := h
  obtain ⟨r, hr, hm⟩ := findNow_ents p.key h2 0
  have hr0 : r = none := by
    cases r with
    | none => rfl
    | some iv => obtain ⟨i, v⟩ := iv; simp only at hm; rw [hn] at hm; cases hm.1
  subst hr0
  have hf : (Instr.findKey 9 (.string (bs p.key)) es.toList).run Tryz.prog W = .ok none W := by
    unfold Instr.findKey; simp [go_sem, hr]
  have hl := lt_heap h1
  refine ⟨{ W with heap := W.heap.setIfInBounds m (.map (es.push { key := .string (bs p.key), val := .agg (vV p.v), born := c }) (c + 1)) }, ?_, ⟨es.push { key := .string (bs p.key), val := .agg (vV p.v), born := c }, c + 1, ?_, ?_⟩, ?_⟩
  · unfold Instr.mapUpdate
    simp only [Sem.run_bind, run_underlying Tryz.underlying141, Result.andThen_ok, getM h1, key_ok, hf]
    exact setM _ h1
  · simp [hl]
  · rw [Array.toList_push]; exact h2.snoc ⟨rfl, rfl⟩
  · exact ⟨rfl, rfl, rfl, by simp, fun k hk hne => by simp [show m ≠ k from fun e => hne (by rw [e])]⟩
end Go.Proofs.YtnglaegofhpleaaGreatDoor
namespace Go.Proofs.YtnglaegofhpleaaGreatDoor
open Go.RowKit

set_option maxRecDepth 100000 in
set_option maxHeartbeats 4000000 in
theorem iabort_any (c : Int) (w : World) :
    Calls Tryz.prog 139 #[.int .i64 c] w fun e w' => e = .panicked [stopE 2 c []] ∧ w' = w := by
  go_enter Tryz.func139, Tryz.ntmps139
  go_wp2
  exact ⟨rfl, rfl, rfl⟩
set_option maxRecDepth 100000 in
set_option maxHeartbeats 4000000 in
theorem irestart_any (k : List UInt8) (w : World) :
    Calls Tryz.prog 174 #[.string (bs k)] w fun e w' => e = .panicked [stopE 3 0 k] ∧ w' = w := by
  go_enter Tryz.func174, Tryz.ntmps174
  go_wp2
  exact ⟨rfl, rfl, rfl⟩
set_option maxRecDepth 100000 in
set_option maxHeartbeats 4000000 in
theorem must_yes (w : World) :
    Calls Tryz.prog 136 #[.bool true] w fun e w' => e = .returned (.tuple #[]) ∧ w' = w := by
  go_enter Tryz.func136, Tryz.ntmps136
  go_wp2
  go_end0
  exact ⟨rfl, rfl⟩
set_option maxRecDepth 100000 in
set_option maxHeartbeats 4000000 in
theorem must_no (w : World) :
    Calls Tryz.prog 136 #[.bool false] w fun e w' => e = .panicked [stopE 2 1009 []] ∧ w' = w := by
  go_enter Tryz.func136, Tryz.ntmps136
  go_wp2_with fail
  refine (iabort_any 1009 _).mono ?_
  rintro er w1 ⟨rfl, rfl⟩
  go_wp2
  exact ⟨rfl, rfl, rfl⟩
set_option maxRecDepth 100000 in
set_option maxHeartbeats 4000000 in
theorem integer_any (n : Int) (w : World) :
    Calls Tryz.prog 135 #[.int .i64 n] w fun e w' => e = endR (.ok (numV n)) ∧ Below w.heap.size w w' := by
  obtain ⟨v0, hW0, hb0, hr0⟩ := boxes1 w #[.int .i64 0, .int .i64 0, .string ⟨#[]⟩] 52
  have HW := Lib.hid hW0; have HB := Lib.hid hb0; have HRB := Lib.hid hr0; clear hW0 hb0 hr0
  go_enter Tryz.func135, Tryz.ntmps135
  go_upto_region 1 with (fail)
  rw [HW.out]
  clear HW
  have r0 : v0.cell? ⟨w.heap.size, 0, none⟩ = some (.int .i64 0) := HRB.out.cell 0
  have r1 : v0.cell? ⟨w.heap.size, 1, none⟩ = some (.int .i64 0) := HRB.out.cell 1
  have r2 : v0.cell? ⟨w.heap.size, 2, none⟩ = some (.string ⟨#[]⟩) := HRB.out.cell 2
  have f0 := HRB.out.free 0
  have f1 := HRB.out.free 1
  have f2 := HRB.out.free 2
  have HK := Lib.hid (HRB.out.sets3 (.int .i64 1) (.int .i64 n) (.string ⟨#[]⟩))
  go_wp2
  have k0 := HK.out.cell 0
  have k1 := HK.out.cell 1
  have k2 := HK.out.cell 2
  simp only [List.getElem?_toArray, List.getElem?_cons_zero, List.getElem?_cons_succ] at k0 k1 k2
  refine bodyPost_ret (v := .agg #[.int .i64 1, .int .i64 n, .string ⟨#[]⟩]) (by simp [results, Tryz.results135, go_sem, k0, k1, k2] <;> rfl) rfl ⟨rfl, below_sets3 HB.out w.heap.size (Nat.le_refl _) _ _ _⟩
set_option maxRecDepth 100000 in
set_option maxHeartbeats 4000000 in
theorem itruth_any (b : Bool) (w : World) :
    Calls Tryz.prog 158 #[.bool b] w fun e w' => e = endR (.ok (truV b)) ∧ Below w.heap.size w w' := by
  obtain ⟨v0, hW0, hb0, hr0⟩ := boxes1 w #[.int .i64 0, .int .i64 0, .string ⟨#[]⟩] 52
  have HW := Lib.hid hW0; have HB := Lib.hid hb0; have HRB := Lib.hid hr0; clear hW0 hb0 hr0
  go_enter Tryz.func158, Tryz.ntmps158
  go_upto_region 1 with (fail)
  rw [HW.out]
  clear HW
  cases b with
  | true =>
    have r0 : v0.cell? ⟨w.heap.size, 0, none⟩ = some (.int .i64 0) := HRB.out.cell 0
    have r1 : v0.cell? ⟨w.heap.size, 1, none⟩ = some (.int .i64 0) := HRB.out.cell 1
    have r2 : v0.cell? ⟨w.heap.size, 2, none⟩ = some (.string ⟨#[]⟩) := HRB.out.cell 2
    have f0 := HRB.out.free 0
    have f1 := HRB.out.free 1
    have f2 := HRB.out.free 2
    have HK := Lib.hid (HRB.out.sets3 (.int .i64 3) (.int .i64 1) (.string ⟨#[]⟩))
    go_wp2
    have k0 := HK.out.cell 0
    have k1 := HK.out.cell 1
    have k2 := HK.out.cell 2
    simp only [List.getElem?_toArray, List.getElem?_cons_zero, List.getElem?_cons_succ] at k0 k1 k2
    refine bodyPost_ret (v := .agg #[.int .i64 3, .int .i64 1, .string ⟨#[]⟩]) (by simp [results, Tryz.results158, go_sem, k0, k1, k2] <;> rfl) rfl ⟨rfl, below_sets3 HB.out w.heap.size (Nat.le_refl _) _ _ _⟩
  | false =>
    have r0 : v0.cell? ⟨w.heap.size, 0, none⟩ = some (.int .i64 0) := HRB.out.cell 0
    have r1 : v0.cell? ⟨w.heap.size, 1, none⟩ = some (.int .i64 0) := HRB.out.cell 1
    have r2 : v0.cell? ⟨w.heap.size, 2, none⟩ = some (.string ⟨#[]⟩) := HRB.out.cell 2
    have f0 := HRB.out.free 0
    have f1 := HRB.out.free 1
    have f2 := HRB.out.free 2
    have HK := Lib.hid (HRB.out.sets3 (.int .i64 3) (.int .i64 0) (.string ⟨#[]⟩))
    go_wp2
    have k0 := HK.out.cell 0
    have k1 := HK.out.cell 1
    have k2 := HK.out.cell 2
    simp only [List.getElem?_toArray, List.getElem?_cons_zero, List.getElem?_cons_succ] at k0 k1 k2
    refine bodyPost_ret (v := .agg #[.int .i64 3, .int .i64 0, .string ⟨#[]⟩]) (by simp [results, Tryz.results158, go_sem, k0, k1, k2] <;> rfl) rfl ⟨rfl, below_sets3 HB.out w.heap.size (Nat.le_refl _) _ _ _⟩
set_option maxRecDepth 100000 in
set_option maxHeartbeats 4000000 in
theorem itext_any (s : List UInt8) (hs : s.length ≤ 9223372036854775807) (w : World) :
    Calls Tryz.prog 159 #[.string (bs s)] w fun e w' => e = endR (txS s) ∧ Below w.heap.size w w' := by
  obtain ⟨v0, hW0, hb0, hr0⟩ := boxes1 w #[.int .i64 0, .int .i64 0, .string ⟨#[]⟩] 52
  have HW := Lib.hid hW0; have HB := Lib.hid hb0; have HRB := Lib.hid hr0; clear hW0 hb0 hr0
  go_enter Tryz.func159, Tryz.ntmps159
  go_upto_region 1 with (fail)
  rw [HW.out]
  clear HW
  by_cases h : 64 < s.length
  · have h' : (64 : Int) < (s.length : Int) := by omega
    have HT := Lib.hid (show txS s = .ab 1006 from if_pos h)
    go_wp2_with fail
    refine (iabort_any 1006 _).mono ?_
    rintro er w1 ⟨rfl, rfl⟩
    go_wp2
    exact ⟨rfl, by rw [HT.out] <;> rfl, HB.out⟩
  have h' : ¬ (64 : Int) < (s.length : Int) := by omega
  have HT := Lib.hid (show txS s = .ok (strVl s) from if_neg h)
  clear h
  have r0 : v0.cell? ⟨w.heap.size, 0, none⟩ = some (.int .i64 0) := HRB.out.cell 0
  have r1 : v0.cell? ⟨w.heap.size, 1, none⟩ = some (.int .i64 0) := HRB.out.cell 1
  have r2 : v0.cell? ⟨w.heap.size, 2, none⟩ = some (.string ⟨#[]⟩) := HRB.out.cell 2
  have f0 := HRB.out.free 0
  have f1 := HRB.out.free 1
  have f2 := HRB.out.free 2
  have HK := Lib.hid (HRB.out.sets3 (.int .i64 2) (.int .i64 0) (.string (bs s)))
  go_wp2
  have k0 := HK.out.cell 0
  have k1 := HK.out.cell 1
  have k2 := HK.out.cell 2
  simp only [List.getElem?_toArray, List.getElem?_cons_zero, List.getElem?_cons_succ] at k0 k1 k2
  refine bodyPost_ret (v := .agg #[.int .i64 2, .int .i64 0, .string (bs s)]) (by simp [results, Tryz.results159, go_sem, k0, k1, k2] <;> rfl) rfl ⟨by rw [HT.out] <;> rfl, below_sets3 HB.out w.heap.size (Nat.le_refl _) _ _ _⟩
set_option maxRecDepth 100000 in
set_option maxHeartbeats 4000000 in
theorem exact_any (n e : Int) (w : World) :
    Calls Tryz.prog 156 #[.int .i64 n, .int .i64 e] w fun E w' => E = endR (exS (n, e)) ∧ Below w.heap.size w w' := by
  obtain ⟨v0, hW0, hb0, hr0⟩ := boxes1 w #[.int .i64 0, .int .i64 0, .string ⟨#[]⟩] 52
  have HW := Lib.hid hW0; have HB := Lib.hid hb0; have HRB := Lib.hid hr0; clear hW0 hb0 hr0
  go_enter Tryz.func156, Tryz.ntmps156
  go_upto_region 1 with (fail)
  rw [HW.out]
  clear HW
  by_cases h0 : e = 0
  · subst h0
    have HT := Lib.hid (show exS (n, 0) = .ok (numV n) from if_pos rfl)
    go_wp2_with fail
    refine (integer_any n _).mono ?_
    rintro er w1 ⟨rfl, hb1⟩
    have HRB := Lib.hid (HRB.out.call hb1); have HB := Lib.hid (btrans HB.out HB.out.size hb1); clear hb1
    simp only [endR, vV, numV]
    have r0 : w1.cell? ⟨w.heap.size, 0, none⟩ = some (.int .i64 0) := HRB.out.cell 0
    have r1 : w1.cell? ⟨w.heap.size, 1, none⟩ = some (.int .i64 0) := HRB.out.cell 1
    have r2 : w1.cell? ⟨w.heap.size, 2, none⟩ = some (.string ⟨#[]⟩) := HRB.out.cell 2
    have f0 := HRB.out.free 0
    have f1 := HRB.out.free 1
    have f2 := HRB.out.free 2
    have HK := Lib.hid (HRB.out.sets3 (.int .i64 1) (.int .i64 n) (.string (bs [])))
    go_wp2
    have k0 := HK.out.cell 0
    have k1 := HK.out.cell 1
    have k2 := HK.out.cell 2
    simp only [List.getElem?_toArray, List.getElem?_cons_zero, List.getElem?_cons_succ] at k0 k1 k2
    refine bodyPost_ret (v := .agg #[.int .i64 1, .int .i64 n, .string (bs [])]) (by simp [results, Tryz.results156, go_sem, k0, k1, k2] <;> rfl) rfl ⟨by rw [HT.out] <;> rfl, below_sets3 HB.out w.heap.size (Nat.le_refl _) _ _ _⟩
  have t0 : (e == 0) = false := by rw [beq_eq_false_iff_ne]; exact h0
  by_cases h4 : e = 4
  · have HT := Lib.hid (show exS (n, e) = .ab 1002 by unfold exS; rw [if_neg h0, if_pos h4])
    have t4 : (e == 4) = true := by rw [h4]; rfl
    clear h0 h4
    go_wp2_with fail
    refine (iabort_any 1002 _).mono ?_
    rintro er w1 ⟨rfl, rfl⟩
    go_wp2
    exact ⟨rfl, by rw [HT.out] <;> rfl, HB.out⟩
  have t4 : (e == 4) = false := by rw [beq_eq_false_iff_ne]; exact h4
  have HT := Lib.hid (show exS (n, e) = .ab 1001 by unfold exS; rw [if_neg h0, if_neg h4])
  clear h0 h4
  go_wp2_with fail
  refine (iabort_any 1001 _).mono ?_
  rintro er w1 ⟨rfl, rfl⟩
  go_wp2
  exact ⟨rfl, by rw [HT.out] <;> rfl, HB.out⟩
set_option maxRecDepth 100000 in
set_option maxHeartbeats 8000000 in
theorem arith_any (op a b : Int) (w : World) (ha1 : -9223372036854775808 ≤ a) (ha2 : a ≤ 9223372036854775807) (hb1 : -9223372036854775808 ≤ b) (hb2 : b ≤ 9223372036854775807) :
    Calls Tryz.prog 162 #[.int .i64 op, .int .i64 a, .int .i64 b] w fun E w' => E = endR (exS (ariS op a b)) ∧ Below w.heap.size w w' := by
  obtain ⟨R, hR⟩ : ∃ R, exS (ariS op a b) = R := ⟨_, rfl⟩
  rw [hR]
  obtain ⟨v0, hW0, hb0, hr0⟩ := boxes1 w #[.int .i64 0, .int .i64 0, .string ⟨#[]⟩] 52
  have HW := Lib.hid hW0; have HB := Lib.hid hb0; have HRB := Lib.hid hr0; clear hW0 hb0 hr0
  go_enter Tryz.func162, Tryz.ntmps162
  go_upto_region 1 with (fail)
  rw [HW.out]
  clear HW
  by_cases h4 : op = 4
  · have t4 : (op == 4) = true := by rw [h4]; rfl
    obtain ⟨⟨n, e⟩, hx⟩ : ∃ x, addS a b = x := ⟨_, rfl⟩
    have HX := Lib.hid hx
    have HE := Lib.hid (show exS (n, e) = R by rw [← hR, ← hx]; unfold ariS; rw [if_pos h4])
    clear hx hR h4
    go_wp2_with fail
    refine (Add_any a b _ ha1 ha2 hb1 hb2).mono ?_
    rw [HX.out]
    rintro er w1 ⟨rfl, rfl⟩
    go_wp2_with fail
    refine (exact_any n e _).mono ?_
    rw [HE.out]
    rintro er w2 ⟨rfl, hb2⟩
    have HRB := Lib.hid (HRB.out.call hb2); have HB := Lib.hid (btrans HB.out HB.out.size hb2); clear hb2
    rcases R with v | c | q
    · simp only [endR, vV]
      have r0 : w2.cell? ⟨w.heap.size, 0, none⟩ = some (.int .i64 0) := HRB.out.cell 0
      have r1 : w2.cell? ⟨w.heap.size, 1, none⟩ = some (.int .i64 0) := HRB.out.cell 1
      have r2 : w2.cell? ⟨w.heap.size, 2, none⟩ = some (.string ⟨#[]⟩) := HRB.out.cell 2
      have f0 := HRB.out.free 0
      have f1 := HRB.out.free 1
      have f2 := HRB.out.free 2
      have HK := Lib.hid (HRB.out.sets3 (.int .i64 v.k) (.int .i64 v.n) (.string (bs v.s)))
      go_wp2
      have k0 := HK.out.cell 0
      have k1 := HK.out.cell 1
      have k2 := HK.out.cell 2
      simp only [List.getElem?_toArray, List.getElem?_cons_zero, List.getElem?_cons_succ] at k0 k1 k2
      refine bodyPost_ret (v := .agg #[.int .i64 v.k, .int .i64 v.n, .string (bs v.s)]) (by simp [results, Tryz.results162, go_sem, k0, k1, k2] <;> rfl) rfl ⟨rfl, below_sets3 HB.out w.heap.size (Nat.le_refl _) _ _ _⟩
    · simp only [endR]
      go_wp2
      exact ⟨rfl, rfl, HB.out⟩
    · simp only [endR]
      go_wp2
      exact ⟨rfl, rfl, HB.out⟩
  have t4 : (op == 4) = false := by rw [beq_eq_false_iff_ne]; exact h4
  by_cases h5 : op = 5
  · have t5 : (op == 5) = true := by rw [h5]; rfl
    obtain ⟨⟨n, e⟩, hx⟩ : ∃ x, subS a b = x := ⟨_, rfl⟩
    have HX := Lib.hid hx
    have HE := Lib.hid (show exS (n, e) = R by rw [← hR, ← hx]; unfold ariS; rw [if_neg h4, if_pos h5])
    clear hx hR h4 h5
    go_wp2_with fail
    refine (Sub_any a b _ ha1 ha2 hb1 hb2).mono ?_
    rw [HX.out]
    rintro er w1 ⟨rfl, rfl⟩
    go_wp2_with fail
    refine (exact_any n e _).mono ?_
    rw [HE.out]
    rintro er w2 ⟨rfl, hb2⟩
    have HRB := Lib.hid (HRB.out.call hb2); have HB := Lib.hid (btrans HB.out HB.out.size hb2); clear hb2
    rcases R with v | c | q
    · simp only [endR, vV]
      have r0 : w2.cell? ⟨w.heap.size, 0, none⟩ = some (.int .i64 0) := HRB.out.cell 0
      have r1 : w2.cell? ⟨w.heap.size, 1, none⟩ = some (.int .i64 0) := HRB.out.cell 1
      have r2 : w2.cell? ⟨w.heap.size, 2, none⟩ = some (.string ⟨#[]⟩) := HRB.out.cell 2
      have f0 := HRB.out.free 0
      have f1 := HRB.out.free 1
      have f2 := HRB.out.free 2
      have HK := Lib.hid (HRB.out.sets3 (.int .i64 v.k) (.int .i64 v.n) (.string (bs v.s)))
      go_wp2
      have k0 := HK.out.cell 0
      have k1 := HK.out.cell 1
      have k2 := HK.out.cell 2
      simp only [List.getElem?_toArray, List.getElem?_cons_zero, List.getElem?_cons_succ] at k0 k1 k2
      refine bodyPost_ret (v := .agg #[.int .i64 v.k, .int .i64 v.n, .string (bs v.s)]) (by simp [results, Tryz.results162, go_sem, k0, k1, k2] <;> rfl) rfl ⟨rfl, below_sets3 HB.out w.heap.size (Nat.le_refl _) _ _ _⟩
    · simp only [endR]
      go_wp2
      exact ⟨rfl, rfl, HB.out⟩
    · simp only [endR]
      go_wp2
      exact ⟨rfl, rfl, HB.out⟩
  have t5 : (op == 5) = false := by rw [beq_eq_false_iff_ne]; exact h5
  by_cases h6 : op = 6
  · have t6 : (op == 6) = true := by rw [h6]; rfl
    obtain ⟨⟨n, e⟩, hx⟩ : ∃ x, mulS a b = x := ⟨_, rfl⟩
    have HX := Lib.hid hx
    have HE := Lib.hid (show exS (n, e) = R by rw [← hR, ← hx]; unfold ariS; rw [if_neg h4, if_neg h5, if_pos h6])
    clear hx hR h4 h5 h6
    go_wp2_with fail
    refine (Mul_any a b _ ha1 ha2 hb1 hb2).mono ?_
    rw [HX.out]
    rintro er w1 ⟨rfl, rfl⟩
    go_wp2_with fail
    refine (exact_any n e _).mono ?_
    rw [HE.out]
    rintro er w2 ⟨rfl, hb2⟩
    have HRB := Lib.hid (HRB.out.call hb2); have HB := Lib.hid (btrans HB.out HB.out.size hb2); clear hb2
    rcases R with v | c | q
    · simp only [endR, vV]
      have r0 : w2.cell? ⟨w.heap.size, 0, none⟩ = some (.int .i64 0) := HRB.out.cell 0
      have r1 : w2.cell? ⟨w.heap.size, 1, none⟩ = some (.int .i64 0) := HRB.out.cell 1
      have r2 : w2.cell? ⟨w.heap.size, 2, none⟩ = some (.string ⟨#[]⟩) := HRB.out.cell 2
      have f0 := HRB.out.free 0
      have f1 := HRB.out.free 1
      have f2 := HRB.out.free 2
      have HK := Lib.hid (HRB.out.sets3 (.int .i64 v.k) (.int .i64 v.n) (.string (bs v.s)))
      go_wp2
      have k0 := HK.out.cell 0
      have k1 := HK.out.cell 1
      have k2 := HK.out.cell 2
      simp only [List.getElem?_toArray, List.getElem?_cons_zero, List.getElem?_cons_succ] at k0 k1 k2
      refine bodyPost_ret (v := .agg #[.int .i64 v.k, .int .i64 v.n, .string (bs v.s)]) (by simp [results, Tryz.results162, go_sem, k0, k1, k2] <;> rfl) rfl ⟨rfl, below_sets3 HB.out w.heap.size (Nat.le_refl _) _ _ _⟩
    · simp only [endR]
      go_wp2
      exact ⟨rfl, rfl, HB.out⟩
    · simp only [endR]
      go_wp2
      exact ⟨rfl, rfl, HB.out⟩
  have t6 : (op == 6) = false := by rw [beq_eq_false_iff_ne]; exact h6
  by_cases h7 : op = 7
  · have t7 : (op == 7) = true := by rw [h7]; rfl
    obtain ⟨⟨n, e⟩, hx⟩ : ∃ x, divS a b = x := ⟨_, rfl⟩
    have HX := Lib.hid hx
    have HE := Lib.hid (show exS (n, e) = R by rw [← hR, ← hx]; unfold ariS; rw [if_neg h4, if_neg h5, if_neg h6, if_pos h7])
    clear hx hR h4 h5 h6 h7
    go_wp2_with fail
    refine (Div_any a b _ ha1 ha2 hb1 hb2).mono ?_
    rw [HX.out]
    rintro er w1 ⟨rfl, rfl⟩
    go_wp2_with fail
    refine (exact_any n e _).mono ?_
    rw [HE.out]
    rintro er w2 ⟨rfl, hb2⟩
    have HRB := Lib.hid (HRB.out.call hb2); have HB := Lib.hid (btrans HB.out HB.out.size hb2); clear hb2
    rcases R with v | c | q
    · simp only [endR, vV]
      have r0 : w2.cell? ⟨w.heap.size, 0, none⟩ = some (.int .i64 0) := HRB.out.cell 0
      have r1 : w2.cell? ⟨w.heap.size, 1, none⟩ = some (.int .i64 0) := HRB.out.cell 1
      have r2 : w2.cell? ⟨w.heap.size, 2, none⟩ = some (.string ⟨#[]⟩) := HRB.out.cell 2
      have f0 := HRB.out.free 0
      have f1 := HRB.out.free 1
      have f2 := HRB.out.free 2
      have HK := Lib.hid (HRB.out.sets3 (.int .i64 v.k) (.int .i64 v.n) (.string (bs v.s)))
      go_wp2
      have k0 := HK.out.cell 0
      have k1 := HK.out.cell 1
      have k2 := HK.out.cell 2
      simp only [List.getElem?_toArray, List.getElem?_cons_zero, List.getElem?_cons_succ] at k0 k1 k2
      refine bodyPost_ret (v := .agg #[.int .i64 v.k, .int .i64 v.n, .string (bs v.s)]) (by simp [results, Tryz.results162, go_sem, k0, k1, k2] <;> rfl) rfl ⟨rfl, below_sets3 HB.out w.heap.size (Nat.le_refl _) _ _ _⟩
    · simp only [endR]
      go_wp2
      exact ⟨rfl, rfl, HB.out⟩
    · simp only [endR]
      go_wp2
      exact ⟨rfl, rfl, HB.out⟩
  have t7 : (op == 7) = false := by rw [beq_eq_false_iff_ne]; exact h7
  obtain ⟨⟨n, e⟩, hx⟩ : ∃ x, modS a b = x := ⟨_, rfl⟩
  have HX := Lib.hid hx
  have HE := Lib.hid (show exS (n, e) = R by rw [← hR, ← hx]; unfold ariS; rw [if_neg h4, if_neg h5, if_neg h6, if_neg h7])
  clear hx hR h4 h5 h6 h7
  go_wp2_with fail
  refine (Mod_any a b _ ha1 ha2 hb1 hb2).mono ?_
  rw [HX.out]
  rintro er w1 ⟨rfl, rfl⟩
  go_wp2_with fail
  refine (exact_any n e _).mono ?_
  rw [HE.out]
  rintro er w2 ⟨rfl, hb2⟩
  have HRB := Lib.hid (HRB.out.call hb2); have HB := Lib.hid (btrans HB.out HB.out.size hb2); clear hb2
  rcases R with v | c | q
  · simp only [endR, vV]
    have r0 : w2.cell? ⟨w.heap.size, 0, none⟩ = some (.int .i64 0) := HRB.out.cell 0
    have r1 : w2.cell? ⟨w.heap.size, 1, none⟩ = some (.int .i64 0) := HRB.out.cell 1
    have r2 : w2.cell? ⟨w.heap.size, 2, none⟩ = some (.string ⟨#[]⟩) := HRB.out.cell 2
    have f0 := HRB.out.free 0
    have f1 := HRB.out.free 1
    have f2 := HRB.out.free 2
    have HK := Lib.hid (HRB.out.sets3 (.int .i64 v.k) (.int .i64 v.n) (.string (bs v.s)))
    go_wp2
    have k0 := HK.out.cell 0
    have k1 := HK.out.cell 1
    have k2 := HK.out.cell 2
    simp only [List.getElem?_toArray, List.getElem?_cons_zero, List.getElem?_cons_succ] at k0 k1 k2
    refine bodyPost_ret (v := .agg #[.int .i64 v.k, .int .i64 v.n, .string (bs v.s)]) (by simp [results, Tryz.results162, go_sem, k0, k1, k2] <;> rfl) rfl ⟨rfl, below_sets3 HB.out w.heap.size (Nat.le_refl _) _ _ _⟩
  · simp only [endR]
    go_wp2
    exact ⟨rfl, rfl, HB.out⟩
  · simp only [endR]
    go_wp2
    exact ⟨rfl, rfl, HB.out⟩
set_option maxRecDepth 100000 in
set_option maxHeartbeats 16000000 in
theorem icompare_any (op : Int) (a b : Vl) (w : World) (h10 : 10 ≤ op) (h15 : op ≤ 15) :
    Calls Tryz.prog 163 #[.int .i64 op, .agg (vV a), .agg (vV b)] w fun E w' => E = endR (cmpS op a b) ∧ Below w.heap.size w w' := by
  obtain ⟨ak, an, az⟩ := a
  obtain ⟨bk, bn, bz⟩ := b
  obtain ⟨R, hR⟩ : ∃ R, cmpS op ⟨ak, an, az⟩ ⟨bk, bn, bz⟩ = R := ⟨_, rfl⟩
  rw [hR]
  simp only [vV]
  obtain ⟨c, hc⟩ : ∃ c, cmpV ⟨ak, an, az⟩ ⟨bk, bn, bz⟩ = c := ⟨_, rfl⟩
  have HCV := Lib.hid hc
  have HR := Lib.hid hR
  clear hR hc
  have hb0 := ((((Below.refl w.heap.size w).alloc (Nat.le_refl _) (.cells #[.int .i64 ak, .int .i64 an, .string (bs az)] 52)).alloc (by simp) (.cells #[.int .i64 bk, .int .i64 bn, .string (bs bz)] 52)).alloc (by simp; try omega) (.cells #[.int .i64 0, .int .i64 0, .string ⟨#[]⟩] 52))
  have h_HA := (((Bx.new w #[.int .i64 ak, .int .i64 an, .string (bs az)] 52).alloc (.cells #[.int .i64 bk, .int .i64 bn, .string (bs bz)] 52)).alloc (.cells #[.int .i64 0, .int .i64 0, .string ⟨#[]⟩] 52))
  have h_HC := ((Bx.new (w.alloc (.cells #[.int .i64 ak, .int .i64 an, .string (bs az)] 52)) #[.int .i64 bk, .int .i64 bn, .string (bs bz)] 52).alloc (.cells #[.int .i64 0, .int .i64 0, .string ⟨#[]⟩] 52))
  rw [show (w.alloc (.cells #[.int .i64 ak, .int .i64 an, .string (bs az)] 52)).heap.size = w.heap.size + 1 by simp] at h_HC
  have h_HRB := (Bx.new ((w.alloc (.cells #[.int .i64 ak, .int .i64 an, .string (bs az)] 52)).alloc (.cells #[.int .i64 bk, .int .i64 bn, .string (bs bz)] 52)) #[.int .i64 0, .int .i64 0, .string ⟨#[]⟩] 52)
  rw [show ((w.alloc (.cells #[.int .i64 ak, .int .i64 an, .string (bs az)] 52)).alloc (.cells #[.int .i64 bk, .int .i64 bn, .string (bs bz)] 52)).heap.size = w.heap.size + 2 by simp] at h_HRB
  have HB := Lib.hid hb0; have HA := Lib.hid h_HA; have HC := Lib.hid h_HC; have HRB := Lib.hid h_HRB
  clear hb0 h_HA h_HC h_HRB
  go_enter Tryz.func163, Tryz.ntmps163
  go_upto_region 1 with (fail)
  generalize hW0 : ((w.alloc (.cells #[.int .i64 ak, .int .i64 an, .string (bs az)] 52)).alloc (.cells #[.int .i64 bk, .int .i64 bn, .string (bs bz)] 52)).alloc (.cells #[.int .i64 0, .int .i64 0, .string ⟨#[]⟩] 52) = v0 at HB HA HC HRB ⊢
  clear hW0
  have a0 : v0.cell? ⟨w.heap.size, 0, none⟩ = some (.int .i64 ak) := HA.out.cell 0
  have a1 : v0.cell? ⟨w.heap.size, 1, none⟩ = some (.int .i64 an) := HA.out.cell 1
  have a2 : v0.cell? ⟨w.heap.size, 2, none⟩ = some (.string (bs az)) := HA.out.cell 2
  have b0 : v0.cell? ⟨(w.heap.size + 1), 0, none⟩ = some (.int .i64 bk) := HC.out.cell 0
  have b1 : v0.cell? ⟨(w.heap.size + 1), 1, none⟩ = some (.int .i64 bn) := HC.out.cell 1
  have b2 : v0.cell? ⟨(w.heap.size + 1), 2, none⟩ = some (.string (bs bz)) := HC.out.cell 2
  by_cases hk : ak = bk
  rotate_left
  · have tk : (ak == bk) = false := by rw [beq_eq_false_iff_ne]; exact hk
    have HF := Lib.hid (show R = .ab 1009 from HR.out.symm.trans (if_neg (fun h => hk h.1)))
    clear hk
    go_wp2_with fail
    refine (must_no _).mono ?_
    rintro er w9 ⟨rfl, rfl⟩
    go_wp2
    exact ⟨rfl, by rw [HF.out] <;> rfl, HB.out⟩
  subst hk
  have tk : (ak == ak) = true := beq_self_eq_true ak
  obtain ⟨okb, hokb⟩ : ∃ q : Bool, q = (ak == 1 || (ak == 2 || (ak == 3 && decide (op ≤ 11)))) := ⟨_, rfl⟩
  clear okb hokb
  by_cases hk1 : ak = 1
  · have tk1 : (ak == 1) = true := by rw [hk1]; rfl
    have HF := Lib.hid (show R = .ok (truV (cmpB op c)) from HR.out.symm.trans ((if_pos ⟨rfl, .inl hk1⟩).trans (by rw [HCV.out])))
    clear hk1
    go_wp2_with fail
    refine (must_yes _).mono ?_
    rintro er w1 ⟨rfl, rfl⟩
    go_wp2_with fail
    refine (VCompare_any ⟨ak, an, az⟩ ⟨ak, bn, bz⟩ _).mono ?_
    rw [HCV.out]
    rintro er w2 ⟨rfl, hb2⟩
    clear a0 a1 a2
    clear b0 b1 b2
    have HA := Lib.hid (HA.out.call hb2); have HC := Lib.hid (HC.out.call hb2); have HRB := Lib.hid (HRB.out.call hb2); have HB := Lib.hid (btrans HB.out HB.out.size hb2); clear hb2
    have hop : op = 10 ∨ op = 11 ∨ op = 12 ∨ op = 13 ∨ op = 14 ∨ op = 15 := by omega
    clear h10 h15 tk
    rcases hop with rfl | rfl | rfl | rfl | rfl | rfl
    · by_cases hq : c = 0
      · have HG := Lib.hid (show cmpB 10 c = true from decide_eq_true hq)
        have tq : (c == 0) = true := by rw [hq]; rfl
        clear hq
        go_wp2_with fail
        refine (itruth_any true _).mono ?_
        rintro er w3 ⟨rfl, hb3⟩
        have HA := Lib.hid (HA.out.call hb3); have HC := Lib.hid (HC.out.call hb3); have HRB := Lib.hid (HRB.out.call hb3); have HB := Lib.hid (btrans HB.out HB.out.size hb3); clear hb3
        simp only [endR, vV, truV, if_true]
        have r0 : w3.cell? ⟨(w.heap.size + 2), 0, none⟩ = some (.int .i64 0) := HRB.out.cell 0
        have r1 : w3.cell? ⟨(w.heap.size + 2), 1, none⟩ = some (.int .i64 0) := HRB.out.cell 1
        have r2 : w3.cell? ⟨(w.heap.size + 2), 2, none⟩ = some (.string ⟨#[]⟩) := HRB.out.cell 2
        have f0 := HRB.out.free 0
        have f1 := HRB.out.free 1
        have f2 := HRB.out.free 2
        have HK := Lib.hid (HRB.out.sets3 (.int .i64 3) (.int .i64 1) (.string (bs [])))
        go_wp2
        have k0 := HK.out.cell 0
        have k1 := HK.out.cell 1
        have k2 := HK.out.cell 2
        simp only [List.getElem?_toArray, List.getElem?_cons_zero, List.getElem?_cons_succ] at k0 k1 k2
        refine bodyPost_ret (v := .agg #[.int .i64 3, .int .i64 1, .string (bs [])]) (by simp [results, Tryz.results163, go_sem, k0, k1, k2] <;> rfl) rfl ⟨by rw [HF.out, HG.out] <;> rfl, below_sets3 HB.out (w.heap.size + 2) (by omega) _ _ _⟩
      · have HG := Lib.hid (show cmpB 10 c = false from decide_eq_false hq)
        have tq : (c == 0) = false := by rw [beq_eq_false_iff_ne]; exact hq
        clear hq
        go_wp2_with fail
        refine (itruth_any false _).mono ?_
        rintro er w3 ⟨rfl, hb3⟩
        have HA := Lib.hid (HA.out.call hb3); have HC := Lib.hid (HC.out.call hb3); have HRB := Lib.hid (HRB.out.call hb3); have HB := Lib.hid (btrans HB.out HB.out.size hb3); clear hb3
        simp only [endR, vV, truV, Bool.false_eq_true, if_false]
        have r0 : w3.cell? ⟨(w.heap.size + 2), 0, none⟩ = some (.int .i64 0) := HRB.out.cell 0
        have r1 : w3.cell? ⟨(w.heap.size + 2), 1, none⟩ = some (.int .i64 0) := HRB.out.cell 1
        have r2 : w3.cell? ⟨(w.heap.size + 2), 2, none⟩ = some (.string ⟨#[]⟩) := HRB.out.cell 2
        have f0 := HRB.out.free 0
        have f1 := HRB.out.free 1
        have f2 := HRB.out.free 2
        have HK := Lib.hid (HRB.out.sets3 (.int .i64 3) (.int .i64 0) (.string (bs [])))
        go_wp2
        have k0 := HK.out.cell 0
        have k1 := HK.out.cell 1
        have k2 := HK.out.cell 2
        simp only [List.getElem?_toArray, List.getElem?_cons_zero, List.getElem?_cons_succ] at k0 k1 k2
        refine bodyPost_ret (v := .agg #[.int .i64 3, .int .i64 0, .string (bs [])]) (by simp [results, Tryz.results163, go_sem, k0, k1, k2] <;> rfl) rfl ⟨by rw [HF.out, HG.out] <;> rfl, below_sets3 HB.out (w.heap.size + 2) (by omega) _ _ _⟩
    · by_cases hq : c = 0
      · have HG := Lib.hid (show cmpB 11 c = false from decide_eq_false (fun h => h hq))
        have tq : (c != 0) = false := by rw [hq]; rfl
        clear hq
        go_wp2_with fail
        refine (itruth_any false _).mono ?_
        rintro er w3 ⟨rfl, hb3⟩
        have HA := Lib.hid (HA.out.call hb3); have HC := Lib.hid (HC.out.call hb3); have HRB := Lib.hid (HRB.out.call hb3); have HB := Lib.hid (btrans HB.out HB.out.size hb3); clear hb3
        simp only [endR, vV, truV, Bool.false_eq_true, if_false]
        have r0 : w3.cell? ⟨(w.heap.size + 2), 0, none⟩ = some (.int .i64 0) := HRB.out.cell 0
        have r1 : w3.cell? ⟨(w.heap.size + 2), 1, none⟩ = some (.int .i64 0) := HRB.out.cell 1
        have r2 : w3.cell? ⟨(w.heap.size + 2), 2, none⟩ = some (.string ⟨#[]⟩) := HRB.out.cell 2
        have f0 := HRB.out.free 0
        have f1 := HRB.out.free 1
        have f2 := HRB.out.free 2
        have HK := Lib.hid (HRB.out.sets3 (.int .i64 3) (.int .i64 0) (.string (bs [])))
        go_wp2
        have k0 := HK.out.cell 0
        have k1 := HK.out.cell 1
        have k2 := HK.out.cell 2
        simp only [List.getElem?_toArray, List.getElem?_cons_zero, List.getElem?_cons_succ] at k0 k1 k2
        refine bodyPost_ret (v := .agg #[.int .i64 3, .int .i64 0, .string (bs [])]) (by simp [results, Tryz.results163, go_sem, k0, k1, k2] <;> rfl) rfl ⟨by rw [HF.out, HG.out] <;> rfl, below_sets3 HB.out (w.heap.size + 2) (by omega) _ _ _⟩
      · have HG := Lib.hid (show cmpB 11 c = true from decide_eq_true hq)
        have tq : (c != 0) = true := by rw [bne_iff_ne]; exact hq
        clear hq
        go_wp2_with fail
        refine (itruth_any true _).mono ?_
        rintro er w3 ⟨rfl, hb3⟩
        have HA := Lib.hid (HA.out.call hb3); have HC := Lib.hid (HC.out.call hb3); have HRB := Lib.hid (HRB.out.call hb3); have HB := Lib.hid (btrans HB.out HB.out.size hb3); clear hb3
        simp only [endR, vV, truV, if_true]
        have r0 : w3.cell? ⟨(w.heap.size + 2), 0, none⟩ = some (.int .i64 0) := HRB.out.cell 0
        have r1 : w3.cell? ⟨(w.heap.size + 2), 1, none⟩ = some (.int .i64 0) := HRB.out.cell 1
        have r2 : w3.cell? ⟨(w.heap.size + 2), 2, none⟩ = some (.string ⟨#[]⟩) := HRB.out.cell 2
        have f0 := HRB.out.free 0
        have f1 := HRB.out.free 1
        have f2 := HRB.out.free 2
        have HK := Lib.hid (HRB.out.sets3 (.int .i64 3) (.int .i64 1) (.string (bs [])))
        go_wp2
        have k0 := HK.out.cell 0
        have k1 := HK.out.cell 1
        have k2 := HK.out.cell 2
        simp only [List.getElem?_toArray, List.getElem?_cons_zero, List.getElem?_cons_succ] at k0 k1 k2
        refine bodyPost_ret (v := .agg #[.int .i64 3, .int .i64 1, .string (bs [])]) (by simp [results, Tryz.results163, go_sem, k0, k1, k2] <;> rfl) rfl ⟨by rw [HF.out, HG.out] <;> rfl, below_sets3 HB.out (w.heap.size + 2) (by omega) _ _ _⟩
    · by_cases hq : c < 0
      · have HG := Lib.hid (show cmpB 12 c = true from decide_eq_true hq)
        go_wp2_with fail
        refine (itruth_any true _).mono ?_
        rintro er w3 ⟨rfl, hb3⟩
        have HA := Lib.hid (HA.out.call hb3); have HC := Lib.hid (HC.out.call hb3); have HRB := Lib.hid (HRB.out.call hb3); have HB := Lib.hid (btrans HB.out HB.out.size hb3); clear hb3
        simp only [endR, vV, truV, if_true]
        have r0 : w3.cell? ⟨(w.heap.size + 2), 0, none⟩ = some (.int .i64 0) := HRB.out.cell 0
        have r1 : w3.cell? ⟨(w.heap.size + 2), 1, none⟩ = some (.int .i64 0) := HRB.out.cell 1
        have r2 : w3.cell? ⟨(w.heap.size + 2), 2, none⟩ = some (.string ⟨#[]⟩) := HRB.out.cell 2
        have f0 := HRB.out.free 0
        have f1 := HRB.out.free 1
        have f2 := HRB.out.free 2
        have HK := Lib.hid (HRB.out.sets3 (.int .i64 3) (.int .i64 1) (.string (bs [])))
        go_wp2
        have k0 := HK.out.cell 0
        have k1 := HK.out.cell 1
        have k2 := HK.out.cell 2
        simp only [List.getElem?_toArray, List.getElem?_cons_zero, List.getElem?_cons_succ] at k0 k1 k2
        refine bodyPost_ret (v := .agg #[.int .i64 3, .int .i64 1, .string (bs [])]) (by simp [results, Tryz.results163, go_sem, k0, k1, k2] <;> rfl) rfl ⟨by rw [HF.out, HG.out] <;> rfl, below_sets3 HB.out (w.heap.size + 2) (by omega) _ _ _⟩
      · have HG := Lib.hid (show cmpB 12 c = false from decide_eq_false hq)
        have tq : decide (c < 0) = false := decide_eq_false hq
        clear hq
        go_wp2_with fail
        refine (itruth_any false _).mono ?_
        rintro er w3 ⟨rfl, hb3⟩
        have HA := Lib.hid (HA.out.call hb3); have HC := Lib.hid (HC.out.call hb3); have HRB := Lib.hid (HRB.out.call hb3); have HB := Lib.hid (btrans HB.out HB.out.size hb3); clear hb3
        simp only [endR, vV, truV, Bool.false_eq_true, if_false]
        have r0 : w3.cell? ⟨(w.heap.size + 2), 0, none⟩ = some (.int .i64 0) := HRB.out.cell 0
        have r1 : w3.cell? ⟨(w.heap.size + 2), 1, none⟩ = some (.int .i64 0) := HRB.out.cell 1
        have r2 : w3.cell? ⟨(w.heap.size + 2), 2, none⟩ = some (.string ⟨#[]⟩) := HRB.out.cell 2
        have f0 := HRB.out.free 0
        have f1 := HRB.out.free 1
        have f2 := HRB.out.free 2
        have HK := Lib.hid (HRB.out.sets3 (.int .i64 3) (.int .i64 0) (.string (bs [])))
        go_wp2
        have k0 := HK.out.cell 0
        have k1 := HK.out.cell 1
        have k2 := HK.out.cell 2
        simp only [List.getElem?_toArray, List.getElem?_cons_zero, List.getElem?_cons_succ] at k0 k1 k2
        refine bodyPost_ret (v := .agg #[.int .i64 3, .int .i64 0, .string (bs [])]) (by simp [results, Tryz.results163, go_sem, k0, k1, k2] <;> rfl) rfl ⟨by rw [HF.out, HG.out] <;> rfl, below_sets3 HB.out (w.heap.size + 2) (by omega) _ _ _⟩
    · by_cases hq : c ≤ 0
      · have HG := Lib.hid (show cmpB 13 c = true from decide_eq_true hq)
        go_wp2_with fail
        refine (itruth_any true _).mono ?_
        rintro er w3 ⟨rfl, hb3⟩
        have HA := Lib.hid (HA.out.call hb3); have HC := Lib.hid (HC.out.call hb3); have HRB := Lib.hid (HRB.out.call hb3); have HB := Lib.hid (btrans HB.out HB.out.size hb3); clear hb3
        simp only [endR, vV, truV, if_true]
        have r0 : w3.cell? ⟨(w.heap.size + 2), 0, none⟩ = some (.int .i64 0) := HRB.out.cell 0
        have r1 : w3.cell? ⟨(w.heap.size + 2), 1, none⟩ = some (.int .i64 0) := HRB.out.cell 1
        have r2 : w3.cell? ⟨(w.heap.size + 2), 2, none⟩ = some (.string ⟨#[]⟩) := HRB.out.cell 2
        have f0 := HRB.out.free 0
        have f1 := HRB.out.free 1
        have f2 := HRB.out.free 2
        have HK := Lib.hid (HRB.out.sets3 (.int .i64 3) (.int .i64 1) (.string (bs [])))
        go_wp2
        have k0 := HK.out.cell 0
        have k1 := HK.out.cell 1
        have k2 := HK.out.cell 2
        simp only [List.getElem?_toArray, List.getElem?_cons_zero, List.getElem?_cons_succ] at k0 k1 k2
        refine bodyPost_ret (v := .agg #[.int .i64 3, .int .i64 1, .string (bs [])]) (by simp [results, Tryz.results163, go_sem, k0, k1, k2] <;> rfl) rfl ⟨by rw [HF.out, HG.out] <;> rfl, below_sets3 HB.out (w.heap.size + 2) (by omega) _ _ _⟩
      · have HG := Lib.hid (show cmpB 13 c = false from decide_eq_false hq)
        have tq : decide (c ≤ 0) = false := decide_eq_false hq
        clear hq
        go_wp2_with fail
        refine (itruth_any false _).mono ?_
        rintro er w3 ⟨rfl, hb3⟩
        have HA := Lib.hid (HA.out.call hb3); have HC := Lib.hid (HC.out.call hb3); have HRB := Lib.hid (HRB.out.call hb3); have HB := Lib.hid (btrans HB.out HB.out.size hb3); clear hb3
        simp only [endR, vV, truV, Bool.false_eq_true, if_false]
        have r0 : w3.cell? ⟨(w.heap.size + 2), 0, none⟩ = some (.int .i64 0) := HRB.out.cell 0
        have r1 : w3.cell? ⟨(w.heap.size + 2), 1, none⟩ = some (.int .i64 0) := HRB.out.cell 1
        have r2 : w3.cell? ⟨(w.heap.size + 2), 2, none⟩ = some (.string ⟨#[]⟩) := HRB.out.cell 2
        have f0 := HRB.out.free 0
        have f1 := HRB.out.free 1
        have f2 := HRB.out.free 2
        have HK := Lib.hid (HRB.out.sets3 (.int .i64 3) (.int .i64 0) (.string (bs [])))
        go_wp2
        have k0 := HK.out.cell 0
        have k1 := HK.out.cell 1
        have k2 := HK.out.cell 2
        simp only [List.getElem?_toArray, List.getElem?_cons_zero, List.getElem?_cons_succ] at k0 k1 k2
        refine bodyPost_ret (v := .agg #[.int .i64 3, .int .i64 0, .string (bs [])]) (by simp [results, Tryz.results163, go_sem, k0, k1, k2] <;> rfl) rfl ⟨by rw [HF.out, HG.out] <;> rfl, below_sets3 HB.out (w.heap.size + 2) (by omega) _ _ _⟩
    · by_cases hq : 0 < c
      · have HG := Lib.hid (show cmpB 14 c = true from decide_eq_true hq)
        go_wp2_with fail
        refine (itruth_any true _).mono ?_
        rintro er w3 ⟨rfl, hb3⟩
        have HA := Lib.hid (HA.out.call hb3); have HC := Lib.hid (HC.out.call hb3); have HRB := Lib.hid (HRB.out.call hb3); have HB := Lib.hid (btrans HB.out HB.out.size hb3); clear hb3
        simp only [endR, vV, truV, if_true]
        have r0 : w3.cell? ⟨(w.heap.size + 2), 0, none⟩ = some (.int .i64 0) := HRB.out.cell 0
        have r1 : w3.cell? ⟨(w.heap.size + 2), 1, none⟩ = some (.int .i64 0) := HRB.out.cell 1
        have r2 : w3.cell? ⟨(w.heap.size + 2), 2, none⟩ = some (.string ⟨#[]⟩) := HRB.out.cell 2
        have f0 := HRB.out.free 0
        have f1 := HRB.out.free 1
        have f2 := HRB.out.free 2
        have HK := Lib.hid (HRB.out.sets3 (.int .i64 3) (.int .i64 1) (.string (bs [])))
        go_wp2
        have k0 := HK.out.cell 0
        have k1 := HK.out.cell 1
        have k2 := HK.out.cell 2
        simp only [List.getElem?_toArray, List.getElem?_cons_zero, List.getElem?_cons_succ] at k0 k1 k2
        refine bodyPost_ret (v := .agg #[.int .i64 3, .int .i64 1, .string (bs [])]) (by simp [results, Tryz.results163, go_sem, k0, k1, k2] <;> rfl) rfl ⟨by rw [HF.out, HG.out] <;> rfl, below_sets3 HB.out (w.heap.size + 2) (by omega) _ _ _⟩
      · have HG := Lib.hid (show cmpB 14 c = false from decide_eq_false hq)
        have tq : decide (0 < c) = false := decide_eq_false hq
        clear hq
        go_wp2_with fail
        refine (itruth_any false _).mono ?_
        rintro er w3 ⟨rfl, hb3⟩
        have HA := Lib.hid (HA.out.call hb3); have HC := Lib.hid (HC.out.call hb3); have HRB := Lib.hid (HRB.out.call hb3); have HB := Lib.hid (btrans HB.out HB.out.size hb3); clear hb3
        simp only [endR, vV, truV, Bool.false_eq_true, if_false]
        have r0 : w3.cell? ⟨(w.heap.size + 2), 0, none⟩ = some (.int .i64 0) := HRB.out.cell 0
        have r1 : w3.cell? ⟨(w.heap.size + 2), 1, none⟩ = some (.int .i64 0) := HRB.out.cell 1
        have r2 : w3.cell? ⟨(w.heap.size + 2), 2, none⟩ = some (.string ⟨#[]⟩) := HRB.out.cell 2
        have f0 := HRB.out.free 0
        have f1 := HRB.out.free 1
        have f2 := HRB.out.free 2
        have HK := Lib.hid (HRB.out.sets3 (.int .i64 3) (.int .i64 0) (.string (bs [])))
        go_wp2
        have k0 := HK.out.cell 0
        have k1 := HK.out.cell 1
        have k2 := HK.out.cell 2
        simp only [List.getElem?_toArray, List.getElem?_cons_zero, List.getElem?_cons_succ] at k0 k1 k2
        refine bodyPost_ret (v := .agg #[.int .i64 3, .int .i64 0, .string (bs [])]) (by simp [results, Tryz.results163, go_sem, k0, k1, k2] <;> rfl) rfl ⟨by rw [HF.out, HG.out] <;> rfl, below_sets3 HB.out (w.heap.size + 2) (by omega) _ _ _⟩
    · by_cases hq : 0 ≤ c
      · have HG := Lib.hid (show cmpB 15 c = true from decide_eq_true hq)
        go_wp2_with fail
        refine (itruth_any true _).mono ?_
        rintro er w3 ⟨rfl, hb3⟩
        have HA := Lib.hid (HA.out.call hb3); have HC := Lib.hid (HC.out.call hb3); have HRB := Lib.hid (HRB.out.call hb3); have HB := Lib.hid (btrans HB.out HB.out.size hb3); clear hb3
        simp only [endR, vV, truV, if_true]
        have r0 : w3.cell? ⟨(w.heap.size + 2), 0, none⟩ = some (.int .i64 0) := HRB.out.cell 0
        have r1 : w3.cell? ⟨(w.heap.size + 2), 1, none⟩ = some (.int .i64 0) := HRB.out.cell 1
        have r2 : w3.cell? ⟨(w.heap.size + 2), 2, none⟩ = some (.string ⟨#[]⟩) := HRB.out.cell 2
        have f0 := HRB.out.free 0
        have f1 := HRB.out.free 1
        have f2 := HRB.out.free 2
        have HK := Lib.hid (HRB.out.sets3 (.int .i64 3) (.int .i64 1) (.string (bs [])))
        go_wp2
        have k0 := HK.out.cell 0
        have k1 := HK.out.cell 1
        have k2 := HK.out.cell 2
        simp only [List.getElem?_toArray, List.getElem?_cons_zero, List.getElem?_cons_succ] at k0 k1 k2
        refine bodyPost_ret (v := .agg #[.int .i64 3, .int .i64 1, .string (bs [])]) (by simp [results, Tryz.results163, go_sem, k0, k1, k2] <;> rfl) rfl ⟨by rw [HF.out, HG.out] <;> rfl, below_sets3 HB.out (w.heap.size + 2) (by omega) _ _ _⟩
      · have HG := Lib.hid (show cmpB 15 c = false from decide_eq_false hq)
        have tq : decide (0 ≤ c) = false := decide_eq_false hq
        clear hq
        go_wp2_with fail
        refine (itruth_any false _).mono ?_
        rintro er w3 ⟨rfl, hb3⟩
        have HA := Lib.hid (HA.out.call hb3); have HC := Lib.hid (HC.out.call hb3); have HRB := Lib.hid (HRB.out.call hb3); have HB := Lib.hid (btrans HB.out HB.out.size hb3); clear hb3
        simp only [endR, vV, truV, Bool.false_eq_true, if_false]
        have r0 : w3.cell? ⟨(w.heap.size + 2), 0, none⟩ = some (.int .i64 0) := HRB.out.cell 0
        have r1 : w3.cell? ⟨(w.heap.size + 2), 1, none⟩ = some (.int .i64 0) := HRB.out.cell 1
        have r2 : w3.cell? ⟨(w.heap.size + 2), 2, none⟩ = some (.string ⟨#[]⟩) := HRB.out.cell 2
        have f0 := HRB.out.free 0
        have f1 := HRB.out.free 1
        have f2 := HRB.out.free 2
        have HK := Lib.hid (HRB.out.sets3 (.int .i64 3) (.int .i64 0) (.string (bs [])))
        go_wp2
        have k0 := HK.out.cell 0
        have k1 := HK.out.cell 1
        have k2 := HK.out.cell 2
        simp only [List.getElem?_toArray, List.getElem?_cons_zero, List.getElem?_cons_succ] at k0 k1 k2
        refine bodyPost_ret (v := .agg #[.int .i64 3, .int .i64 0, .string (bs [])]) (by simp [results, Tryz.results163, go_sem, k0, k1, k2] <;> rfl) rfl ⟨by rw [HF.out, HG.out] <;> rfl, below_sets3 HB.out (w.heap.size + 2) (by omega) _ _ _⟩
  have tk1 : (ak == 1) = false := by rw [beq_eq_false_iff_ne]; exact hk1
  by_cases hk2 : ak = 2
  · have tk2 : (ak == 2) = true := by rw [hk2]; rfl
    have HF := Lib.hid (show R = .ok (truV (cmpB op c)) from HR.out.symm.trans ((if_pos ⟨rfl, .inr (.inl hk2)⟩).trans (by rw [HCV.out])))
    clear hk1 hk2
    go_wp2_with fail
    refine (must_yes _).mono ?_
    rintro er w1 ⟨rfl, rfl⟩
    go_wp2_with fail
    refine (VCompare_any ⟨ak, an, az⟩ ⟨ak, bn, bz⟩ _).mono ?_
    rw [HCV.out]
    rintro er w2 ⟨rfl, hb2⟩
    clear a0 a1 a2
    clear b0 b1 b2
    have HA := Lib.hid (HA.out.call hb2); have HC := Lib.hid (HC.out.call hb2); have HRB := Lib.hid (HRB.out.call hb2); have HB := Lib.hid (btrans HB.out HB.out.size hb2); clear hb2
    have hop : op = 10 ∨ op = 11 ∨ op = 12 ∨ op = 13 ∨ op = 14 ∨ op = 15 := by omega
    clear h10 h15 tk
    rcases hop with rfl | rfl | rfl | rfl | rfl | rfl
    · by_cases hq : c = 0
      · have HG := Lib.hid (show cmpB 10 c = true from decide_eq_true hq)
        have tq : (c == 0) = true := by rw [hq]; rfl
        clear hq
        go_wp2_with fail
        refine (itruth_any true _).mono ?_
        rintro er w3 ⟨rfl, hb3⟩
        have HA := Lib.hid (HA.out.call hb3); have HC := Lib.hid (HC.out.call hb3); have HRB := Lib.hid (HRB.out.call hb3); have HB := Lib.hid (btrans HB.out HB.out.size hb3); clear hb3
        simp only [endR, vV, truV, if_true]
        have r0 : w3.cell? ⟨(w.heap.size + 2), 0, none⟩ = some (.int .i64 0) := HRB.out.cell 0
        have r1 : w3.cell? ⟨(w.heap.size + 2), 1, none⟩ = some (.int .i64 0) := HRB.out.cell 1
        have r2 : w3.cell? ⟨(w.heap.size + 2), 2, none⟩ = some (.string ⟨#[]⟩) := HRB.out.cell 2
        have f0 := HRB.out.free 0
        have f1 := HRB.out.free 1
        have f2 := HRB.out.free 2
        have HK := Lib.hid (HRB.out.sets3 (.int .i64 3) (.int .i64 1) (.string (bs [])))
        go_wp2
        have k0 := HK.out.cell 0
        have k1 := HK.out.cell 1
        have k2 := HK.out.cell 2
        simp only [List.getElem?_toArray, List.getElem?_cons_zero, List.getElem?_cons_succ] at k0 k1 k2
        refine bodyPost_ret (v := .agg #[.int .i64 3, .int .i64 1, .string (bs [])]) (by simp [results, Tryz.results163, go_sem, k0, k1, k2] <;> rfl) rfl ⟨by rw [HF.out, HG.out] <;> rfl, below_sets3 HB.out (w.heap.size + 2) (by omega) _ _ _⟩
      · have HG := Lib.hid (show cmpB 10 c = false from decide_eq_false hq)
        have tq : (c == 0) = false := by rw [beq_eq_false_iff_ne]; exact hq
        clear hq
        go_wp2_with fail
        refine (itruth_any false _).mono ?_
        rintro er w3 ⟨rfl, hb3⟩
        have HA := Lib.hid (HA.out.call hb3); have HC := Lib.hid (HC.out.call hb3); have HRB := Lib.hid (HRB.out.call hb3); have HB := Lib.hid (btrans HB.out HB.out.size hb3); clear hb3
        simp only [endR, vV, truV, Bool.false_eq_true, if_false]
        have r0 : w3.cell? ⟨(w.heap.size + 2), 0, none⟩ = some (.int .i64 0) := HRB.out.cell 0
        have r1 : w3.cell? ⟨(w.heap.size + 2), 1, none⟩ = some (.int .i64 0) := HRB.out.cell 1
        have r2 : w3.cell? ⟨(w.heap.size + 2), 2, none⟩ = some (.string ⟨#[]⟩) := HRB.out.cell 2
        have f0 := HRB.out.free 0
        have f1 := HRB.out.free 1
        have f2 := HRB.out.free 2
        have HK := Lib.hid (HRB.out.sets3 (.int .i64 3) (.int .i64 0) (.string (bs [])))
        go_wp2
        have k0 := HK.out.cell 0
        have k1 := HK.out.cell 1
        have k2 := HK.out.cell 2
        simp only [List.getElem?_toArray, List.getElem?_cons_zero, List.getElem?_cons_succ] at k0 k1 k2
        refine bodyPost_ret (v := .agg #[.int .i64 3, .int .i64 0, .string (bs [])]) (by simp [results, Tryz.results163, go_sem, k0, k1, k2] <;> rfl) rfl ⟨by rw [HF.out, HG.out] <;> rfl, below_sets3 HB.out (w.heap.size + 2) (by omega) _ _ _⟩
    · by_cases hq : c = 0
      · have HG := Lib.hid (show cmpB 11 c = false from decide_eq_false (fun h => h hq))
        have tq : (c != 0) = false := by rw [hq]; rfl
        clear hq
        go_wp2_with fail
        refine (itruth_any false _).mono ?_
        rintro er w3 ⟨rfl, hb3⟩
        have HA := Lib.hid (HA.out.call hb3); have HC := Lib.hid (HC.out.call hb3); have HRB := Lib.hid (HRB.out.call hb3); have HB := Lib.hid (btrans HB.out HB.out.size hb3); clear hb3
        simp only [endR, vV, truV, Bool.false_eq_true, if_false]
        have r0 : w3.cell? ⟨(w.heap.size + 2), 0, none⟩ = some (.int .i64 0) := HRB.out.cell 0
        have r1 : w3.cell? ⟨(w.heap.size + 2), 1, none⟩ = some (.int .i64 0) := HRB.out.cell 1
        have r2 : w3.cell? ⟨(w.heap.size + 2), 2, none⟩ = some (.string ⟨#[]⟩) := HRB.out.cell 2
        have f0 := HRB.out.free 0
        have f1 := HRB.out.free 1
        have f2 := HRB.out.free 2
        have HK := Lib.hid (HRB.out.sets3 (.int .i64 3) (.int .i64 0) (.string (bs [])))
        go_wp2
        have k0 := HK.out.cell 0
        have k1 := HK.out.cell 1
        have k2 := HK.out.cell 2
        simp only [List.getElem?_toArray, List.getElem?_cons_zero, List.getElem?_cons_succ] at k0 k1 k2
        refine bodyPost_ret (v := .agg #[.int .i64 3, .int .i64 0, .string (bs [])]) (by simp [results, Tryz.results163, go_sem, k0, k1, k2] <;> rfl) rfl ⟨by rw [HF.out, HG.out] <;> rfl, below_sets3 HB.out (w.heap.size + 2) (by omega) _ _ _⟩
      · have HG := Lib.hid (show cmpB 11 c = true from decide_eq_true hq)
        have tq : (c != 0) = true := by rw [bne_iff_ne]; exact hq
        clear hq
        go_wp2_with fail
        refine (itruth_any true _).mono ?_
        rintro er w3 ⟨rfl, hb3⟩
        have HA := Lib.hid (HA.out.call hb3); have HC := Lib.hid (HC.out.call hb3); have HRB := Lib.hid (HRB.out.call hb3); have HB := Lib.hid (btrans HB.out HB.out.size hb3); clear hb3
        simp only [endR, vV, truV, if_true]
        have r0 : w3.cell? ⟨(w.heap.size + 2), 0, none⟩ = some (.int .i64 0) := HRB.out.cell 0
        have r1 : w3.cell? ⟨(w.heap.size + 2), 1, none⟩ = some (.int .i64 0) := HRB.out.cell 1
        have r2 : w3.cell? ⟨(w.heap.size + 2), 2, none⟩ = some (.string ⟨#[]⟩) := HRB.out.cell 2
        have f0 := HRB.out.free 0
        have f1 := HRB.out.free 1
        have f2 := HRB.out.free 2
        have HK := Lib.hid (HRB.out.sets3 (.int .i64 3) (.int .i64 1) (.string (bs [])))
        go_wp2
        have k0 := HK.out.cell 0
        have k1 := HK.out.cell 1
        have k2 := HK.out.cell 2
        simp only [List.getElem?_toArray, List.getElem?_cons_zero, List.getElem?_cons_succ] at k0 k1 k2
        refine bodyPost_ret (v := .agg #[.int .i64 3, .int .i64 1, .string (bs [])]) (by simp [results, Tryz.results163, go_sem, k0, k1, k2] <;> rfl) rfl ⟨by rw [HF.out, HG.out] <;> rfl, below_sets3 HB.out (w.heap.size + 2) (by omega) _ _ _⟩
    · by_cases hq : c < 0
      · have HG := Lib.hid (show cmpB 12 c = true from decide_eq_true hq)
        go_wp2_with fail
        refine (itruth_any true _).mono ?_
        rintro er w3 ⟨rfl, hb3⟩
        have HA := Lib.hid (HA.out.call hb3); have HC := Lib.hid (HC.out.call hb3); have HRB := Lib.hid (HRB.out.call hb3); have HB := Lib.hid (btrans HB.out HB.out.size hb3); clear hb3
        simp only [endR, vV, truV, if_true]
        have r0 : w3.cell? ⟨(w.heap.size + 2), 0, none⟩ = some (.int .i64 0) := HRB.out.cell 0
        have r1 : w3.cell? ⟨(w.heap.size + 2), 1, none⟩ = some (.int .i64 0) := HRB.out.cell 1
        have r2 : w3.cell? ⟨(w.heap.size + 2), 2, none⟩ = some (.string ⟨#[]⟩) := HRB.out.cell 2
        have f0 := HRB.out.free 0
        have f1 := HRB.out.free 1
        have f2 := HRB.out.free 2
        have HK := Lib.hid (HRB.out.sets3 (.int .i64 3) (.int .i64 1) (.string (bs [])))
        go_wp2
        have k0 := HK.out.cell 0
        have k1 := HK.out.cell 1
        have k2 := HK.out.cell 2
        simp only [List.getElem?_toArray, List.getElem?_cons_zero, List.getElem?_cons_succ] at k0 k1 k2
        refine bodyPost_ret (v := .agg #[.int .i64 3, .int .i64 1, .string (bs [])]) (by simp [results, Tryz.results163, go_sem, k0, k1, k2] <;> rfl) rfl ⟨by rw [HF.out, HG.out] <;> rfl, below_sets3 HB.out (w.heap.size + 2) (by omega) _ _ _⟩
      · have HG := Lib.hid (show cmpB 12 c = false from decide_eq_false hq)
        have tq : decide (c < 0) = false := decide_eq_false hq
        clear hq
        go_wp2_with fail
        refine (itruth_any false _).mono ?_
        rintro er w3 ⟨rfl, hb3⟩
        have HA := Lib.hid (HA.out.call hb3); have HC := Lib.hid (HC.out.call hb3); have HRB := Lib.hid (HRB.out.call hb3); have HB := Lib.hid (btrans HB.out HB.out.size hb3); clear hb3
        simp only [endR, vV, truV, Bool.false_eq_true, if_false]
        have r0 : w3.cell? ⟨(w.heap.size + 2), 0, none⟩ = some (.int .i64 0) := HRB.out.cell 0
        have r1 : w3.cell? ⟨(w.heap.size + 2), 1, none⟩ = some (.int .i64 0) := HRB.out.cell 1
        have r2 : w3.cell? ⟨(w.heap.size + 2), 2, none⟩ = some (.string ⟨#[]⟩) := HRB.out.cell 2
        have f0 := HRB.out.free 0
        have f1 := HRB.out.free 1
        have f2 := HRB.out.free 2
        have HK := Lib.hid (HRB.out.sets3 (.int .i64 3) (.int .i64 0) (.string (bs [])))
        go_wp2
        have k0 := HK.out.cell 0
        have k1 := HK.out.cell 1
        have k2 := HK.out.cell 2
        simp only [List.getElem?_toArray, List.getElem?_cons_zero, List.getElem?_cons_succ] at k0 k1 k2
        refine bodyPost_ret (v := .agg #[.int .i64 3, .int .i64 0, .string (bs [])]) (by simp [results, Tryz.results163, go_sem, k0, k1, k2] <;> rfl) rfl ⟨by rw [HF.out, HG.out] <;> rfl, below_sets3 HB.out (w.heap.size + 2) (by omega) _ _ _⟩
    · by_cases hq : c ≤ 0
      · have HG := Lib.hid (show cmpB 13 c = true from decide_eq_true hq)
        go_wp2_with fail
        refine (itruth_any true _).mono ?_
        rintro er w3 ⟨rfl, hb3⟩
        have HA := Lib.hid (HA.out.call hb3); have HC := Lib.hid (HC.out.call hb3); have HRB := Lib.hid (HRB.out.call hb3); have HB := Lib.hid (btrans HB.out HB.out.size hb3); clear hb3
        simp only [endR, vV, truV, if_true]
        have r0 : w3.cell? ⟨(w.heap.size + 2), 0, none⟩ = some (.int .i64 0) := HRB.out.cell 0
        have r1 : w3.cell? ⟨(w.heap.size + 2), 1, none⟩ = some (.int .i64 0) := HRB.out.cell 1
        have r2 : w3.cell? ⟨(w.heap.size + 2), 2, none⟩ = some (.string ⟨#[]⟩) := HRB.out.cell 2
        have f0 := HRB.out.free 0
        have f1 := HRB.out.free 1
        have f2 := HRB.out.free 2
        have HK := Lib.hid (HRB.out.sets3 (.int .i64 3) (.int .i64 1) (.string (bs [])))
        go_wp2
        have k0 := HK.out.cell 0
        have k1 := HK.out.cell 1
        have k2 := HK.out.cell 2
        simp only [List.getElem?_toArray, List.getElem?_cons_zero, List.getElem?_cons_succ] at k0 k1 k2
        refine bodyPost_ret (v := .agg #[.int .i64 3, .int .i64 1, .string (bs [])]) (by simp [results, Tryz.results163, go_sem, k0, k1, k2] <;> rfl) rfl ⟨by rw [HF.out, HG.out] <;> rfl, below_sets3 HB.out (w.heap.size + 2) (by omega) _ _ _⟩
      · have HG := Lib.hid (show cmpB 13 c = false from decide_eq_false hq)
        have tq : decide (c ≤ 0) = false := decide_eq_false hq
        clear hq
        go_wp2_with fail
        refine (itruth_any false _).mono ?_
        rintro er w3 ⟨rfl, hb3⟩
        have HA := Lib.hid (HA.out.call hb3); have HC := Lib.hid (HC.out.call hb3); have HRB := Lib.hid (HRB.out.call hb3); have HB := Lib.hid (btrans HB.out HB.out.size hb3); clear hb3
        simp only [endR, vV, truV, Bool.false_eq_true, if_false]
        have r0 : w3.cell? ⟨(w.heap.size + 2), 0, none⟩ = some (.int .i64 0) := HRB.out.cell 0
        have r1 : w3.cell? ⟨(w.heap.size + 2), 1, none⟩ = some (.int .i64 0) := HRB.out.cell 1
        have r2 : w3.cell? ⟨(w.heap.size + 2), 2, none⟩ = some (.string ⟨#[]⟩) := HRB.out.cell 2
        have f0 := HRB.out.free 0
        have f1 := HRB.out.free 1
        have f2 := HRB.out.free 2
        have HK := Lib.hid (HRB.out.sets3 (.int .i64 3) (.int .i64 0) (.string (bs [])))
        go_wp2
        have k0 := HK.out.cell 0
        have k1 := HK.out.cell 1
        have k2 := HK.out.cell 2
        simp only [List.getElem?_toArray, List.getElem?_cons_zero, List.getElem?_cons_succ] at k0 k1 k2
        refine bodyPost_ret (v := .agg #[.int .i64 3, .int .i64 0, .string (bs [])]) (by simp [results, Tryz.results163, go_sem, k0, k1, k2] <;> rfl) rfl ⟨by rw [HF.out, HG.out] <;> rfl, below_sets3 HB.out (w.heap.size + 2) (by omega) _ _ _⟩
    · by_cases hq : 0 < c
      · have HG := Lib.hid (show cmpB 14 c = true from decide_eq_true hq)
        go_wp2_with fail
        refine (itruth_any true _).mono ?_
        rintro er w3 ⟨rfl, hb3⟩
        have HA := Lib.hid (HA.out.call hb3); have HC := Lib.hid (HC.out.call hb3); have HRB := Lib.hid (HRB.out.call hb3); have HB := Lib.hid (btrans HB.out HB.out.size hb3); clear hb3
        simp only [endR, vV, truV, if_true]
        have r0 : w3.cell? ⟨(w.heap.size + 2), 0, none⟩ = some (.int .i64 0) := HRB.out.cell 0
        have r1 : w3.cell? ⟨(w.heap.size + 2), 1, none⟩ = some (.int .i64 0) := HRB.out.cell 1
        have r2 : w3.cell? ⟨(w.heap.size + 2), 2, none⟩ = some (.string ⟨#[]⟩) := HRB.out.cell 2
        have f0 := HRB.out.free 0
        have f1 := HRB.out.free 1
        have f2 := HRB.out.free 2
        have HK := Lib.hid (HRB.out.sets3 (.int .i64 3) (.int .i64 1) (.string (bs [])))
        go_wp2
        have k0 := HK.out.cell 0
        have k1 := HK.out.cell 1
        have k2 := HK.out.cell 2
        simp only [List.getElem?_toArray, List.getElem?_cons_zero, List.getElem?_cons_succ] at k0 k1 k2
        refine bodyPost_ret (v := .agg #[.int .i64 3, .int .i64 1, .string (bs [])]) (by simp [results, Tryz.results163, go_sem, k0, k1, k2] <;> rfl) rfl ⟨by rw [HF.out, HG.out] <;> rfl, below_sets3 HB.out (w.heap.size + 2) (by omega) _ _ _⟩
      · have HG := Lib.hid (show cmpB 14 c = false from decide_eq_false hq)
        have tq : decide (0 < c) = false := decide_eq_false hq
        clear hq
        go_wp2_with fail
        refine (itruth_any false _).mono ?_
        rintro er w3 ⟨rfl, hb3⟩
        have HA := Lib.hid (HA.out.call hb3); have HC := Lib.hid (HC.out.call hb3); have HRB := Lib.hid (HRB.out.call hb3); have HB := Lib.hid (btrans HB.out HB.out.size hb3); clear hb3
        simp only [endR, vV, truV, Bool.false_eq_true, if_false]
        have r0 : w3.cell? ⟨(w.heap.size + 2), 0, none⟩ = some (.int .i64 0) := HRB.out.cell 0
        have r1 : w3.cell? ⟨(w.heap.size + 2), 1, none⟩ = some (.int .i64 0) := HRB.out.cell 1
        have r2 : w3.cell? ⟨(w.heap.size + 2), 2, none⟩ = some (.string ⟨#[]⟩) := HRB.out.cell 2
        have f0 := HRB.out.free 0
        have f1 := HRB.out.free 1
        have f2 := HRB.out.free 2
        have HK := Lib.hid (HRB.out.sets3 (.int .i64 3) (.int .i64 0) (.string (bs [])))
        go_wp2
        have k0 := HK.out.cell 0
        have k1 := HK.out.cell 1
        have k2 := HK.out.cell 2
        simp only [List.getElem?_toArray, List.getElem?_cons_zero, List.getElem?_cons_succ] at k0 k1 k2
        refine bodyPost_ret (v := .agg #[.int .i64 3, .int .i64 0, .string (bs [])]) (by simp [results, Tryz.results163, go_sem, k0, k1, k2] <;> rfl) rfl ⟨by rw [HF.out, HG.out] <;> rfl, below_sets3 HB.out (w.heap.size + 2) (by omega) _ _ _⟩
    · by_cases hq : 0 ≤ c
      · have HG := Lib.hid (show cmpB 15 c = true from decide_eq_true hq)
        go_wp2_with fail
        refine (itruth_any true _).mono ?_
        rintro er w3 ⟨rfl, hb3⟩
        have HA := Lib.hid (HA.out.call hb3); have HC := Lib.hid (HC.out.call hb3); have HRB := Lib.hid (HRB.out.call hb3); have HB := Lib.hid (btrans HB.out HB.out.size hb3); clear hb3
        simp only [endR, vV, truV, if_true]
        have r0 : w3.cell? ⟨(w.heap.size + 2), 0, none⟩ = some (.int .i64 0) := HRB.out.cell 0
        have r1 : w3.cell? ⟨(w.heap.size + 2), 1, none⟩ = some (.int .i64 0) := HRB.out.cell 1
        have r2 : w3.cell? ⟨(w.heap.size + 2), 2, none⟩ = some (.string ⟨#[]⟩) := HRB.out.cell 2
        have f0 := HRB.out.free 0
        have f1 := HRB.out.free 1
        have f2 := HRB.out.free 2
        have HK := Lib.hid (HRB.out.sets3 (.int .i64 3) (.int .i64 1) (.string (bs [])))
        go_wp2
        have k0 := HK.out.cell 0
        have k1 := HK.out.cell 1
        have k2 := HK.out.cell 2
        simp only [List.getElem?_toArray, List.getElem?_cons_zero, List.getElem?_cons_succ] at k0 k1 k2
        refine bodyPost_ret (v := .agg #[.int .i64 3, .int .i64 1, .string (bs [])]) (by simp [results, Tryz.results163, go_sem, k0, k1, k2] <;> rfl) rfl ⟨by rw [HF.out, HG.out] <;> rfl, below_sets3 HB.out (w.heap.size + 2) (by omega) _ _ _⟩
      · have HG := Lib.hid (show cmpB 15 c = false from decide_eq_false hq)
        have tq : decide (0 ≤ c) = false := decide_eq_false hq
        clear hq
        go_wp2_with fail
        refine (itruth_any false _).mono ?_
        rintro er w3 ⟨rfl, hb3⟩
        have HA := Lib.hid (HA.out.call hb3); have HC := Lib.hid (HC.out.call hb3); have HRB := Lib.hid (HRB.out.call hb3); have HB := Lib.hid (btrans HB.out HB.out.size hb3); clear hb3
        simp only [endR, vV, truV, Bool.false_eq_true, if_false]
        have r0 : w3.cell? ⟨(w.heap.size + 2), 0, none⟩ = some (.int .i64 0) := HRB.out.cell 0
        have r1 : w3.cell? ⟨(w.heap.size + 2), 1, none⟩ = some (.int .i64 0) := HRB.out.cell 1
        have r2 : w3.cell? ⟨(w.heap.size + 2), 2, none⟩ = some (.string ⟨#[]⟩) := HRB.out.cell 2
        have f0 := HRB.out.free 0
        have f1 := HRB.out.free 1
        have f2 := HRB.out.free 2
        have HK := Lib.hid (HRB.out.sets3 (.int .i64 3) (.int .i64 0) (.string (bs [])))
        go_wp2
        have k0 := HK.out.cell 0
        have k1 := HK.out.cell 1
        have k2 := HK.out.cell 2
        simp only [List.getElem?_toArray, List.getElem?_cons_zero, List.getElem?_cons_succ] at k0 k1 k2
        refine bodyPost_ret (v := .agg #[.int .i64 3, .int .i64 0, .string (bs [])]) (by simp [results, Tryz.results163, go_sem, k0, k1, k2] <;> rfl) rfl ⟨by rw [HF.out, HG.out] <;> rfl, below_sets3 HB.out (w.heap.size + 2) (by omega) _ _ _⟩
  have tk2 : (ak == 2) = false := by rw [beq_eq_false_iff_ne]; exact hk2
  by_cases hk3 : ak = 3
  rotate_left
  · have tk3 : (ak == 3) = false := by rw [beq_eq_false_iff_ne]; exact hk3
    have HF := Lib.hid (show R = .ab 1009 from HR.out.symm.trans (if_neg (fun h => h.2.elim hk1 (fun h => h.elim hk2 (fun h => hk3 h.1)))))
    clear hk1 hk2 hk3
    go_wp2_with fail
    refine (must_no _).mono ?_
    rintro er w9 ⟨rfl, rfl⟩
    go_wp2
    exact ⟨rfl, by rw [HF.out] <;> rfl, HB.out⟩
  have tk3 : (ak == 3) = true := by rw [hk3]; rfl
  by_cases h11 : op ≤ 11
  rotate_left
  · have HF := Lib.hid (show R = .ab 1009 from HR.out.symm.trans (if_neg (fun h => h.2.elim hk1 (fun h => h.elim hk2 (fun h => h11 h.2)))))
    clear hk1 hk2 hk3
    go_wp2_with fail
    refine (must_no _).mono ?_
    rintro er w9 ⟨rfl, rfl⟩
    go_wp2
    exact ⟨rfl, by rw [HF.out] <;> rfl, HB.out⟩
  have HF := Lib.hid (show R = .ok (truV (cmpB op c)) from HR.out.symm.trans ((if_pos ⟨rfl, .inr (.inr ⟨hk3, h11⟩)⟩).trans (by rw [HCV.out])))
  clear hk1 hk2 hk3
  go_wp2_with fail
  refine (must_yes _).mono ?_
  rintro er w1 ⟨rfl, rfl⟩
  go_wp2_with fail
  refine (VCompare_any ⟨ak, an, az⟩ ⟨ak, bn, bz⟩ _).mono ?_
  rw [HCV.out]
  rintro er w2 ⟨rfl, hb2⟩
  clear a0 a1 a2
  clear b0 b1 b2
  have HA := Lib.hid (HA.out.call hb2); have HC := Lib.hid (HC.out.call hb2); have HRB := Lib.hid (HRB.out.call hb2); have HB := Lib.hid (btrans HB.out HB.out.size hb2); clear hb2
  have hop : op = 10 ∨ op = 11 := by omega
  clear h10 h15 h11 tk
  rcases hop with rfl | rfl
  · by_cases hq : c = 0
    · have HG := Lib.hid (show cmpB 10 c = true from decide_eq_true hq)
      have tq : (c == 0) = true := by rw [hq]; rfl
      clear hq
      go_wp2_with fail
      refine (itruth_any true _).mono ?_
      rintro er w3 ⟨rfl, hb3⟩
      have HA := Lib.hid (HA.out.call hb3); have HC := Lib.hid (HC.out.call hb3); have HRB := Lib.hid (HRB.out.call hb3); have HB := Lib.hid (btrans HB.out HB.out.size hb3); clear hb3
      simp only [endR, vV, truV, if_true]
      have r0 : w3.cell? ⟨(w.heap.size + 2), 0, none⟩ = some (.int .i64 0) := HRB.out.cell 0
      have r1 : w3.cell? ⟨(w.heap.size + 2), 1, none⟩ = some (.int .i64 0) := HRB.out.cell 1
      have r2 : w3.cell? ⟨(w.heap.size + 2), 2, none⟩ = some (.string ⟨#[]⟩) := HRB.out.cell 2
      have f0 := HRB.out.free 0
      have f1 := HRB.out.free 1
      have f2 := HRB.out.free 2
      have HK := Lib.hid (HRB.out.sets3 (.int .i64 3) (.int .i64 1) (.string (bs [])))
      go_wp2
      have k0 := HK.out.cell 0
      have k1 := HK.out.cell 1
      have k2 := HK.out.cell 2
      simp only [List.getElem?_toArray, List.getElem?_cons_zero, List.getElem?_cons_succ] at k0 k1 k2
      refine bodyPost_ret (v := .agg #[.int .i64 3, .int .i64 1, .string (bs [])]) (by simp [results, Tryz.results163, go_sem, k0, k1, k2] <;> rfl) rfl ⟨by rw [HF.out, HG.out] <;> rfl, below_sets3 HB.out (w.heap.size + 2) (by omega) _ _ _⟩
    · have HG := Lib.hid (show cmpB 10 c = false from decide_eq_false hq)
      have tq : (c == 0) = false := by rw [beq_eq_false_iff_ne]; exact hq
      clear hq
      go_wp2_with fail
      refine (itruth_any false _).mono ?_
      rintro er w3 ⟨rfl, hb3⟩
      have HA := Lib.hid (HA.out.call hb3); have HC := Lib.hid (HC.out.call hb3); have HRB := Lib.hid (HRB.out.call hb3); have HB := Lib.hid (btrans HB.out HB.out.size hb3); clear hb3
      simp only [endR, vV, truV, Bool.false_eq_true, if_false]
      have r0 : w3.cell? ⟨(w.heap.size + 2), 0, none⟩ = some (.int .i64 0) := HRB.out.cell 0
      have r1 : w3.cell? ⟨(w.heap.size + 2), 1, none⟩ = some (.int .i64 0) := HRB.out.cell 1
      have r2 : w3.cell? ⟨(w.heap.size + 2), 2, none⟩ = some (.string ⟨#[]⟩) := HRB.out.cell 2
      have f0 := HRB.out.free 0
      have f1 := HRB.out.free 1
      have f2 := HRB.out.free 2
      have HK := Lib.hid (HRB.out.sets3 (.int .i64 3) (.int .i64 0) (.string (bs [])))
      go_wp2
      have k0 := HK.out.cell 0
      have k1 := HK.out.cell 1
      have k2 := HK.out.cell 2
      simp only [List.getElem?_toArray, List.getElem?_cons_zero, List.getElem?_cons_succ] at k0 k1 k2
      refine bodyPost_ret (v := .agg #[.int .i64 3, .int .i64 0, .string (bs [])]) (by simp [results, Tryz.results163, go_sem, k0, k1, k2] <;> rfl) rfl ⟨by rw [HF.out, HG.out] <;> rfl, below_sets3 HB.out (w.heap.size + 2) (by omega) _ _ _⟩
  · by_cases hq : c = 0
    · have HG := Lib.hid (show cmpB 11 c = false from decide_eq_false (fun h => h hq))
      have tq : (c != 0) = false := by rw [hq]; rfl
      clear hq
      go_wp2_with fail
      refine (itruth_any false _).mono ?_
      rintro er w3 ⟨rfl, hb3⟩
      have HA := Lib.hid (HA.out.call hb3); have HC := Lib.hid (HC.out.call hb3); have HRB := Lib.hid (HRB.out.call hb3); have HB := Lib.hid (btrans HB.out HB.out.size hb3); clear hb3
      simp only [endR, vV, truV, Bool.false_eq_true, if_false]
      have r0 : w3.cell? ⟨(w.heap.size + 2), 0, none⟩ = some (.int .i64 0) := HRB.out.cell 0
      have r1 : w3.cell? ⟨(w.heap.size + 2), 1, none⟩ = some (.int .i64 0) := HRB.out.cell 1
      have r2 : w3.cell? ⟨(w.heap.size + 2), 2, none⟩ = some (.string ⟨#[]⟩) := HRB.out.cell 2
      have f0 := HRB.out.free 0
      have f1 := HRB.out.free 1
      have f2 := HRB.out.free 2
      have HK := Lib.hid (HRB.out.sets3 (.int .i64 3) (.int .i64 0) (.string (bs [])))
      go_wp2
      have k0 := HK.out.cell 0
      have k1 := HK.out.cell 1
      have k2 := HK.out.cell 2
      simp only [List.getElem?_toArray, List.getElem?_cons_zero, List.getElem?_cons_succ] at k0 k1 k2
      refine bodyPost_ret (v := .agg #[.int .i64 3, .int .i64 0, .string (bs [])]) (by simp [results, Tryz.results163, go_sem, k0, k1, k2] <;> rfl) rfl ⟨by rw [HF.out, HG.out] <;> rfl, below_sets3 HB.out (w.heap.size + 2) (by omega) _ _ _⟩
    · have HG := Lib.hid (show cmpB 11 c = true from decide_eq_true hq)
      have tq : (c != 0) = true := by rw [bne_iff_ne]; exact hq
      clear hq
      go_wp2_with fail
      refine (itruth_any true _).mono ?_
      rintro er w3 ⟨rfl, hb3⟩
      have HA := Lib.hid (HA.out.call hb3); have HC := Lib.hid (HC.out.call hb3); have HRB := Lib.hid (HRB.out.call hb3); have HB := Lib.hid (btrans HB.out HB.out.size hb3); clear hb3
      simp only [endR, vV, truV, if_true]
      have r0 : w3.cell? ⟨(w.heap.size + 2), 0, none⟩ = some (.int .i64 0) := HRB.out.cell 0
      have r1 : w3.cell? ⟨(w.heap.size + 2), 1, none⟩ = some (.int .i64 0) := HRB.out.cell 1
      have r2 : w3.cell? ⟨(w.heap.size + 2), 2, none⟩ = some (.string ⟨#[]⟩) := HRB.out.cell 2
      have f0 := HRB.out.free 0
      have f1 := HRB.out.free 1
      have f2 := HRB.out.free 2
      have HK := Lib.hid (HRB.out.sets3 (.int .i64 3) (.int .i64 1) (.string (bs [])))
      go_wp2
      have k0 := HK.out.cell 0
      have k1 := HK.out.cell 1
      have k2 := HK.out.cell 2
      simp only [List.getElem?_toArray, List.getElem?_cons_zero, List.getElem?_cons_succ] at k0 k1 k2
      refine bodyPost_ret (v := .agg #[.int .i64 3, .int .i64 1, .string (bs [])]) (by simp [results, Tryz.results163, go_sem, k0, k1, k2] <;> rfl) rfl ⟨by rw [HF.out, HG.out] <;> rfl, below_sets3 HB.out (w.heap.size + 2) (by omega) _ _ _⟩
set_option maxRecDepth 100000 in
set_option maxHeartbeats 16000000 in
theorem ibinary_any (op : Int) (a b : Vl) (w : World) (h4 : 4 ≤ op) (h19 : op ≤ 19) (h9 : op ≠ 9) (h18 : op ≠ 18) (ha1 : -9223372036854775808 ≤ a.n) (ha2 : a.n ≤ 9223372036854775807) (hb1 : -9223372036854775808 ≤ b.n) (hb2 : b.n ≤ 9223372036854775807) (hal : a.s.length ≤ 1000000) (hbl : b.s.length ≤ 1000000) :
    Calls Tryz.prog 138 #[.int .i64 op, .agg (vV a), .agg (vV b)] w fun E w' => E = endR (binS op a b) ∧ Below w.heap.size w w' := by
  obtain ⟨ak, an, az⟩ := a
  obtain ⟨bk, bn, bz⟩ := b
  simp only at ha1 ha2 hb1 hb2 hal hbl
  obtain ⟨R, hR⟩ : ∃ R, binS op ⟨ak, an, az⟩ ⟨bk, bn, bz⟩ = R := ⟨_, rfl⟩
  rw [hR]
  simp only [vV]
  have HR := Lib.hid hR
  clear hR
  have hz1 : ¬ 9223372036854775807 < az.length + bz.length := by omega
  have hb0 := ((((Below.refl w.heap.size w).alloc (Nat.le_refl _) (.cells #[.int .i64 ak, .int .i64 an, .string (bs az)] 52)).alloc (by simp) (.cells #[.int .i64 bk, .int .i64 bn, .string (bs bz)] 52)).alloc (by simp; try omega) (.cells #[.int .i64 0, .int .i64 0, .string ⟨#[]⟩] 52))
  have h_HA := (((Bx.new w #[.int .i64 ak, .int .i64 an, .string (bs az)] 52).alloc (.cells #[.int .i64 bk, .int .i64 bn, .string (bs bz)] 52)).alloc (.cells #[.int .i64 0, .int .i64 0, .string ⟨#[]⟩] 52))
  have h_HC := ((Bx.new (w.alloc (.cells #[.int .i64 ak, .int .i64 an, .string (bs az)] 52)) #[.int .i64 bk, .int .i64 bn, .string (bs bz)] 52).alloc (.cells #[.int .i64 0, .int .i64 0, .string ⟨#[]⟩] 52))
  rw [show (w.alloc (.cells #[.int .i64 ak, .int .i64 an, .string (bs az)] 52)).heap.size = w.heap.size + 1 by simp] at h_HC
  have h_HRB := (Bx.new ((w.alloc (.cells #[.int .i64 ak, .int .i64 an, .string (bs az)] 52)).alloc (.cells #[.int .i64 bk, .int .i64 bn, .string (bs bz)] 52)) #[.int .i64 0, .int .i64 0, .string ⟨#[]⟩] 52)
  rw [show ((w.alloc (.cells #[.int .i64 ak, .int .i64 an, .string (bs az)] 52)).alloc (.cells #[.int .i64 bk, .int .i64 bn, .string (bs bz)] 52)).heap.size = w.heap.size + 2 by simp] at h_HRB
  have HB := Lib.hid hb0; have HA := Lib.hid h_HA; have HC := Lib.hid h_HC; have HRB := Lib.hid h_HRB
  clear hb0 h_HA h_HC h_HRB
  go_enter Tryz.func138, Tryz.ntmps138
  go_upto_region 1 with (fail)
  generalize hW0 : ((w.alloc (.cells #[.int .i64 ak, .int .i64 an, .string (bs az)] 52)).alloc (.cells #[.int .i64 bk, .int .i64 bn, .string (bs bz)] 52)).alloc (.cells #[.int .i64 0, .int .i64 0, .string ⟨#[]⟩] 52) = v0 at HB HA HC HRB ⊢
  clear hW0
  have a0 : v0.cell? ⟨w.heap.size, 0, none⟩ = some (.int .i64 ak) := HA.out.cell 0
  have a1 : v0.cell? ⟨w.heap.size, 1, none⟩ = some (.int .i64 an) := HA.out.cell 1
  have a2 : v0.cell? ⟨w.heap.size, 2, none⟩ = some (.string (bs az)) := HA.out.cell 2
  have b0 : v0.cell? ⟨(w.heap.size + 1), 0, none⟩ = some (.int .i64 bk) := HC.out.cell 0
  have b1 : v0.cell? ⟨(w.heap.size + 1), 1, none⟩ = some (.int .i64 bn) := HC.out.cell 1
  have b2 : v0.cell? ⟨(w.heap.size + 1), 2, none⟩ = some (.string (bs bz)) := HC.out.cell 2
  have hop : op = 4 ∨ op = 5 ∨ op = 6 ∨ op = 7 ∨ op = 8 ∨ op = 16 ∨ op = 17 ∨ op = 19 ∨ (10 ≤ op ∧ op ≤ 15) := by omega
  clear h4 h19 h9 h18
  rcases hop with rfl | rfl | rfl | rfl | rfl | rfl | rfl | rfl | hcm
  · skip
    by_cases hak : ak = 1
    rotate_left
    · have HF := Lib.hid (show R = .ab 1009 from HR.out.symm.trans (by unfold binS; rw [if_pos (by decide), if_neg (fun h => hak h.1)]))
      have tak : (ak == 1) = false := by rw [beq_eq_false_iff_ne]; exact hak
      clear hak
      go_wp2_with fail
      refine (must_no _).mono ?_
      rintro er w9 ⟨rfl, rfl⟩
      go_wp2
      exact ⟨rfl, by rw [HF.out] <;> rfl, HB.out⟩
    have tak : (ak == 1) = true := by rw [hak]; rfl
    by_cases hbk : bk = 1
    rotate_left
    · have HF := Lib.hid (show R = .ab 1009 from HR.out.symm.trans (by unfold binS; rw [if_pos (by decide), if_neg (fun h => hbk h.2)]))
      have tbk : (bk == 1) = false := by rw [beq_eq_false_iff_ne]; exact hbk
      clear hbk hak
      go_wp2_with fail
      refine (must_no _).mono ?_
      rintro er w9 ⟨rfl, rfl⟩
      go_wp2
      exact ⟨rfl, by rw [HF.out] <;> rfl, HB.out⟩
    have tbk : (bk == 1) = true := by rw [hbk]; rfl
    have HF := Lib.hid (show exS (ariS 4 an bn) = R from (show binS 4 ⟨ak, an, az⟩ ⟨bk, bn, bz⟩ = _ by unfold binS; rw [if_pos (by decide), if_pos ⟨hak, hbk⟩]).symm.trans HR.out)
    clear hak hbk
    go_wp2_with fail
    refine (must_yes _).mono ?_
    rintro er w1 ⟨rfl, rfl⟩
    go_wp2_with fail
    refine (arith_any 4 an bn _ ha1 ha2 hb1 hb2).mono ?_
    rw [HF.out]
    rintro er w2 ⟨rfl, hb2⟩
    clear a0 a1 a2
    clear b0 b1 b2
    have HA := Lib.hid (HA.out.call hb2); have HC := Lib.hid (HC.out.call hb2); have HRB := Lib.hid (HRB.out.call hb2); have HB := Lib.hid (btrans HB.out HB.out.size hb2); clear hb2
    rcases R with v | c | q
    · simp only [endR, vV]
      have r0 : w2.cell? ⟨(w.heap.size + 2), 0, none⟩ = some (.int .i64 0) := HRB.out.cell 0
      have r1 : w2.cell? ⟨(w.heap.size + 2), 1, none⟩ = some (.int .i64 0) := HRB.out.cell 1
      have r2 : w2.cell? ⟨(w.heap.size + 2), 2, none⟩ = some (.string ⟨#[]⟩) := HRB.out.cell 2
      have f0 := HRB.out.free 0
      have f1 := HRB.out.free 1
      have f2 := HRB.out.free 2
      have HK := Lib.hid (HRB.out.sets3 (.int .i64 v.k) (.int .i64 v.n) (.string (bs v.s)))
      go_wp2
      have k0 := HK.out.cell 0
      have k1 := HK.out.cell 1
      have k2 := HK.out.cell 2
      simp only [List.getElem?_toArray, List.getElem?_cons_zero, List.getElem?_cons_succ] at k0 k1 k2
      refine bodyPost_ret (v := .agg #[.int .i64 v.k, .int .i64 v.n, .string (bs v.s)]) (by simp [results, Tryz.results138, go_sem, k0, k1, k2] <;> rfl) rfl ⟨rfl, below_sets3 HB.out (w.heap.size + 2) (by omega) _ _ _⟩
    · simp only [endR]
      go_wp2
      exact ⟨rfl, rfl, HB.out⟩
    · simp only [endR]
      go_wp2
      exact ⟨rfl, rfl, HB.out⟩
  · skip
    by_cases hak : ak = 1
    rotate_left
    · have HF := Lib.hid (show R = .ab 1009 from HR.out.symm.trans (by unfold binS; rw [if_pos (by decide), if_neg (fun h => hak h.1)]))
      have tak : (ak == 1) = false := by rw [beq_eq_false_iff_ne]; exact hak
      clear hak
      go_wp2_with fail
      refine (must_no _).mono ?_
      rintro er w9 ⟨rfl, rfl⟩
      go_wp2
      exact ⟨rfl, by rw [HF.out] <;> rfl, HB.out⟩
    have tak : (ak == 1) = true := by rw [hak]; rfl
    by_cases hbk : bk = 1
    rotate_left
    · have HF := Lib.hid (show R = .ab 1009 from HR.out.symm.trans (by unfold binS; rw [if_pos (by decide), if_neg (fun h => hbk h.2)]))
      have tbk : (bk == 1) = false := by rw [beq_eq_false_iff_ne]; exact hbk
      clear hbk hak
      go_wp2_with fail
      refine (must_no _).mono ?_
      rintro er w9 ⟨rfl, rfl⟩
      go_wp2
      exact ⟨rfl, by rw [HF.out] <;> rfl, HB.out⟩
    have tbk : (bk == 1) = true := by rw [hbk]; rfl
    have HF := Lib.hid (show exS (ariS 5 an bn) = R from (show binS 5 ⟨ak, an, az⟩ ⟨bk, bn, bz⟩ = _ by unfold binS; rw [if_pos (by decide), if_pos ⟨hak, hbk⟩]).symm.trans HR.out)
    clear hak hbk
    go_wp2_with fail
    refine (must_yes _).mono ?_
    rintro er w1 ⟨rfl, rfl⟩
    go_wp2_with fail
    refine (arith_any 5 an bn _ ha1 ha2 hb1 hb2).mono ?_
    rw [HF.out]
    rintro er w2 ⟨rfl, hb2⟩
    clear a0 a1 a2
    clear b0 b1 b2
    have HA := Lib.hid (HA.out.call hb2); have HC := Lib.hid (HC.out.call hb2); have HRB := Lib.hid (HRB.out.call hb2); have HB := Lib.hid (btrans HB.out HB.out.size hb2); clear hb2
    rcases R with v | c | q
    · simp only [endR, vV]
      have r0 : w2.cell? ⟨(w.heap.size + 2), 0, none⟩ = some (.int .i64 0) := HRB.out.cell 0
      have r1 : w2.cell? ⟨(w.heap.size + 2), 1, none⟩ = some (.int .i64 0) := HRB.out.cell 1
      have r2 : w2.cell? ⟨(w.heap.size + 2), 2, none⟩ = some (.string ⟨#[]⟩) := HRB.out.cell 2
      have f0 := HRB.out.free 0
      have f1 := HRB.out.free 1
      have f2 := HRB.out.free 2
      have HK := Lib.hid (HRB.out.sets3 (.int .i64 v.k) (.int .i64 v.n) (.string (bs v.s)))
      go_wp2
      have k0 := HK.out.cell 0
      have k1 := HK.out.cell 1
      have k2 := HK.out.cell 2
      simp only [List.getElem?_toArray, List.getElem?_cons_zero, List.getElem?_cons_succ] at k0 k1 k2
      refine bodyPost_ret (v := .agg #[.int .i64 v.k, .int .i64 v.n, .string (bs v.s)]) (by simp [results, Tryz.results138, go_sem, k0, k1, k2] <;> rfl) rfl ⟨rfl, below_sets3 HB.out (w.heap.size + 2) (by omega) _ _ _⟩
    · simp only [endR]
      go_wp2
      exact ⟨rfl, rfl, HB.out⟩
    · simp only [endR]
      go_wp2
      exact ⟨rfl, rfl, HB.out⟩
  · skip
    by_cases hak : ak = 1
    rotate_left
    · have HF := Lib.hid (show R = .ab 1009 from HR.out.symm.trans (by unfold binS; rw [if_pos (by decide), if_neg (fun h => hak h.1)]))
      have tak : (ak == 1) = false := by rw [beq_eq_false_iff_ne]; exact hak
      clear hak
      go_wp2_with fail
      refine (must_no _).mono ?_
      rintro er w9 ⟨rfl, rfl⟩
      go_wp2
      exact ⟨rfl, by rw [HF.out] <;> rfl, HB.out⟩
    have tak : (ak == 1) = true := by rw [hak]; rfl
    by_cases hbk : bk = 1
    rotate_left
    · have HF := Lib.hid (show R = .ab 1009 from HR.out.symm.trans (by unfold binS; rw [if_pos (by decide), if_neg (fun h => hbk h.2)]))
      have tbk : (bk == 1) = false := by rw [beq_eq_false_iff_ne]; exact hbk
      clear hbk hak
      go_wp2_with fail
      refine (must_no _).mono ?_
      rintro er w9 ⟨rfl, rfl⟩
      go_wp2
      exact ⟨rfl, by rw [HF.out] <;> rfl, HB.out⟩
    have tbk : (bk == 1) = true := by rw [hbk]; rfl
    have HF := Lib.hid (show exS (ariS 6 an bn) = R from (show binS 6 ⟨ak, an, az⟩ ⟨bk, bn, bz⟩ = _ by unfold binS; rw [if_pos (by decide), if_pos ⟨hak, hbk⟩]).symm.trans HR.out)
    clear hak hbk
    go_wp2_with fail
    refine (must_yes _).mono ?_
    rintro er w1 ⟨rfl, rfl⟩
    go_wp2_with fail
    refine (arith_any 6 an bn _ ha1 ha2 hb1 hb2).mono ?_
    rw [HF.out]
    rintro er w2 ⟨rfl, hb2⟩
    clear a0 a1 a2
    clear b0 b1 b2
    have HA := Lib.hid (HA.out.call hb2); have HC := Lib.hid (HC.out.call hb2); have HRB := Lib.hid (HRB.out.call hb2); have HB := Lib.hid (btrans HB.out HB.out.size hb2); clear hb2
    rcases R with v | c | q
    · simp only [endR, vV]
      have r0 : w2.cell? ⟨(w.heap.size + 2), 0, none⟩ = some (.int .i64 0) := HRB.out.cell 0
      have r1 : w2.cell? ⟨(w.heap.size + 2), 1, none⟩ = some (.int .i64 0) := HRB.out.cell 1
      have r2 : w2.cell? ⟨(w.heap.size + 2), 2, none⟩ = some (.string ⟨#[]⟩) := HRB.out.cell 2
      have f0 := HRB.out.free 0
      have f1 := HRB.out.free 1
      have f2 := HRB.out.free 2
      have HK := Lib.hid (HRB.out.sets3 (.int .i64 v.k) (.int .i64 v.n) (.string (bs v.s)))
      go_wp2
      have k0 := HK.out.cell 0
      have k1 := HK.out.cell 1
      have k2 := HK.out.cell 2
      simp only [List.getElem?_toArray, List.getElem?_cons_zero, List.getElem?_cons_succ] at k0 k1 k2
      refine bodyPost_ret (v := .agg #[.int .i64 v.k, .int .i64 v.n, .string (bs v.s)]) (by simp [results, Tryz.results138, go_sem, k0, k1, k2] <;> rfl) rfl ⟨rfl, below_sets3 HB.out (w.heap.size + 2) (by omega) _ _ _⟩
    · simp only [endR]
      go_wp2
      exact ⟨rfl, rfl, HB.out⟩
    · simp only [endR]
      go_wp2
      exact ⟨rfl, rfl, HB.out⟩
  · skip
    by_cases hak : ak = 1
    rotate_left
    · have HF := Lib.hid (show R = .ab 1009 from HR.out.symm.trans (by unfold binS; rw [if_pos (by decide), if_neg (fun h => hak h.1)]))
      have tak : (ak == 1) = false := by rw [beq_eq_false_iff_ne]; exact hak
      clear hak
      go_wp2_with fail
      refine (must_no _).mono ?_
      rintro er w9 ⟨rfl, rfl⟩
      go_wp2
      exact ⟨rfl, by rw [HF.out] <;> rfl, HB.out⟩
    have tak : (ak == 1) = true := by rw [hak]; rfl
    by_cases hbk : bk = 1
    rotate_left
    · have HF := Lib.hid (show R = .ab 1009 from HR.out.symm.trans (by unfold binS; rw [if_pos (by decide), if_neg (fun h => hbk h.2)]))
      have tbk : (bk == 1) = false := by rw [beq_eq_false_iff_ne]; exact hbk
      clear hbk hak
      go_wp2_with fail
      refine (must_no _).mono ?_
      rintro er w9 ⟨rfl, rfl⟩
      go_wp2
      exact ⟨rfl, by rw [HF.out] <;> rfl, HB.out⟩
    have tbk : (bk == 1) = true := by rw [hbk]; rfl
    have HF := Lib.hid (show exS (ariS 7 an bn) = R from (show binS 7 ⟨ak, an, az⟩ ⟨bk, bn, bz⟩ = _ by unfold binS; rw [if_pos (by decide), if_pos ⟨hak, hbk⟩]).symm.trans HR.out)
    clear hak hbk
    go_wp2_with fail
    refine (must_yes _).mono ?_
    rintro er w1 ⟨rfl, rfl⟩
    go_wp2_with fail
    refine (arith_any 7 an bn _ ha1 ha2 hb1 hb2).mono ?_
    rw [HF.out]
    rintro er w2 ⟨rfl, hb2⟩
    clear a0 a1 a2
    clear b0 b1 b2
    have HA := Lib.hid (HA.out.call hb2); have HC := Lib.hid (HC.out.call hb2); have HRB := Lib.hid (HRB.out.call hb2); have HB := Lib.hid (btrans HB.out HB.out.size hb2); clear hb2
    rcases R with v | c | q
    · simp only [endR, vV]
      have r0 : w2.cell? ⟨(w.heap.size + 2), 0, none⟩ = some (.int .i64 0) := HRB.out.cell 0
      have r1 : w2.cell? ⟨(w.heap.size + 2), 1, none⟩ = some (.int .i64 0) := HRB.out.cell 1
      have r2 : w2.cell? ⟨(w.heap.size + 2), 2, none⟩ = some (.string ⟨#[]⟩) := HRB.out.cell 2
      have f0 := HRB.out.free 0
      have f1 := HRB.out.free 1
      have f2 := HRB.out.free 2
      have HK := Lib.hid (HRB.out.sets3 (.int .i64 v.k) (.int .i64 v.n) (.string (bs v.s)))
      go_wp2
      have k0 := HK.out.cell 0
      have k1 := HK.out.cell 1
      have k2 := HK.out.cell 2
      simp only [List.getElem?_toArray, List.getElem?_cons_zero, List.getElem?_cons_succ] at k0 k1 k2
      refine bodyPost_ret (v := .agg #[.int .i64 v.k, .int .i64 v.n, .string (bs v.s)]) (by simp [results, Tryz.results138, go_sem, k0, k1, k2] <;> rfl) rfl ⟨rfl, below_sets3 HB.out (w.heap.size + 2) (by omega) _ _ _⟩
    · simp only [endR]
      go_wp2
      exact ⟨rfl, rfl, HB.out⟩
    · simp only [endR]
      go_wp2
      exact ⟨rfl, rfl, HB.out⟩
  · skip
    by_cases hak : ak = 1
    rotate_left
    · have HF := Lib.hid (show R = .ab 1009 from HR.out.symm.trans (by unfold binS; rw [if_pos (by decide), if_neg (fun h => hak h.1)]))
      have tak : (ak == 1) = false := by rw [beq_eq_false_iff_ne]; exact hak
      clear hak
      go_wp2_with fail
      refine (must_no _).mono ?_
      rintro er w9 ⟨rfl, rfl⟩
      go_wp2
      exact ⟨rfl, by rw [HF.out] <;> rfl, HB.out⟩
    have tak : (ak == 1) = true := by rw [hak]; rfl
    by_cases hbk : bk = 1
    rotate_left
    · have HF := Lib.hid (show R = .ab 1009 from HR.out.symm.trans (by unfold binS; rw [if_pos (by decide), if_neg (fun h => hbk h.2)]))
      have tbk : (bk == 1) = false := by rw [beq_eq_false_iff_ne]; exact hbk
      clear hbk hak
      go_wp2_with fail
      refine (must_no _).mono ?_
      rintro er w9 ⟨rfl, rfl⟩
      go_wp2
      exact ⟨rfl, by rw [HF.out] <;> rfl, HB.out⟩
    have tbk : (bk == 1) = true := by rw [hbk]; rfl
    have HF := Lib.hid (show exS (ariS 8 an bn) = R from (show binS 8 ⟨ak, an, az⟩ ⟨bk, bn, bz⟩ = _ by unfold binS; rw [if_pos (by decide), if_pos ⟨hak, hbk⟩]).symm.trans HR.out)
    clear hak hbk
    go_wp2_with fail
    refine (must_yes _).mono ?_
    rintro er w1 ⟨rfl, rfl⟩
    go_wp2_with fail
    refine (arith_any 8 an bn _ ha1 ha2 hb1 hb2).mono ?_
    rw [HF.out]
    rintro er w2 ⟨rfl, hb2⟩
    clear a0 a1 a2
    clear b0 b1 b2
    have HA := Lib.hid (HA.out.call hb2); have HC := Lib.hid (HC.out.call hb2); have HRB := Lib.hid (HRB.out.call hb2); have HB := Lib.hid (btrans HB.out HB.out.size hb2); clear hb2
    rcases R with v | c | q
    · simp only [endR, vV]
      have r0 : w2.cell? ⟨(w.heap.size + 2), 0, none⟩ = some (.int .i64 0) := HRB.out.cell 0
      have r1 : w2.cell? ⟨(w.heap.size + 2), 1, none⟩ = some (.int .i64 0) := HRB.out.cell 1
      have r2 : w2.cell? ⟨(w.heap.size + 2), 2, none⟩ = some (.string ⟨#[]⟩) := HRB.out.cell 2
      have f0 := HRB.out.free 0
      have f1 := HRB.out.free 1
      have f2 := HRB.out.free 2
      have HK := Lib.hid (HRB.out.sets3 (.int .i64 v.k) (.int .i64 v.n) (.string (bs v.s)))
      go_wp2
      have k0 := HK.out.cell 0
      have k1 := HK.out.cell 1
      have k2 := HK.out.cell 2
      simp only [List.getElem?_toArray, List.getElem?_cons_zero, List.getElem?_cons_succ] at k0 k1 k2
      refine bodyPost_ret (v := .agg #[.int .i64 v.k, .int .i64 v.n, .string (bs v.s)]) (by simp [results, Tryz.results138, go_sem, k0, k1, k2] <;> rfl) rfl ⟨rfl, below_sets3 HB.out (w.heap.size + 2) (by omega) _ _ _⟩
    · simp only [endR]
      go_wp2
      exact ⟨rfl, rfl, HB.out⟩
    · simp only [endR]
      go_wp2
      exact ⟨rfl, rfl, HB.out⟩
  · skip
    by_cases hak : ak = 3
    rotate_left
    · have HF := Lib.hid (show R = .ab 1009 from HR.out.symm.trans (by unfold binS; rw [if_neg (by decide), if_pos rfl, if_neg (fun h => hak h.1)]))
      have tak : (ak == 3) = false := by rw [beq_eq_false_iff_ne]; exact hak
      clear hak
      go_wp2_with fail
      refine (must_no _).mono ?_
      rintro er w9 ⟨rfl, rfl⟩
      go_wp2
      exact ⟨rfl, by rw [HF.out] <;> rfl, HB.out⟩
    have tak : (ak == 3) = true := by rw [hak]; rfl
    by_cases hbk : bk = 3
    rotate_left
    · have HF := Lib.hid (show R = .ab 1009 from HR.out.symm.trans (by unfold binS; rw [if_neg (by decide), if_pos rfl, if_neg (fun h => hbk h.2)]))
      have tbk : (bk == 3) = false := by rw [beq_eq_false_iff_ne]; exact hbk
      clear hbk hak
      go_wp2_with fail
      refine (must_no _).mono ?_
      rintro er w9 ⟨rfl, rfl⟩
      go_wp2
      exact ⟨rfl, by rw [HF.out] <;> rfl, HB.out⟩
    have tbk : (bk == 3) = true := by rw [hbk]; rfl
    have HF := Lib.hid (show .ok (truV (decide (an = 1) && decide (bn = 1))) = R from (show binS 16 ⟨ak, an, az⟩ ⟨bk, bn, bz⟩ = _ by unfold binS; rw [if_neg (by decide), if_pos rfl, if_pos ⟨hak, hbk⟩]).symm.trans HR.out)
    clear hak hbk
    go_wp2_with fail
    refine (must_yes _).mono ?_
    rintro er w1 ⟨rfl, rfl⟩
    by_cases hx : an = 1
    · have tx : (an == 1) = true := by rw [hx]; rfl
      by_cases hy : bn = 1
      · have ty : (bn == 1) = true := by rw [hy]; rfl
        have HG := Lib.hid (show R = .ok (truV true) by rw [← HF.out, decide_eq_true hx, decide_eq_true hy]; rfl)
        clear hx hy
        go_wp2_with fail
        refine (itruth_any true _).mono ?_
        rintro er w3 ⟨rfl, hb3⟩
        clear a0 a1 a2
        clear b0 b1 b2
        have HA := Lib.hid (HA.out.call hb3); have HC := Lib.hid (HC.out.call hb3); have HRB := Lib.hid (HRB.out.call hb3); have HB := Lib.hid (btrans HB.out HB.out.size hb3); clear hb3
        simp only [endR, vV, truV, if_true]
        have r0 : w3.cell? ⟨(w.heap.size + 2), 0, none⟩ = some (.int .i64 0) := HRB.out.cell 0
        have r1 : w3.cell? ⟨(w.heap.size + 2), 1, none⟩ = some (.int .i64 0) := HRB.out.cell 1
        have r2 : w3.cell? ⟨(w.heap.size + 2), 2, none⟩ = some (.string ⟨#[]⟩) := HRB.out.cell 2
        have f0 := HRB.out.free 0
        have f1 := HRB.out.free 1
        have f2 := HRB.out.free 2
        have HK := Lib.hid (HRB.out.sets3 (.int .i64 3) (.int .i64 1) (.string (bs [])))
        go_wp2
        have k0 := HK.out.cell 0
        have k1 := HK.out.cell 1
        have k2 := HK.out.cell 2
        simp only [List.getElem?_toArray, List.getElem?_cons_zero, List.getElem?_cons_succ] at k0 k1 k2
        refine bodyPost_ret (v := .agg #[.int .i64 3, .int .i64 1, .string (bs [])]) (by simp [results, Tryz.results138, go_sem, k0, k1, k2] <;> rfl) rfl ⟨by rw [HG.out] <;> rfl, below_sets3 HB.out (w.heap.size + 2) (by omega) _ _ _⟩
      · have ty : (bn == 1) = false := by rw [beq_eq_false_iff_ne]; exact hy
        have HG := Lib.hid (show R = .ok (truV false) by rw [← HF.out, decide_eq_true hx, decide_eq_false hy]; rfl)
        clear hx hy
        go_wp2_with fail
        refine (itruth_any false _).mono ?_
        rintro er w3 ⟨rfl, hb3⟩
        clear a0 a1 a2
        clear b0 b1 b2
        have HA := Lib.hid (HA.out.call hb3); have HC := Lib.hid (HC.out.call hb3); have HRB := Lib.hid (HRB.out.call hb3); have HB := Lib.hid (btrans HB.out HB.out.size hb3); clear hb3
        simp only [endR, vV, truV, Bool.false_eq_true, if_false]
        have r0 : w3.cell? ⟨(w.heap.size + 2), 0, none⟩ = some (.int .i64 0) := HRB.out.cell 0
        have r1 : w3.cell? ⟨(w.heap.size + 2), 1, none⟩ = some (.int .i64 0) := HRB.out.cell 1
        have r2 : w3.cell? ⟨(w.heap.size + 2), 2, none⟩ = some (.string ⟨#[]⟩) := HRB.out.cell 2
        have f0 := HRB.out.free 0
        have f1 := HRB.out.free 1
        have f2 := HRB.out.free 2
        have HK := Lib.hid (HRB.out.sets3 (.int .i64 3) (.int .i64 0) (.string (bs [])))
        go_wp2
        have k0 := HK.out.cell 0
        have k1 := HK.out.cell 1
        have k2 := HK.out.cell 2
        simp only [List.getElem?_toArray, List.getElem?_cons_zero, List.getElem?_cons_succ] at k0 k1 k2
        refine bodyPost_ret (v := .agg #[.int .i64 3, .int .i64 0, .string (bs [])]) (by simp [results, Tryz.results138, go_sem, k0, k1, k2] <;> rfl) rfl ⟨by rw [HG.out] <;> rfl, below_sets3 HB.out (w.heap.size + 2) (by omega) _ _ _⟩
    · have tx : (an == 1) = false := by rw [beq_eq_false_iff_ne]; exact hx
      by_cases hy : bn = 1
      · have ty : (bn == 1) = true := by rw [hy]; rfl
        have HG := Lib.hid (show R = .ok (truV false) by rw [← HF.out, decide_eq_false hx, decide_eq_true hy]; rfl)
        clear hx hy
        go_wp2_with fail
        refine (itruth_any false _).mono ?_
        rintro er w3 ⟨rfl, hb3⟩
        clear a0 a1 a2
        clear b0 b1 b2
        have HA := Lib.hid (HA.out.call hb3); have HC := Lib.hid (HC.out.call hb3); have HRB := Lib.hid (HRB.out.call hb3); have HB := Lib.hid (btrans HB.out HB.out.size hb3); clear hb3
        simp only [endR, vV, truV, Bool.false_eq_true, if_false]
        have r0 : w3.cell? ⟨(w.heap.size + 2), 0, none⟩ = some (.int .i64 0) := HRB.out.cell 0
        have r1 : w3.cell? ⟨(w.heap.size + 2), 1, none⟩ = some (.int .i64 0) := HRB.out.cell 1
        have r2 : w3.cell? ⟨(w.heap.size + 2), 2, none⟩ = some (.string ⟨#[]⟩) := HRB.out.cell 2
        have f0 := HRB.out.free 0
        have f1 := HRB.out.free 1
        have f2 := HRB.out.free 2
        have HK := Lib.hid (HRB.out.sets3 (.int .i64 3) (.int .i64 0) (.string (bs [])))
        go_wp2
        have k0 := HK.out.cell 0
        have k1 := HK.out.cell 1
        have k2 := HK.out.cell 2
        simp only [List.getElem?_toArray, List.getElem?_cons_zero, List.getElem?_cons_succ] at k0 k1 k2
        refine bodyPost_ret (v := .agg #[.int .i64 3, .int .i64 0, .string (bs [])]) (by simp [results, Tryz.results138, go_sem, k0, k1, k2] <;> rfl) rfl ⟨by rw [HG.out] <;> rfl, below_sets3 HB.out (w.heap.size + 2) (by omega) _ _ _⟩
      · have ty : (bn == 1) = false := by rw [beq_eq_false_iff_ne]; exact hy
        have HG := Lib.hid (show R = .ok (truV false) by rw [← HF.out, decide_eq_false hx, decide_eq_false hy]; rfl)
        clear hx hy
        go_wp2_with fail
        refine (itruth_any false _).mono ?_
        rintro er w3 ⟨rfl, hb3⟩
        clear a0 a1 a2
        clear b0 b1 b2
        have HA := Lib.hid (HA.out.call hb3); have HC := Lib.hid (HC.out.call hb3); have HRB := Lib.hid (HRB.out.call hb3); have HB := Lib.hid (btrans HB.out HB.out.size hb3); clear hb3
        simp only [endR, vV, truV, Bool.false_eq_true, if_false]
        have r0 : w3.cell? ⟨(w.heap.size + 2), 0, none⟩ = some (.int .i64 0) := HRB.out.cell 0
        have r1 : w3.cell? ⟨(w.heap.size + 2), 1, none⟩ = some (.int .i64 0) := HRB.out.cell 1
        have r2 : w3.cell? ⟨(w.heap.size + 2), 2, none⟩ = some (.string ⟨#[]⟩) := HRB.out.cell 2
        have f0 := HRB.out.free 0
        have f1 := HRB.out.free 1
        have f2 := HRB.out.free 2
        have HK := Lib.hid (HRB.out.sets3 (.int .i64 3) (.int .i64 0) (.string (bs [])))
        go_wp2
        have k0 := HK.out.cell 0
        have k1 := HK.out.cell 1
        have k2 := HK.out.cell 2
        simp only [List.getElem?_toArray, List.getElem?_cons_zero, List.getElem?_cons_succ] at k0 k1 k2
        refine bodyPost_ret (v := .agg #[.int .i64 3, .int .i64 0, .string (bs [])]) (by simp [results, Tryz.results138, go_sem, k0, k1, k2] <;> rfl) rfl ⟨by rw [HG.out] <;> rfl, below_sets3 HB.out (w.heap.size + 2) (by omega) _ _ _⟩
  · skip
    by_cases hak : ak = 3
    rotate_left
    · have HF := Lib.hid (show R = .ab 1009 from HR.out.symm.trans (by unfold binS; rw [if_neg (by decide), if_neg (by decide), if_pos rfl, if_neg (fun h => hak h.1)]))
      have tak : (ak == 3) = false := by rw [beq_eq_false_iff_ne]; exact hak
      clear hak
      go_wp2_with fail
      refine (must_no _).mono ?_
      rintro er w9 ⟨rfl, rfl⟩
      go_wp2
      exact ⟨rfl, by rw [HF.out] <;> rfl, HB.out⟩
    have tak : (ak == 3) = true := by rw [hak]; rfl
    by_cases hbk : bk = 3
    rotate_left
    · have HF := Lib.hid (show R = .ab 1009 from HR.out.symm.trans (by unfold binS; rw [if_neg (by decide), if_neg (by decide), if_pos rfl, if_neg (fun h => hbk h.2)]))
      have tbk : (bk == 3) = false := by rw [beq_eq_false_iff_ne]; exact hbk
      clear hbk hak
      go_wp2_with fail
      refine (must_no _).mono ?_
      rintro er w9 ⟨rfl, rfl⟩
      go_wp2
      exact ⟨rfl, by rw [HF.out] <;> rfl, HB.out⟩
    have tbk : (bk == 3) = true := by rw [hbk]; rfl
    have HF := Lib.hid (show .ok (truV (decide (an = 1) || decide (bn = 1))) = R from (show binS 17 ⟨ak, an, az⟩ ⟨bk, bn, bz⟩ = _ by unfold binS; rw [if_neg (by decide), if_neg (by decide), if_pos rfl, if_pos ⟨hak, hbk⟩]).symm.trans HR.out)
    clear hak hbk
    go_wp2_with fail
    refine (must_yes _).mono ?_
    rintro er w1 ⟨rfl, rfl⟩
    by_cases hx : an = 1
    · have tx : (an == 1) = true := by rw [hx]; rfl
      by_cases hy : bn = 1
      · have ty : (bn == 1) = true := by rw [hy]; rfl
        have HG := Lib.hid (show R = .ok (truV true) by rw [← HF.out, decide_eq_true hx, decide_eq_true hy]; rfl)
        clear hx hy
        go_wp2_with fail
        refine (itruth_any true _).mono ?_
        rintro er w3 ⟨rfl, hb3⟩
        clear a0 a1 a2
        clear b0 b1 b2
        have HA := Lib.hid (HA.out.call hb3); have HC := Lib.hid (HC.out.call hb3); have HRB := Lib.hid (HRB.out.call hb3); have HB := Lib.hid (btrans HB.out HB.out.size hb3); clear hb3
        simp only [endR, vV, truV, if_true]
        have r0 : w3.cell? ⟨(w.heap.size + 2), 0, none⟩ = some (.int .i64 0) := HRB.out.cell 0
        have r1 : w3.cell? ⟨(w.heap.size + 2), 1, none⟩ = some (.int .i64 0) := HRB.out.cell 1
        have r2 : w3.cell? ⟨(w.heap.size + 2), 2, none⟩ = some (.string ⟨#[]⟩) := HRB.out.cell 2
        have f0 := HRB.out.free 0
        have f1 := HRB.out.free 1
        have f2 := HRB.out.free 2
        have HK := Lib.hid (HRB.out.sets3 (.int .i64 3) (.int .i64 1) (.string (bs [])))
        go_wp2
        have k0 := HK.out.cell 0
        have k1 := HK.out.cell 1
        have k2 := HK.out.cell 2
        simp only [List.getElem?_toArray, List.getElem?_cons_zero, List.getElem?_cons_succ] at k0 k1 k2
        refine bodyPost_ret (v := .agg #[.int .i64 3, .int .i64 1, .string (bs [])]) (by simp [results, Tryz.results138, go_sem, k0, k1, k2] <;> rfl) rfl ⟨by rw [HG.out] <;> rfl, below_sets3 HB.out (w.heap.size + 2) (by omega) _ _ _⟩
      · have ty : (bn == 1) = false := by rw [beq_eq_false_iff_ne]; exact hy
        have HG := Lib.hid (show R = .ok (truV true) by rw [← HF.out, decide_eq_true hx, decide_eq_false hy]; rfl)
        clear hx hy
        go_wp2_with fail
        refine (itruth_any true _).mono ?_
        rintro er w3 ⟨rfl, hb3⟩
        clear a0 a1 a2
        clear b0 b1 b2
        have HA := Lib.hid (HA.out.call hb3); have HC := Lib.hid (HC.out.call hb3); have HRB := Lib.hid (HRB.out.call hb3); have HB := Lib.hid (btrans HB.out HB.out.size hb3); clear hb3
        simp only [endR, vV, truV, if_true]
        have r0 : w3.cell? ⟨(w.heap.size + 2), 0, none⟩ = some (.int .i64 0) := HRB.out.cell 0
        have r1 : w3.cell? ⟨(w.heap.size + 2), 1, none⟩ = some (.int .i64 0) := HRB.out.cell 1
        have r2 : w3.cell? ⟨(w.heap.size + 2), 2, none⟩ = some (.string ⟨#[]⟩) := HRB.out.cell 2
        have f0 := HRB.out.free 0
        have f1 := HRB.out.free 1
        have f2 := HRB.out.free 2
        have HK := Lib.hid (HRB.out.sets3 (.int .i64 3) (.int .i64 1) (.string (bs [])))
        go_wp2
        have k0 := HK.out.cell 0
        have k1 := HK.out.cell 1
        have k2 := HK.out.cell 2
        simp only [List.getElem?_toArray, List.getElem?_cons_zero, List.getElem?_cons_succ] at k0 k1 k2
        refine bodyPost_ret (v := .agg #[.int .i64 3, .int .i64 1, .string (bs [])]) (by simp [results, Tryz.results138, go_sem, k0, k1, k2] <;> rfl) rfl ⟨by rw [HG.out] <;> rfl, below_sets3 HB.out (w.heap.size + 2) (by omega) _ _ _⟩
    · have tx : (an == 1) = false := by rw [beq_eq_false_iff_ne]; exact hx
      by_cases hy : bn = 1
      · have ty : (bn == 1) = true := by rw [hy]; rfl
        have HG := Lib.hid (show R = .ok (truV true) by rw [← HF.out, decide_eq_false hx, decide_eq_true hy]; rfl)
        clear hx hy
        go_wp2_with fail
        refine (itruth_any true _).mono ?_
        rintro er w3 ⟨rfl, hb3⟩
        clear a0 a1 a2
        clear b0 b1 b2
        have HA := Lib.hid (HA.out.call hb3); have HC := Lib.hid (HC.out.call hb3); have HRB := Lib.hid (HRB.out.call hb3); have HB := Lib.hid (btrans HB.out HB.out.size hb3); clear hb3
        simp only [endR, vV, truV, if_true]
        have r0 : w3.cell? ⟨(w.heap.size + 2), 0, none⟩ = some (.int .i64 0) := HRB.out.cell 0
        have r1 : w3.cell? ⟨(w.heap.size + 2), 1, none⟩ = some (.int .i64 0) := HRB.out.cell 1
        have r2 : w3.cell? ⟨(w.heap.size + 2), 2, none⟩ = some (.string ⟨#[]⟩) := HRB.out.cell 2
        have f0 := HRB.out.free 0
        have f1 := HRB.out.free 1
        have f2 := HRB.out.free 2
        have HK := Lib.hid (HRB.out.sets3 (.int .i64 3) (.int .i64 1) (.string (bs [])))
        go_wp2
        have k0 := HK.out.cell 0
        have k1 := HK.out.cell 1
        have k2 := HK.out.cell 2
        simp only [List.getElem?_toArray, List.getElem?_cons_zero, List.getElem?_cons_succ] at k0 k1 k2
        refine bodyPost_ret (v := .agg #[.int .i64 3, .int .i64 1, .string (bs [])]) (by simp [results, Tryz.results138, go_sem, k0, k1, k2] <;> rfl) rfl ⟨by rw [HG.out] <;> rfl, below_sets3 HB.out (w.heap.size + 2) (by omega) _ _ _⟩
      · have ty : (bn == 1) = false := by rw [beq_eq_false_iff_ne]; exact hy
        have HG := Lib.hid (show R = .ok (truV false) by rw [← HF.out, decide_eq_false hx, decide_eq_false hy]; rfl)
        clear hx hy
        go_wp2_with fail
        refine (itruth_any false _).mono ?_
        rintro er w3 ⟨rfl, hb3⟩
        clear a0 a1 a2
        clear b0 b1 b2
        have HA := Lib.hid (HA.out.call hb3); have HC := Lib.hid (HC.out.call hb3); have HRB := Lib.hid (HRB.out.call hb3); have HB := Lib.hid (btrans HB.out HB.out.size hb3); clear hb3
        simp only [endR, vV, truV, Bool.false_eq_true, if_false]
        have r0 : w3.cell? ⟨(w.heap.size + 2), 0, none⟩ = some (.int .i64 0) := HRB.out.cell 0
        have r1 : w3.cell? ⟨(w.heap.size + 2), 1, none⟩ = some (.int .i64 0) := HRB.out.cell 1
        have r2 : w3.cell? ⟨(w.heap.size + 2), 2, none⟩ = some (.string ⟨#[]⟩) := HRB.out.cell 2
        have f0 := HRB.out.free 0
        have f1 := HRB.out.free 1
        have f2 := HRB.out.free 2
        have HK := Lib.hid (HRB.out.sets3 (.int .i64 3) (.int .i64 0) (.string (bs [])))
        go_wp2
        have k0 := HK.out.cell 0
        have k1 := HK.out.cell 1
        have k2 := HK.out.cell 2
        simp only [List.getElem?_toArray, List.getElem?_cons_zero, List.getElem?_cons_succ] at k0 k1 k2
        refine bodyPost_ret (v := .agg #[.int .i64 3, .int .i64 0, .string (bs [])]) (by simp [results, Tryz.results138, go_sem, k0, k1, k2] <;> rfl) rfl ⟨by rw [HG.out] <;> rfl, below_sets3 HB.out (w.heap.size + 2) (by omega) _ _ _⟩
  · skip
    by_cases hak : ak = 2
    rotate_left
    · have HF := Lib.hid (show R = .ab 1009 from HR.out.symm.trans (by unfold binS; rw [if_neg (by decide), if_neg (by decide), if_neg (by decide), if_pos rfl, if_neg (fun h => hak h.1)]))
      have tak : (ak == 2) = false := by rw [beq_eq_false_iff_ne]; exact hak
      clear hak
      go_wp2_with fail
      refine (must_no _).mono ?_
      rintro er w9 ⟨rfl, rfl⟩
      go_wp2
      exact ⟨rfl, by rw [HF.out] <;> rfl, HB.out⟩
    have tak : (ak == 2) = true := by rw [hak]; rfl
    by_cases hbk : bk = 2
    rotate_left
    · have HF := Lib.hid (show R = .ab 1009 from HR.out.symm.trans (by unfold binS; rw [if_neg (by decide), if_neg (by decide), if_neg (by decide), if_pos rfl, if_neg (fun h => hbk h.2)]))
      have tbk : (bk == 2) = false := by rw [beq_eq_false_iff_ne]; exact hbk
      clear hbk hak
      go_wp2_with fail
      refine (must_no _).mono ?_
      rintro er w9 ⟨rfl, rfl⟩
      go_wp2
      exact ⟨rfl, by rw [HF.out] <;> rfl, HB.out⟩
    have tbk : (bk == 2) = true := by rw [hbk]; rfl
    have HF := Lib.hid (show txS (az ++ bz) = R from (show binS 19 ⟨ak, an, az⟩ ⟨bk, bn, bz⟩ = _ by unfold binS; rw [if_neg (by decide), if_neg (by decide), if_neg (by decide), if_pos rfl, if_pos ⟨hak, hbk⟩]).symm.trans HR.out)
    clear hak hbk
    go_wp2_with fail
    refine (must_yes _).mono ?_
    rintro er w1 ⟨rfl, rfl⟩
    go_wp2_with fail
    refine (itext_any (az ++ bz) (by rw [List.length_append]; omega) _).mono ?_
    rw [HF.out]
    rintro er w2 ⟨rfl, hb2⟩
    clear a0 a1 a2
    clear b0 b1 b2
    have HA := Lib.hid (HA.out.call hb2); have HC := Lib.hid (HC.out.call hb2); have HRB := Lib.hid (HRB.out.call hb2); have HB := Lib.hid (btrans HB.out HB.out.size hb2); clear hb2
    rcases R with v | c | q
    · simp only [endR, vV]
      have r0 : w2.cell? ⟨(w.heap.size + 2), 0, none⟩ = some (.int .i64 0) := HRB.out.cell 0
      have r1 : w2.cell? ⟨(w.heap.size + 2), 1, none⟩ = some (.int .i64 0) := HRB.out.cell 1
      have r2 : w2.cell? ⟨(w.heap.size + 2), 2, none⟩ = some (.string ⟨#[]⟩) := HRB.out.cell 2
      have f0 := HRB.out.free 0
      have f1 := HRB.out.free 1
      have f2 := HRB.out.free 2
      have HK := Lib.hid (HRB.out.sets3 (.int .i64 v.k) (.int .i64 v.n) (.string (bs v.s)))
      go_wp2
      have k0 := HK.out.cell 0
      have k1 := HK.out.cell 1
      have k2 := HK.out.cell 2
      simp only [List.getElem?_toArray, List.getElem?_cons_zero, List.getElem?_cons_succ] at k0 k1 k2
      refine bodyPost_ret (v := .agg #[.int .i64 v.k, .int .i64 v.n, .string (bs v.s)]) (by simp [results, Tryz.results138, go_sem, k0, k1, k2] <;> rfl) rfl ⟨rfl, below_sets3 HB.out (w.heap.size + 2) (by omega) _ _ _⟩
    · simp only [endR]
      go_wp2
      exact ⟨rfl, rfl, HB.out⟩
    · simp only [endR]
      go_wp2
      exact ⟨rfl, rfl, HB.out⟩
  · obtain ⟨c1, c2⟩ := hcm
    have n4 : (op == 4) = false := by rw [beq_eq_false_iff_ne]; omega
    have n5 : (op == 5) = false := by rw [beq_eq_false_iff_ne]; omega
    have n6 : (op == 6) = false := by rw [beq_eq_false_iff_ne]; omega
    have n7 : (op == 7) = false := by rw [beq_eq_false_iff_ne]; omega
    have n8 : (op == 8) = false := by rw [beq_eq_false_iff_ne]; omega
    have n16 : (op == 16) = false := by rw [beq_eq_false_iff_ne]; omega
    have n17 : (op == 17) = false := by rw [beq_eq_false_iff_ne]; omega
    have n19 : (op == 19) = false := by rw [beq_eq_false_iff_ne]; omega
    have HF := Lib.hid (show cmpS op ⟨ak, an, az⟩ ⟨bk, bn, bz⟩ = R from (show binS op ⟨ak, an, az⟩ ⟨bk, bn, bz⟩ = _ by unfold binS; rw [if_neg (by omega), if_neg (by omega), if_neg (by omega), if_neg (by omega)]).symm.trans HR.out)
    go_wp2_with fail
    refine (icompare_any op ⟨ak, an, az⟩ ⟨bk, bn, bz⟩ _ c1 c2).mono ?_
    rw [HF.out]
    rintro er w2 ⟨rfl, hb2⟩
    clear a0 a1 a2
    clear b0 b1 b2
    have HA := Lib.hid (HA.out.call hb2); have HC := Lib.hid (HC.out.call hb2); have HRB := Lib.hid (HRB.out.call hb2); have HB := Lib.hid (btrans HB.out HB.out.size hb2); clear hb2
    rcases R with v | c | q
    · simp only [endR, vV]
      have r0 : w2.cell? ⟨(w.heap.size + 2), 0, none⟩ = some (.int .i64 0) := HRB.out.cell 0
      have r1 : w2.cell? ⟨(w.heap.size + 2), 1, none⟩ = some (.int .i64 0) := HRB.out.cell 1
      have r2 : w2.cell? ⟨(w.heap.size + 2), 2, none⟩ = some (.string ⟨#[]⟩) := HRB.out.cell 2
      have f0 := HRB.out.free 0
      have f1 := HRB.out.free 1
      have f2 := HRB.out.free 2
      have HK := Lib.hid (HRB.out.sets3 (.int .i64 v.k) (.int .i64 v.n) (.string (bs v.s)))
      go_wp2
      have k0 := HK.out.cell 0
      have k1 := HK.out.cell 1
      have k2 := HK.out.cell 2
      simp only [List.getElem?_toArray, List.getElem?_cons_zero, List.getElem?_cons_succ] at k0 k1 k2
      refine bodyPost_ret (v := .agg #[.int .i64 v.k, .int .i64 v.n, .string (bs v.s)]) (by simp [results, Tryz.results138, go_sem, k0, k1, k2] <;> rfl) rfl ⟨rfl, below_sets3 HB.out (w.heap.size + 2) (by omega) _ _ _⟩
    · simp only [endR]
      go_wp2
      exact ⟨rfl, rfl, HB.out⟩
    · simp only [endR]
      go_wp2
      exact ⟨rfl, rfl, HB.out⟩
end Go.Proofs.YtnglaegofhpleaaGreatDoor
namespace Go.Proofs.YtnglaegofhpleaaGreatDoor
open Go.RowKit

theorem Bx.c14 {b : Nat} {u0 u1 u2 u3 u4 u5 u6 u7 u8 u9 u10 u11 u12 u13 : Value} {T : TypeId} {W : World} (h : Bx b #[u0, u1, u2, u3, u4, u5, u6, u7, u8, u9, u10, u11, u12, u13] T W) : W.cell? ⟨b, 0, none⟩ = some u0 ∧ W.cell? ⟨b, 1, none⟩ = some u1 ∧ W.cell? ⟨b, 2, none⟩ = some u2 ∧ W.cell? ⟨b, 3, none⟩ = some u3 ∧ W.cell? ⟨b, 4, none⟩ = some u4 ∧ W.cell? ⟨b, 5, none⟩ = some u5 ∧ W.cell? ⟨b, 6, none⟩ = some u6 ∧ W.cell? ⟨b, 7, none⟩ = some u7 ∧ W.cell? ⟨b, 8, none⟩ = some u8 ∧ W.cell? ⟨b, 9, none⟩ = some u9 ∧ W.cell? ⟨b, 10, none⟩ = some u10 ∧ W.cell? ⟨b, 11, none⟩ = some u11 ∧ W.cell? ⟨b, 12, none⟩ = some u12 ∧ W.cell? ⟨b, 13, none⟩ = some u13 := ⟨h.cell 0, h.cell 1, h.cell 2, h.cell 3, h.cell 4, h.cell 5, h.cell 6, h.cell 7, h.cell 8, h.cell 9, h.cell 10, h.cell 11, h.cell 12, h.cell 13⟩
theorem Cont_any (a : Option Addr) (cap : Nat) (M : List (List UInt8)) (x : List UInt8) (w : World) (hl : M.length ≤ 9000000000000) (hM : StrS w (.slice a M.length cap) M) :
    Calls Tryz.prog 96 #[.slice a M.length cap, .string (bs x)] w fun e w' => e = .returned (.bool (M.contains x)) ∧ w' = w := by
  by_cases h0 : M = []
  · subst h0
    exact Tryz.slices_Contains_string_empty a cap (bs x) w
  · obtain ⟨a0, c0, he, hcp, hc⟩ := hM
    cases he
    obtain ⟨b, off, rfl, hcell⟩ := hc h0
    have e : (M.map bs).take M.length = M.map bs := List.take_of_length_le (by simp)
    have h := Tryz.slices_Contains_string b off M.length cap (M.map bs) (bs x) w (by simp) (by omega) (fun j hj => by
      have hj' : j < M.length := by simpa using hj
      rw [hcell j hj']
      unfold strV
      rw [List.getD_eq_getElem?_getD, List.getElem?_map, List.getElem?_eq_getElem hj']; rfl)
    rw [e] at h
    have e2 : Lib.containsS (M.map bs) (bs x) = M.contains x := by
      rw [Bool.eq_iff_iff, Lib.containsS_iff, List.contains_iff_mem, List.mem_map]
      exact ⟨fun ⟨y, hy, he⟩ => bs_inj he ▸ hy, fun h => ⟨x, h, rfl⟩⟩
    rw [e2] at h
    exact h
/-- reading a key: an abort, a restart, or the state's value -/
def fetS (al : Bool) (rd : List (List UInt8)) (M : List Pr) (k : List UInt8) : Rs := if keyB k = false then .ab 1004 else if al = false ∧ rd.contains k = false then .re k else .ok (getP M k)
def rdsR (R : Rs) (k : List UInt8) : List (List UInt8) := match R with
  | .ok _ => [k]
  | _ => []
theorem below_grown {B mb : Nat} {W0 w w' : World} (h : Below B W0 w) (hg : w.grownBy w' (some mb)) (hB : B ≤ mb) (hs : B ≤ w.heap.size) : Below B W0 w' :=
  ⟨hg.os.trans h.os, hg.tape.trans h.tape, hg.output.trans h.output, Nat.le_trans h.size hg.size, fun k hk => (hg.block k (by omega) (fun e => by cases e; omega)).trans (h.block k hk)⟩
theorem grown_below {w w' : World} (h : Below w.heap.size w w') (row : Option Nat) : w.grownBy w' row := ⟨h.os, h.tape, h.output, h.size, fun k hk _ => h.block k hk⟩
theorem Bx.kept {b : Nat} {cs : Array Value} {T : TypeId} {W W' : World} {row : Option Nat} (h : Bx b cs T W) (hg : W.grownBy W' row) (hne : row ≠ some b) : Bx b cs T W' := (hg.block b h.lt (fun e => hne e.symm)).trans h
theorem own_st {B k n : Nat} {e T : TypeId} {v : Value} {xs : List Value} {w : World} {b : Nat} {cs : Array Value} (h : w.ownsRow B e k v n xs) (hb : Bx b cs T w) (hT : T ≠ e) (i : Nat) (u : Value) : (w.setCell ⟨b, i, none⟩ u).ownsRow B e k v n xs := by
  refine h.kept (grown_set w ⟨b, i, none⟩ u) ?_
  cases hv : v.ownBlock with
  | none => exact .inl rfl
  | some g2 =>
    refine .inr (fun q => ?_)
    have hq : g2 = b := by simpa using q
    rcases own_form h with ⟨rfl, _⟩ | ⟨g, cap, rfl, _, _⟩
    · simp [Value.ownBlock] at hv
    · have hgg : g = g2 := by simpa [Value.ownBlock] using hv
      exact own_other h hb hT (hgg.trans hq)
/-- what stands behind the three stores into a result's box -/
theorem fin_sets3 {w W : World} {mb b B k n : Nat} {cs : Array Value} {T1 T2 e : TypeId} {z0 z1 z2 v : Value} {xs : List Value} (hg : w.grownBy W (some mb)) (hx : Bx mb cs T1 W) (hr : Bx b #[z0, z1, z2] T2 W) (hT : T2 ≠ e) (hb : w.heap.size ≤ b) (hne : mb ≠ b) (ho : W.ownsRow B e k v n xs) (u0 u1 u2 : Value) :
    w.grownBy (((W.setCell ⟨b, 0, none⟩ u0).setCell ⟨b, 1, none⟩ u1).setCell ⟨b, 2, none⟩ u2) (some mb) ∧ Bx mb cs T1 (((W.setCell ⟨b, 0, none⟩ u0).setCell ⟨b, 1, none⟩ u1).setCell ⟨b, 2, none⟩ u2) ∧ (((W.setCell ⟨b, 0, none⟩ u0).setCell ⟨b, 1, none⟩ u1).setCell ⟨b, 2, none⟩ u2).ownsRow B e k v n xs := by
  have h1 := hr.set 0 u0
  have h2 := h1.set 1 u1
  refine ⟨hg.andThen (((grown_set W ⟨b, 0, none⟩ u0).trans (grown_set _ ⟨b, 1, none⟩ u1)).trans (grown_set _ ⟨b, 2, none⟩ u2)) (fun j hj => .inl (by cases hj; exact hb)), ((hx.other hne u0).other hne u1).other hne u2, ?_⟩
  exact own_st (own_st (own_st ho hr hT 0 u0) h1 hT 1 u1) h2 hT 2 u2
theorem own_sl {w : World} {base size n : Nat} {e : TypeId} {v : Value} {xs : List Value} (h : w.ownsRow base e size v n xs) : ∃ a cap, v = .slice a n cap := by
  rcases own_form h with ⟨rfl, rfl⟩ | ⟨g, cap, rfl, _⟩
  · exact ⟨none, 0, rfl⟩
  · exact ⟨_, cap, rfl⟩
theorem with_nil (k : List UInt8) : withK [] k = [k] := rfl

set_option maxRecDepth 100000 in
set_option maxHeartbeats 16000000 in
theorem fetch_any (mb vm om : Nat) (sa ra wa : Option Addr) (sc rc wc : Nat) (M : List Pr) (al : Bool) (rd wr : List (List UInt8)) (k : List UInt8) (hk : k.length ≤ 9223372036854775807) (w W0 : World) (hX : Bx mb #[.slice sa M.length sc, .bool al, .slice ra rd.length rc, .slice wa wr.length wc, .map (some vm), .map (some om), .int .i64 0, .int .i64 0, .slice none 0 0, .slice none 0 0, .slice none 0 0, .slice none 0 0, .string ⟨#[]⟩, .int .i64 0] 143 w) (hO : Mp om [] w) (hmb : W0.heap.size ≤ mb) (hW0 : Below W0.heap.size W0 w) (hM : CellsAt W0 (.slice sa M.length sc) M.length (prLs M)) (hR : StrS W0 (.slice ra rd.length rc) rd) (hl1 : M.length ≤ 9000000000000) (hl2 : rd.length ≤ 9000000000000) :
    Calls Tryz.prog 161 #[.pointer (some ⟨mb, 0, none⟩), .string (bs k)] w fun e w' => e = endR (fetS al rd M k) ∧ w.grownBy w' (some mb) ∧ ∃ rv, Bx mb #[.slice sa M.length sc, .bool al, .slice ra rd.length rc, .slice wa wr.length wc, .map (some vm), .map (some om), .int .i64 0, .int .i64 0, .slice none 0 0, rv, .slice none 0 0, .slice none 0 0, .string ⟨#[]⟩, .int .i64 0] 143 w' ∧ w'.ownsRow w.heap.size 9 1 rv (rdsR (fetS al rd M k) k).length ((rdsR (fetS al rd M k) k).map strV) := by
  obtain ⟨R, hR_⟩ : ∃ R, fetS al rd M k = R := ⟨_, rfl⟩
  rw [hR_]
  obtain ⟨kb, hkb⟩ : ∃ b, keyB k = b := ⟨_, rfl⟩
  obtain ⟨cb, hcb⟩ : ∃ b, rd.contains k = b := ⟨_, rfl⟩
  have hmw := hX.lt
  have hsz := hW0.size
  have HFR := Lib.hid hR_; have HKB := Lib.hid hkb; have HCB := Lib.hid hcb; have HM := Lib.hid hM; have HRS := Lib.hid hR; clear hR_ hkb hcb hM hR
  have hal0 := (Below.refl w.heap.size w).alloc (Nat.le_refl _) (.cells #[.int .i64 0, .int .i64 0, .string ⟨#[]⟩] 52)
  have HG := Lib.hid (grown_below hal0 (some mb)); have HRB := Lib.hid (Bx.new w #[.int .i64 0, .int .i64 0, .string ⟨#[]⟩] 52); have HX := Lib.hid (hX.call hal0); have HO := Lib.hid (hO.call hal0); have HW := Lib.hid (btrans hW0 hsz hal0); clear hX hO hW0 hal0
  go_enter Tryz.func161, Tryz.ntmps161
  go_upto_region 1 with (fail)
  generalize hW : w.alloc (.cells #[.int .i64 0, .int .i64 0, .string ⟨#[]⟩] 52) = v0 at HG HRB HX HO HW ⊢
  clear hW
  go_wp2_with fail
  refine (KValid_any k hk _).mono ?_
  rw [HKB.out]
  rintro er w1 ⟨rfl, hb1⟩
  have HG := Lib.hid (HG.out.trans (grown_below hb1 _)); have HRB := Lib.hid (HRB.out.call hb1); have HX := Lib.hid (HX.out.call hb1); have HO := Lib.hid (HO.out.call hb1); have HW := Lib.hid (btrans HW.out HW.out.size hb1); clear hb1
  cases kb with
  | false =>
    have HF := Lib.hid (show R = .ab 1004 from HFR.out.symm.trans (if_pos HKB.out))
    go_wp2_with fail
    refine (iabort_any 1004 _).mono ?_
    rintro er w2 ⟨rfl, rfl⟩
    go_wp2
    exact ⟨rfl, by rw [HF.out] <;> rfl, HG.out, ⟨_, HX.out, by rw [HF.out]; exact own_nil _ _ _ _⟩⟩
  | true =>
    have HFR := Lib.hid (show (if al = false ∧ rd.contains k = false then Rs.re k else .ok (getP M k)) = R from (show fetS al rd M k = _ from if_neg (by rw [HKB.out]; simp)).symm.trans HFR.out)
    have hlk : (Instr.lookup 141 (.map (some om)) (.string (bs k)) true).run Tryz.prog w1 = .ok (.tuple #[.agg #[.int .i64 0, .int .i64 0, .string ⟨#[]⟩], .bool false]) w1 := run_look HO.out k
    obtain ⟨m0, m1, m2, m3, m4, m5, m6, m7, m8, m9, m10, m11, m12, m13⟩ := HX.out.c14
    have hb2 := (Below.refl w1.heap.size w1).alloc (Nat.le_refl _) (.cells #[.int .i64 0, .int .i64 0, .string ⟨#[]⟩] 52)
    go_upto_region 4 with (fail)
    clear m0 m1 m2 m3 m4 m5 m6 m7 m8 m9 m10 m11 m12 m13
    clear hlk
    have HG := Lib.hid (HG.out.trans (grown_below hb2 _)); have HRB := Lib.hid (HRB.out.call hb2); have HX := Lib.hid (HX.out.call hb2); have HO := Lib.hid (HO.out.call hb2); have HW := Lib.hid (btrans HW.out HW.out.size hb2); clear hb2
    generalize hW : w1.alloc (.cells #[.int .i64 0, .int .i64 0, .string ⟨#[]⟩] 52) = v1 at HG HRB HX HO HW ⊢
    clear hW
    obtain ⟨m0, m1, m2, m3, m4, m5, m6, m7, m8, m9, m10, m11, m12, m13⟩ := HX.out.c14
    cases al with
    | true =>
      have HF := Lib.hid (show R = .ok (getP M k) from HFR.out.symm.trans (if_neg (by simp)))
      clear HFR
      go_wp2_with fail
      refine (iwith_any v1.heap.size (.slice none 0 0) [] k _ List.Pairwise.nil (own_nil _ _ _ _) (Nat.le_refl _) (by simp)).mono ?_
      rintro er w3 ⟨rv, rfl, hown, hgr, -⟩
      rw [with_nil] at hown
      simp only [List.length_singleton] at hown
      obtain ⟨rq, rqc, rfl⟩ := own_sl hown
      clear m0 m1 m2 m3 m4 m5 m6 m7 m8 m9 m10 m11 m12 m13
      have hb3 : Below v1.heap.size v1 w3 := ⟨hgr.os, hgr.tape, hgr.output, hgr.size, fun c hc => hgr.block c hc (by simp [Value.ownBlock])⟩
      have hmv := HX.out.lt
      have hwv := HG.out.size
      clear hgr
      have HG := Lib.hid (HG.out.trans (grown_below hb3 _)); have HRB := Lib.hid (HRB.out.call hb3); have HX := Lib.hid (HX.out.call hb3); have HO := Lib.hid (HO.out.call hb3); have HW := Lib.hid (btrans HW.out HW.out.size hb3); clear hb3
      obtain ⟨m0, m1, m2, m3, m4, m5, m6, m7, m8, m9, m10, m11, m12, m13⟩ := HX.out.c14
      have z9 := HX.out.free 9
      have HX2 := Lib.hid (show Bx mb #[.slice sa M.length sc, .bool true, .slice ra rd.length rc, .slice wa wr.length wc, .map (some vm), .map (some om), .int .i64 0, .int .i64 0, .slice none 0 0, .slice rq 1 rqc, .slice none 0 0, .slice none 0 0, .string ⟨#[]⟩, .int .i64 0] 143 (w3.setCell ⟨mb, 9, none⟩ (.slice rq 1 rqc)) from by have := HX.out.set 9 (.slice rq 1 rqc); simpa using this)
      have HG2 := Lib.hid (HG.out.trans (grown_set w3 ⟨mb, 9, none⟩ (.slice rq 1 rqc))); have HRB2 := Lib.hid (HRB.out.other (c := mb) (i := 9) (by omega) (.slice rq 1 rqc)); have HW2 := Lib.hid (below_set HW.out mb 9 hmb (.slice rq 1 rqc)); have HOW := Lib.hid (own_set hown mb 9 hmv (.slice rq 1 rqc))
      clear hown
      go_upto_region 9 with (fail)
      clear z9 HX HG HRB HW HO
      clear m0 m1 m2 m3 m4 m5 m6 m7 m8 m9 m10 m11 m12 m13
      generalize hWE : w3.setCell ⟨mb, 9, none⟩ (.slice rq 1 rqc) = v3 at HX2 HG2 HRB2 HW2 HOW ⊢
      clear hWE
      have HX := HX2; have HG := HG2; have HRB := HRB2; have HW := HW2; clear HX2 HG2 HRB2 HW2
      obtain ⟨m0, -⟩ := HX.out.c14
      obtain ⟨gv, hgv⟩ : ∃ v, getP M k = v := ⟨_, rfl⟩
      have HGV := Lib.hid hgv
      rw [hgv] at HF
      clear hgv
      go_wp2_with fail
      refine (SGet_any sa sc M k _ hl1 (HM.out.below HW.out)).mono ?_
      rw [HGV.out]
      rintro er w4 ⟨rfl, hb4⟩
      simp only [vV]
      clear m0
      have HG := Lib.hid (HG.out.trans (grown_below hb4 _)); have HRB := Lib.hid (HRB.out.call hb4); have HX := Lib.hid (HX.out.call hb4); have HOW := Lib.hid (own_below HOW.out hb4); clear hb4
      have r0 : w4.cell? ⟨w.heap.size, 0, none⟩ = some (.int .i64 0) := HRB.out.cell 0
      have r1 : w4.cell? ⟨w.heap.size, 1, none⟩ = some (.int .i64 0) := HRB.out.cell 1
      have r2 : w4.cell? ⟨w.heap.size, 2, none⟩ = some (.string ⟨#[]⟩) := HRB.out.cell 2
      have f0 := HRB.out.free 0
      have f1 := HRB.out.free 1
      have f2 := HRB.out.free 2
      have HK := Lib.hid (HRB.out.sets3 (.int .i64 gv.k) (.int .i64 gv.n) (.string (bs gv.s)))
      have HFIN := Lib.hid (fin_sets3 HG.out HX.out HRB.out (by decide) (Nat.le_refl _) (by omega) HOW.out (.int .i64 gv.k) (.int .i64 gv.n) (.string (bs gv.s)))
      go_wp2
      have k0 := HK.out.cell 0
      have k1 := HK.out.cell 1
      have k2 := HK.out.cell 2
      simp only [List.getElem?_toArray, List.getElem?_cons_zero, List.getElem?_cons_succ] at k0 k1 k2
      refine bodyPost_ret (v := .agg #[.int .i64 gv.k, .int .i64 gv.n, .string (bs gv.s)]) (by simp [results, Tryz.results161, go_sem, k0, k1, k2] <;> rfl) rfl ⟨by rw [HF.out] <;> rfl, HFIN.out.1, _, HFIN.out.2.1, ?_⟩
      rw [HF.out]
      exact own_mono HFIN.out.2.2 hwv
    | false =>
      go_wp2_with fail
      refine (Cont_any ra rc rd k _ hl2 (HRS.out.below HW.out)).mono ?_
      rw [HCB.out]
      rintro er w2 ⟨rfl, rfl⟩
      cases cb with
      | true =>
        have HF := Lib.hid (show R = .ok (getP M k) from HFR.out.symm.trans (if_neg (by rw [HCB.out]; simp)))
        clear HFR
        go_wp2_with fail
        refine (iwith_any w2.heap.size (.slice none 0 0) [] k _ List.Pairwise.nil (own_nil _ _ _ _) (Nat.le_refl _) (by simp)).mono ?_
        rintro er w3 ⟨rv, rfl, hown, hgr, -⟩
        rw [with_nil] at hown
        simp only [List.length_singleton] at hown
        obtain ⟨rq, rqc, rfl⟩ := own_sl hown
        clear m0 m1 m2 m3 m4 m5 m6 m7 m8 m9 m10 m11 m12 m13
        have hb3 : Below w2.heap.size w2 w3 := ⟨hgr.os, hgr.tape, hgr.output, hgr.size, fun c hc => hgr.block c hc (by simp [Value.ownBlock])⟩
        have hmv := HX.out.lt
        have hwv := HG.out.size
        clear hgr
        have HG := Lib.hid (HG.out.trans (grown_below hb3 _)); have HRB := Lib.hid (HRB.out.call hb3); have HX := Lib.hid (HX.out.call hb3); have HO := Lib.hid (HO.out.call hb3); have HW := Lib.hid (btrans HW.out HW.out.size hb3); clear hb3
        obtain ⟨m0, m1, m2, m3, m4, m5, m6, m7, m8, m9, m10, m11, m12, m13⟩ := HX.out.c14
        have z9 := HX.out.free 9
        have HX2 := Lib.hid (show Bx mb #[.slice sa M.length sc, .bool false, .slice ra rd.length rc, .slice wa wr.length wc, .map (some vm), .map (some om), .int .i64 0, .int .i64 0, .slice none 0 0, .slice rq 1 rqc, .slice none 0 0, .slice none 0 0, .string ⟨#[]⟩, .int .i64 0] 143 (w3.setCell ⟨mb, 9, none⟩ (.slice rq 1 rqc)) from by have := HX.out.set 9 (.slice rq 1 rqc); simpa using this)
        have HG2 := Lib.hid (HG.out.trans (grown_set w3 ⟨mb, 9, none⟩ (.slice rq 1 rqc))); have HRB2 := Lib.hid (HRB.out.other (c := mb) (i := 9) (by omega) (.slice rq 1 rqc)); have HW2 := Lib.hid (below_set HW.out mb 9 hmb (.slice rq 1 rqc)); have HOW := Lib.hid (own_set hown mb 9 hmv (.slice rq 1 rqc))
        clear hown
        go_upto_region 9 with (fail)
        clear z9 HX HG HRB HW HO
        clear m0 m1 m2 m3 m4 m5 m6 m7 m8 m9 m10 m11 m12 m13
        generalize hWE : w3.setCell ⟨mb, 9, none⟩ (.slice rq 1 rqc) = v3 at HX2 HG2 HRB2 HW2 HOW ⊢
        clear hWE
        have HX := HX2; have HG := HG2; have HRB := HRB2; have HW := HW2; clear HX2 HG2 HRB2 HW2
        obtain ⟨m0, -⟩ := HX.out.c14
        obtain ⟨gv, hgv⟩ : ∃ v, getP M k = v := ⟨_, rfl⟩
        have HGV := Lib.hid hgv
        rw [hgv] at HF
        clear hgv
        go_wp2_with fail
        refine (SGet_any sa sc M k _ hl1 (HM.out.below HW.out)).mono ?_
        rw [HGV.out]
        rintro er w4 ⟨rfl, hb4⟩
        simp only [vV]
        clear m0
        have HG := Lib.hid (HG.out.trans (grown_below hb4 _)); have HRB := Lib.hid (HRB.out.call hb4); have HX := Lib.hid (HX.out.call hb4); have HOW := Lib.hid (own_below HOW.out hb4); clear hb4
        have r0 : w4.cell? ⟨w.heap.size, 0, none⟩ = some (.int .i64 0) := HRB.out.cell 0
        have r1 : w4.cell? ⟨w.heap.size, 1, none⟩ = some (.int .i64 0) := HRB.out.cell 1
        have r2 : w4.cell? ⟨w.heap.size, 2, none⟩ = some (.string ⟨#[]⟩) := HRB.out.cell 2
        have f0 := HRB.out.free 0
        have f1 := HRB.out.free 1
        have f2 := HRB.out.free 2
        have HK := Lib.hid (HRB.out.sets3 (.int .i64 gv.k) (.int .i64 gv.n) (.string (bs gv.s)))
        have HFIN := Lib.hid (fin_sets3 HG.out HX.out HRB.out (by decide) (Nat.le_refl _) (by omega) HOW.out (.int .i64 gv.k) (.int .i64 gv.n) (.string (bs gv.s)))
        go_wp2
        have k0 := HK.out.cell 0
        have k1 := HK.out.cell 1
        have k2 := HK.out.cell 2
        simp only [List.getElem?_toArray, List.getElem?_cons_zero, List.getElem?_cons_succ] at k0 k1 k2
        refine bodyPost_ret (v := .agg #[.int .i64 gv.k, .int .i64 gv.n, .string (bs gv.s)]) (by simp [results, Tryz.results161, go_sem, k0, k1, k2] <;> rfl) rfl ⟨by rw [HF.out] <;> rfl, HFIN.out.1, _, HFIN.out.2.1, ?_⟩
        rw [HF.out]
        exact own_mono HFIN.out.2.2 hwv
      | false =>
        have HF := Lib.hid (show R = .re k from HFR.out.symm.trans (if_pos ⟨(by first | exact True.intro | rfl), HCB.out⟩))
        clear m0 m1 m2 m3 m4 m5 m6 m7 m8 m9 m10 m11 m12 m13
        go_wp2_with fail
        refine (irestart_any k _).mono ?_
        rintro er w9 ⟨rfl, rfl⟩
        go_wp2
        exact ⟨(by first | exact True.intro | rfl), by rw [HF.out] <;> rfl, HG.out, ⟨_, HX.out, by rw [HF.out]; exact own_nil _ _ _ _⟩⟩
end Go.Proofs.YtnglaegofhpleaaGreatDoor
namespace Go.Proofs.YtnglaegofhpleaaGreatDoor
open Go.RowKit

def thenG (op : Int) : Rs → Rs
  | .ok v => gotS op v
  | r => r
/-- an operator with one operand: its result, and the keys read -/
def uneS (al : Bool) (rd : List (List UInt8)) (M : List Pr) (op : Int) (a : Vl) : Rs × List (List UInt8) :=
  if op = 9 ∨ op = 18 ∨ op = 20 ∨ op = 21 then (unS op a, [])
  else if a.k = 2 then (thenG op (fetS al rd M a.s), rdsR (fetS al rd M a.s) a.s) else (.ab 1009, [])
theorem pair_eq {α β : Type} {x y : α} {z t : β} (h : (x, z) = (y, t)) : x = y ∧ z = t := ⟨congrArg Prod.fst h, congrArg Prod.snd h⟩

set_option maxRecDepth 100000 in
set_option maxHeartbeats 32000000 in
theorem unary_any (mb vm om : Nat) (sa ra wa : Option Addr) (sc rc wc : Nat) (M : List Pr) (al : Bool) (rd wr : List (List UInt8)) (op : Int) (a : Vl) (hop : op = 9 ∨ op = 18 ∨ op = 20 ∨ op = 21 ∨ op = 22 ∨ op = 23 ∨ op = 24) (ha1 : -9223372036854775808 ≤ a.n) (ha2 : a.n ≤ 9223372036854775807) (hal : a.s.length ≤ 1000000) (w W0 : World) (hX : Bx mb #[.slice sa M.length sc, .bool al, .slice ra rd.length rc, .slice wa wr.length wc, .map (some vm), .map (some om), .int .i64 0, .int .i64 0, .slice none 0 0, .slice none 0 0, .slice none 0 0, .slice none 0 0, .string ⟨#[]⟩, .int .i64 0] 143 w) (hO : Mp om [] w) (hmb : W0.heap.size ≤ mb) (hW0 : Below W0.heap.size W0 w) (hM : CellsAt W0 (.slice sa M.length sc) M.length (prLs M)) (hR : StrS W0 (.slice ra rd.length rc) rd) (hl1 : M.length ≤ 9000000000000) (hl2 : rd.length ≤ 9000000000000) (hLd : Laid W0) :
    Calls Tryz.prog 137 #[.pointer (some ⟨mb, 0, none⟩), .int .i64 op, .agg (vV a)] w fun e w' => e = endR (uneS al rd M op a).1 ∧ w.grownBy w' (some mb) ∧ ∃ rv, Bx mb #[.slice sa M.length sc, .bool al, .slice ra rd.length rc, .slice wa wr.length wc, .map (some vm), .map (some om), .int .i64 0, .int .i64 0, .slice none 0 0, rv, .slice none 0 0, .slice none 0 0, .string ⟨#[]⟩, .int .i64 0] 143 w' ∧ w'.ownsRow w.heap.size 9 1 rv (uneS al rd M op a).2.length ((uneS al rd M op a).2.map strV) := by
  obtain ⟨ak, an, az⟩ := a
  simp only at ha1 ha2 hal
  simp only [vV]
  obtain ⟨⟨R, ks⟩, hU⟩ : ∃ x, uneS al rd M op ⟨ak, an, az⟩ = x := ⟨_, rfl⟩
  rw [hU]
  simp only
  have hmw := hX.lt
  have hsz := hW0.size
  have HU := Lib.hid hU; have HM := Lib.hid hM; have HRS := Lib.hid hR; have HLD := Lib.hid hLd; clear hU hM hR hLd
  have hal0 := ((Below.refl w.heap.size w).alloc (Nat.le_refl _) (.cells #[.int .i64 ak, .int .i64 an, .string (bs az)] 52)).alloc (by simp) (.cells #[.int .i64 0, .int .i64 0, .string ⟨#[]⟩] 52)
  have hr0 := Bx.new (w.alloc (.cells #[.int .i64 ak, .int .i64 an, .string (bs az)] 52)) #[.int .i64 0, .int .i64 0, .string ⟨#[]⟩] 52
  rw [show (w.alloc (.cells #[.int .i64 ak, .int .i64 an, .string (bs az)] 52)).heap.size = w.heap.size + 1 by simp] at hr0
  have HA := Lib.hid ((Bx.new w #[.int .i64 ak, .int .i64 an, .string (bs az)] 52).alloc (.cells #[.int .i64 0, .int .i64 0, .string ⟨#[]⟩] 52))
  have HG := Lib.hid (grown_below hal0 (some mb)); have HRB := Lib.hid hr0; have HX := Lib.hid (hX.call hal0); have HO := Lib.hid (hO.call hal0); have HW := Lib.hid (btrans hW0 hsz hal0); clear hX hO hW0 hal0 hr0
  go_enter Tryz.func137, Tryz.ntmps137
  go_upto_region 1 with (fail)
  generalize hW : (w.alloc (.cells #[.int .i64 ak, .int .i64 an, .string (bs az)] 52)).alloc (.cells #[.int .i64 0, .int .i64 0, .string ⟨#[]⟩] 52) = v0 at HG HRB HA HX HO HW ⊢
  clear hW
  obtain ⟨a0, a1, a2⟩ := HA.out.c3
  rcases hop with rfl | rfl | rfl | rfl | hop2
  · skip
    by_cases hk : ak = 1
    rotate_left
    · have tk : (ak == 1) = false := by rw [beq_eq_false_iff_ne]; exact hk
      obtain ⟨hRe, rfl⟩ : R = .ab 1009 ∧ ks = [] := pair_eq (HU.out.symm.trans (by unfold uneS unS; rw [if_pos (by decide), if_pos rfl, if_neg hk]))
      have HF := Lib.hid hRe; clear hRe
      clear hk HU
      go_wp2_with fail
      refine (must_no _).mono ?_
      rintro er w9 ⟨rfl, rfl⟩
      go_wp2
      exact ⟨(by first | exact True.intro | rfl), by rw [HF.out] <;> rfl, HG.out, _, HX.out, own_nil _ _ _ _⟩
    have tk : (ak == 1) = true := by rw [hk]; rfl
    obtain ⟨hRe, rfl⟩ : R = exS (negS an) ∧ ks = [] := pair_eq (HU.out.symm.trans (by unfold uneS unS; rw [if_pos (by decide), if_pos rfl, if_pos hk]))
    have HF := Lib.hid hRe; clear hRe
    clear hk HU
    go_wp2_with fail
    refine (must_yes _).mono ?_
    rintro er w1 ⟨rfl, rfl⟩
    obtain ⟨⟨n, e⟩, hx⟩ : ∃ x, negS an = x := ⟨_, rfl⟩
    rw [hx] at HF
    have HXN := Lib.hid hx; clear hx
    go_wp2_with fail
    refine (Neg_any an _ ha1 ha2).mono ?_
    rw [HXN.out]
    rintro er w2 ⟨rfl, rfl⟩
    obtain ⟨R2, hR2⟩ : ∃ R2, exS (n, e) = R2 := ⟨_, rfl⟩
    have HF := Lib.hid (HF.out.trans hR2)
    have HR2 := Lib.hid hR2; clear hR2
    go_wp2_with fail
    refine (exact_any n e _).mono ?_
    rw [HR2.out]
    rintro er w3 ⟨rfl, hb3⟩
    clear a0 a1 a2
    have HG := Lib.hid (HG.out.trans (grown_below hb3 _)); have HA := Lib.hid (HA.out.call hb3); have HRB := Lib.hid (HRB.out.call hb3); have HX := Lib.hid (HX.out.call hb3); have HO := Lib.hid (HO.out.call hb3); have HW := Lib.hid (btrans HW.out HW.out.size hb3); clear hb3
    rcases R2 with v | c | q
    · simp only [endR, vV]
      have r0 : w3.cell? ⟨(w.heap.size + 1), 0, none⟩ = some (.int .i64 0) := HRB.out.cell 0
      have r1 : w3.cell? ⟨(w.heap.size + 1), 1, none⟩ = some (.int .i64 0) := HRB.out.cell 1
      have r2 : w3.cell? ⟨(w.heap.size + 1), 2, none⟩ = some (.string ⟨#[]⟩) := HRB.out.cell 2
      have f0 := HRB.out.free 0
      have f1 := HRB.out.free 1
      have f2 := HRB.out.free 2
      have HK := Lib.hid (HRB.out.sets3 (.int .i64 v.k) (.int .i64 v.n) (.string (bs v.s)))
      have HFIN := Lib.hid (fin_sets3 HG.out HX.out HRB.out (by decide) (by omega) (by omega) (own_nil w3 w.heap.size 9 1) (.int .i64 v.k) (.int .i64 v.n) (.string (bs v.s)))
      go_wp2
      have k0 := HK.out.cell 0
      have k1 := HK.out.cell 1
      have k2 := HK.out.cell 2
      simp only [List.getElem?_toArray, List.getElem?_cons_zero, List.getElem?_cons_succ] at k0 k1 k2
      refine bodyPost_ret (v := .agg #[.int .i64 v.k, .int .i64 v.n, .string (bs v.s)]) (by simp [results, Tryz.results137, go_sem, k0, k1, k2] <;> rfl) rfl ⟨by rw [HF.out] <;> rfl, HFIN.out.1, _, HFIN.out.2.1, HFIN.out.2.2⟩
    · simp only [endR]
      go_wp2
      exact ⟨(by first | exact True.intro | rfl), by rw [HF.out] <;> rfl, HG.out, _, HX.out, own_nil _ _ _ _⟩
    · simp only [endR]
      go_wp2
      exact ⟨(by first | exact True.intro | rfl), by rw [HF.out] <;> rfl, HG.out, _, HX.out, own_nil _ _ _ _⟩
  · skip
    by_cases hk : ak = 3
    rotate_left
    · have tk : (ak == 3) = false := by rw [beq_eq_false_iff_ne]; exact hk
      obtain ⟨hRe, rfl⟩ : R = .ab 1009 ∧ ks = [] := pair_eq (HU.out.symm.trans (by unfold uneS unS; rw [if_pos (by decide), if_neg (by decide), if_pos rfl, if_neg hk]))
      have HF := Lib.hid hRe; clear hRe
      clear hk HU
      go_wp2_with fail
      refine (must_no _).mono ?_
      rintro er w9 ⟨rfl, rfl⟩
      go_wp2
      exact ⟨(by first | exact True.intro | rfl), by rw [HF.out] <;> rfl, HG.out, _, HX.out, own_nil _ _ _ _⟩
    have tk : (ak == 3) = true := by rw [hk]; rfl
    obtain ⟨hRe, rfl⟩ : R = .ok (truV (decide (an = 0))) ∧ ks = [] := pair_eq (HU.out.symm.trans (by unfold uneS unS; rw [if_pos (by decide), if_neg (by decide), if_pos rfl, if_pos hk]))
    have HF := Lib.hid hRe; clear hRe
    clear hk HU
    go_wp2_with fail
    refine (must_yes _).mono ?_
    rintro er w1 ⟨rfl, rfl⟩
    by_cases hy : an = 0
    · have ty : (an == 0) = true := by rw [hy]; rfl
      rw [decide_eq_true hy] at HF
      clear hy
      go_wp2_with fail
      refine (itruth_any true _).mono ?_
      rintro er w3 ⟨rfl, hb3⟩
      clear a0 a1 a2
      have HG := Lib.hid (HG.out.trans (grown_below hb3 _)); have HA := Lib.hid (HA.out.call hb3); have HRB := Lib.hid (HRB.out.call hb3); have HX := Lib.hid (HX.out.call hb3); have HO := Lib.hid (HO.out.call hb3); have HW := Lib.hid (btrans HW.out HW.out.size hb3); clear hb3
      simp only [endR, vV, truV, if_true]
      have r0 : w3.cell? ⟨(w.heap.size + 1), 0, none⟩ = some (.int .i64 0) := HRB.out.cell 0
      have r1 : w3.cell? ⟨(w.heap.size + 1), 1, none⟩ = some (.int .i64 0) := HRB.out.cell 1
      have r2 : w3.cell? ⟨(w.heap.size + 1), 2, none⟩ = some (.string ⟨#[]⟩) := HRB.out.cell 2
      have f0 := HRB.out.free 0
      have f1 := HRB.out.free 1
      have f2 := HRB.out.free 2
      have HK := Lib.hid (HRB.out.sets3 (.int .i64 3) (.int .i64 1) (.string (bs [])))
      have HFIN := Lib.hid (fin_sets3 HG.out HX.out HRB.out (by decide) (by omega) (by omega) (own_nil w3 w.heap.size 9 1) (.int .i64 3) (.int .i64 1) (.string (bs [])))
      go_wp2
      have k0 := HK.out.cell 0
      have k1 := HK.out.cell 1
      have k2 := HK.out.cell 2
      simp only [List.getElem?_toArray, List.getElem?_cons_zero, List.getElem?_cons_succ] at k0 k1 k2
      refine bodyPost_ret (v := .agg #[.int .i64 3, .int .i64 1, .string (bs [])]) (by simp [results, Tryz.results137, go_sem, k0, k1, k2] <;> rfl) rfl ⟨by rw [HF.out] <;> rfl, HFIN.out.1, _, HFIN.out.2.1, HFIN.out.2.2⟩
    · have ty : (an == 0) = false := by rw [beq_eq_false_iff_ne]; exact hy
      rw [decide_eq_false hy] at HF
      clear hy
      go_wp2_with fail
      refine (itruth_any false _).mono ?_
      rintro er w3 ⟨rfl, hb3⟩
      clear a0 a1 a2
      have HG := Lib.hid (HG.out.trans (grown_below hb3 _)); have HA := Lib.hid (HA.out.call hb3); have HRB := Lib.hid (HRB.out.call hb3); have HX := Lib.hid (HX.out.call hb3); have HO := Lib.hid (HO.out.call hb3); have HW := Lib.hid (btrans HW.out HW.out.size hb3); clear hb3
      simp only [endR, vV, truV, Bool.false_eq_true, if_false]
      have r0 : w3.cell? ⟨(w.heap.size + 1), 0, none⟩ = some (.int .i64 0) := HRB.out.cell 0
      have r1 : w3.cell? ⟨(w.heap.size + 1), 1, none⟩ = some (.int .i64 0) := HRB.out.cell 1
      have r2 : w3.cell? ⟨(w.heap.size + 1), 2, none⟩ = some (.string ⟨#[]⟩) := HRB.out.cell 2
      have f0 := HRB.out.free 0
      have f1 := HRB.out.free 1
      have f2 := HRB.out.free 2
      have HK := Lib.hid (HRB.out.sets3 (.int .i64 3) (.int .i64 0) (.string (bs [])))
      have HFIN := Lib.hid (fin_sets3 HG.out HX.out HRB.out (by decide) (by omega) (by omega) (own_nil w3 w.heap.size 9 1) (.int .i64 3) (.int .i64 0) (.string (bs [])))
      go_wp2
      have k0 := HK.out.cell 0
      have k1 := HK.out.cell 1
      have k2 := HK.out.cell 2
      simp only [List.getElem?_toArray, List.getElem?_cons_zero, List.getElem?_cons_succ] at k0 k1 k2
      refine bodyPost_ret (v := .agg #[.int .i64 3, .int .i64 0, .string (bs [])]) (by simp [results, Tryz.results137, go_sem, k0, k1, k2] <;> rfl) rfl ⟨by rw [HF.out] <;> rfl, HFIN.out.1, _, HFIN.out.2.1, HFIN.out.2.2⟩
  · skip
    by_cases hk : ak = 1
    rotate_left
    · have tk : (ak == 1) = false := by rw [beq_eq_false_iff_ne]; exact hk
      obtain ⟨hRe, rfl⟩ : R = .ab 1009 ∧ ks = [] := pair_eq (HU.out.symm.trans (by unfold uneS unS; rw [if_pos (by decide), if_neg (by decide), if_neg (by decide), if_pos rfl, if_neg hk]))
      have HF := Lib.hid hRe; clear hRe
      clear hk HU
      go_wp2_with fail
      refine (must_no _).mono ?_
      rintro er w9 ⟨rfl, rfl⟩
      go_wp2
      exact ⟨(by first | exact True.intro | rfl), by rw [HF.out] <;> rfl, HG.out, _, HX.out, own_nil _ _ _ _⟩
    have tk : (ak == 1) = true := by rw [hk]; rfl
    obtain ⟨hRe, rfl⟩ : R = txS (Lib.itoa an) ∧ ks = [] := pair_eq (HU.out.symm.trans (by unfold uneS unS; rw [if_pos (by decide), if_neg (by decide), if_neg (by decide), if_pos rfl, if_pos hk]))
    have HF := Lib.hid hRe; clear hRe
    clear hk HU
    go_wp2_with fail
    refine (must_yes _).mono ?_
    rintro er w1 ⟨rfl, rfl⟩
    have hil : (Lib.itoa an).length ≤ 1000 := by have := Lib.itoa_length_le an (by omega) (by omega); omega
    obtain ⟨I, hI⟩ : ∃ I, Lib.itoa an = I := ⟨_, rfl⟩
    rw [hI] at hil
    rw [hI] at HF
    have HI := Lib.hid hI; clear hI
    go_wp2_with fail
    refine (Format_any an _ ha1 ha2 (HLD.out.below HW.out)).mono ?_
    rw [HI.out]
    rintro er w2 ⟨rfl, hb2⟩
    clear a0 a1 a2
    have HG := Lib.hid (HG.out.trans (grown_below hb2 _)); have HA := Lib.hid (HA.out.call hb2); have HRB := Lib.hid (HRB.out.call hb2); have HX := Lib.hid (HX.out.call hb2); have HO := Lib.hid (HO.out.call hb2); have HW := Lib.hid (btrans HW.out HW.out.size hb2); clear hb2
    obtain ⟨a0, a1, a2⟩ := HA.out.c3
    obtain ⟨R2, hR2⟩ : ∃ R2, txS I = R2 := ⟨_, rfl⟩
    have HF := Lib.hid (HF.out.trans hR2)
    have HR2 := Lib.hid hR2; clear hR2
    go_wp2_with fail
    refine (itext_any I (by omega) _).mono ?_
    rw [HR2.out]
    rintro er w3 ⟨rfl, hb3⟩
    clear a0 a1 a2
    have HG := Lib.hid (HG.out.trans (grown_below hb3 _)); have HA := Lib.hid (HA.out.call hb3); have HRB := Lib.hid (HRB.out.call hb3); have HX := Lib.hid (HX.out.call hb3); have HO := Lib.hid (HO.out.call hb3); have HW := Lib.hid (btrans HW.out HW.out.size hb3); clear hb3
    rcases R2 with v | c | q
    · simp only [endR, vV]
      have r0 : w3.cell? ⟨(w.heap.size + 1), 0, none⟩ = some (.int .i64 0) := HRB.out.cell 0
      have r1 : w3.cell? ⟨(w.heap.size + 1), 1, none⟩ = some (.int .i64 0) := HRB.out.cell 1
      have r2 : w3.cell? ⟨(w.heap.size + 1), 2, none⟩ = some (.string ⟨#[]⟩) := HRB.out.cell 2
      have f0 := HRB.out.free 0
      have f1 := HRB.out.free 1
      have f2 := HRB.out.free 2
      have HK := Lib.hid (HRB.out.sets3 (.int .i64 v.k) (.int .i64 v.n) (.string (bs v.s)))
      have HFIN := Lib.hid (fin_sets3 HG.out HX.out HRB.out (by decide) (by omega) (by omega) (own_nil w3 w.heap.size 9 1) (.int .i64 v.k) (.int .i64 v.n) (.string (bs v.s)))
      go_wp2
      have k0 := HK.out.cell 0
      have k1 := HK.out.cell 1
      have k2 := HK.out.cell 2
      simp only [List.getElem?_toArray, List.getElem?_cons_zero, List.getElem?_cons_succ] at k0 k1 k2
      refine bodyPost_ret (v := .agg #[.int .i64 v.k, .int .i64 v.n, .string (bs v.s)]) (by simp [results, Tryz.results137, go_sem, k0, k1, k2] <;> rfl) rfl ⟨by rw [HF.out] <;> rfl, HFIN.out.1, _, HFIN.out.2.1, HFIN.out.2.2⟩
    · simp only [endR]
      go_wp2
      exact ⟨(by first | exact True.intro | rfl), by rw [HF.out] <;> rfl, HG.out, _, HX.out, own_nil _ _ _ _⟩
    · simp only [endR]
      go_wp2
      exact ⟨(by first | exact True.intro | rfl), by rw [HF.out] <;> rfl, HG.out, _, HX.out, own_nil _ _ _ _⟩
  · skip
    by_cases hk : ak = 2
    rotate_left
    · have tk : (ak == 2) = false := by rw [beq_eq_false_iff_ne]; exact hk
      obtain ⟨hRe, rfl⟩ : R = .ab 1009 ∧ ks = [] := pair_eq (HU.out.symm.trans (by unfold uneS unS; rw [if_pos (by decide), if_neg (by decide), if_neg (by decide), if_neg (by decide), if_neg hk]))
      have HF := Lib.hid hRe; clear hRe
      clear hk HU
      go_wp2_with fail
      refine (must_no _).mono ?_
      rintro er w9 ⟨rfl, rfl⟩
      go_wp2
      exact ⟨(by first | exact True.intro | rfl), by rw [HF.out] <;> rfl, HG.out, _, HX.out, own_nil _ _ _ _⟩
    have tk : (ak == 2) = true := by rw [hk]; rfl
    obtain ⟨hRe, rfl⟩ : R = .ok (numV (az.length : Int)) ∧ ks = [] := pair_eq (HU.out.symm.trans (by unfold uneS unS; rw [if_pos (by decide), if_neg (by decide), if_neg (by decide), if_neg (by decide), if_pos hk]))
    have HF := Lib.hid hRe; clear hRe
    clear hk HU
    go_wp2_with fail
    refine (must_yes _).mono ?_
    rintro er w1 ⟨rfl, rfl⟩
    have hwl : IntKind.i64.wrap (az.length : Int) = (az.length : Int) := by rw [IntKind.wrap_i64]; omega
    go_wp2_with fail
    refine (integer_any (az.length : Int) _).mono ?_
    rintro er w2 ⟨rfl, hb2⟩
    clear a0 a1 a2
    have HG := Lib.hid (HG.out.trans (grown_below hb2 _)); have HA := Lib.hid (HA.out.call hb2); have HRB := Lib.hid (HRB.out.call hb2); have HX := Lib.hid (HX.out.call hb2); have HO := Lib.hid (HO.out.call hb2); have HW := Lib.hid (btrans HW.out HW.out.size hb2); clear hb2
    simp only [endR, vV, numV]
    have r0 : w2.cell? ⟨(w.heap.size + 1), 0, none⟩ = some (.int .i64 0) := HRB.out.cell 0
    have r1 : w2.cell? ⟨(w.heap.size + 1), 1, none⟩ = some (.int .i64 0) := HRB.out.cell 1
    have r2 : w2.cell? ⟨(w.heap.size + 1), 2, none⟩ = some (.string ⟨#[]⟩) := HRB.out.cell 2
    have f0 := HRB.out.free 0
    have f1 := HRB.out.free 1
    have f2 := HRB.out.free 2
    have HK := Lib.hid (HRB.out.sets3 (.int .i64 1) (.int .i64 (az.length : Int)) (.string (bs [])))
    have HFIN := Lib.hid (fin_sets3 HG.out HX.out HRB.out (by decide) (by omega) (by omega) (own_nil w2 w.heap.size 9 1) (.int .i64 1) (.int .i64 (az.length : Int)) (.string (bs [])))
    go_wp2
    have k0 := HK.out.cell 0
    have k1 := HK.out.cell 1
    have k2 := HK.out.cell 2
    simp only [List.getElem?_toArray, List.getElem?_cons_zero, List.getElem?_cons_succ] at k0 k1 k2
    refine bodyPost_ret (v := .agg #[.int .i64 1, .int .i64 (az.length : Int), .string (bs [])]) (by simp [results, Tryz.results137, go_sem, k0, k1, k2] <;> rfl) rfl ⟨by rw [HF.out] <;> rfl, HFIN.out.1, _, HFIN.out.2.1, HFIN.out.2.2⟩
  · have n9 : (op == 9) = false := by rw [beq_eq_false_iff_ne]; omega
    have n18 : (op == 18) = false := by rw [beq_eq_false_iff_ne]; omega
    have n20 : (op == 20) = false := by rw [beq_eq_false_iff_ne]; omega
    have n21 : (op == 21) = false := by rw [beq_eq_false_iff_ne]; omega
    by_cases hk : ak = 2
    rotate_left
    · have tk : (ak == 2) = false := by rw [beq_eq_false_iff_ne]; exact hk
      obtain ⟨hRe, rfl⟩ : R = .ab 1009 ∧ ks = [] := pair_eq (HU.out.symm.trans (by unfold uneS; rw [if_neg (by omega), if_neg hk]))
      have HF := Lib.hid hRe; clear hRe
      clear hk HU
      go_wp2_with fail
      refine (must_no _).mono ?_
      rintro er w9 ⟨rfl, rfl⟩
      go_wp2
      exact ⟨(by first | exact True.intro | rfl), by rw [HF.out] <;> rfl, HG.out, _, HX.out, own_nil _ _ _ _⟩
    have tk : (ak == 2) = true := by rw [hk]; rfl
    obtain ⟨F, hF⟩ : ∃ F, fetS al rd M az = F := ⟨_, rfl⟩
    obtain ⟨hRe, rfl⟩ : R = thenG op F ∧ ks = rdsR F az := pair_eq (HU.out.symm.trans (by unfold uneS; rw [if_neg (by omega), if_pos hk]; simp only [hF]))
    have HF := Lib.hid hRe; clear hRe
    have HFE := Lib.hid hF
    clear hk HU hF
    go_wp2_with fail
    refine (must_yes _).mono ?_
    rintro er w1 ⟨rfl, rfl⟩
    go_wp2_with fail
    refine (fetch_any mb vm om sa ra wa sc rc wc M al rd wr az (by omega) _ W0 HX.out HO.out hmb HW.out HM.out HRS.out hl1 hl2).mono ?_
    rw [HFE.out]
    rintro er w2 ⟨rfl, hg2, rv, hx2, ho2⟩
    clear a0 a1 a2
    have hgw := HG.out.size
    have HA := Lib.hid (HA.out.kept hg2 (by simp; omega)); have HRB := Lib.hid (HRB.out.kept hg2 (by simp; omega)); have HG := Lib.hid (HG.out.trans hg2); have HX := Lib.hid hx2; have HOW := Lib.hid (own_mono ho2 hgw); clear hg2 hx2 ho2 HO
    rcases F with v | c | q <;> simp only [thenG] at HF
    rotate_left
    · simp only [endR]
      go_wp2
      exact ⟨(by first | exact True.intro | rfl), by rw [HF.out] <;> rfl, HG.out, _, HX.out, HOW.out⟩
    · simp only [endR]
      go_wp2
      exact ⟨(by first | exact True.intro | rfl), by rw [HF.out] <;> rfl, HG.out, _, HX.out, HOW.out⟩
    simp only [endR, vV]
    have hb3 := (Below.refl w2.heap.size w2).alloc (Nat.le_refl _) (.cells #[.int .i64 v.k, .int .i64 v.n, .string (bs v.s)] 52)
    have HVB := Lib.hid (Bx.new w2 #[.int .i64 v.k, .int .i64 v.n, .string (bs v.s)] 52)
    have HG := Lib.hid (HG.out.trans (grown_below hb3 _)); have HRB := Lib.hid (HRB.out.call hb3); have HX := Lib.hid (HX.out.call hb3); have HOW := Lib.hid (own_below HOW.out hb3); clear hb3 HA
    go_upto_region 16 with (fail)
    generalize hW : w2.alloc (.cells #[.int .i64 v.k, .int .i64 v.n, .string (bs v.s)] 52) = v2 at HVB HG HRB HX HOW ⊢
    clear hW
    obtain ⟨x0, x1, x2⟩ := HVB.out.c3
    rcases hop2 with rfl | rfl | rfl
    · skip
      by_cases h0 : v.k = 0
      · have t0 : (v.k == 0) = true := by rw [h0]; rfl
        rw [show gotS 22 v = .ok (numV 0) from by unfold gotS; rw [if_neg (by decide), if_pos h0]; rfl] at HF
        clear h0
        go_wp2_with fail
        refine (integer_any 0 _).mono ?_
        rintro er w3 ⟨rfl, hb3⟩
        clear x0 x1 x2
        have HG := Lib.hid (HG.out.trans (grown_below hb3 _)); have HRB := Lib.hid (HRB.out.call hb3); have HX := Lib.hid (HX.out.call hb3); have HOW := Lib.hid (own_below HOW.out hb3); clear hb3
        simp only [endR, vV, numV]
        have r0 : w3.cell? ⟨(w.heap.size + 1), 0, none⟩ = some (.int .i64 0) := HRB.out.cell 0
        have r1 : w3.cell? ⟨(w.heap.size + 1), 1, none⟩ = some (.int .i64 0) := HRB.out.cell 1
        have r2 : w3.cell? ⟨(w.heap.size + 1), 2, none⟩ = some (.string ⟨#[]⟩) := HRB.out.cell 2
        have f0 := HRB.out.free 0
        have f1 := HRB.out.free 1
        have f2 := HRB.out.free 2
        have HK := Lib.hid (HRB.out.sets3 (.int .i64 1) (.int .i64 0) (.string (bs [])))
        have HFIN := Lib.hid (fin_sets3 HG.out HX.out HRB.out (by decide) (by omega) (by omega) (HOW.out) (.int .i64 1) (.int .i64 0) (.string (bs [])))
        go_wp2
        have k0 := HK.out.cell 0
        have k1 := HK.out.cell 1
        have k2 := HK.out.cell 2
        simp only [List.getElem?_toArray, List.getElem?_cons_zero, List.getElem?_cons_succ] at k0 k1 k2
        refine bodyPost_ret (v := .agg #[.int .i64 1, .int .i64 0, .string (bs [])]) (by simp [results, Tryz.results137, go_sem, k0, k1, k2] <;> rfl) rfl ⟨by rw [HF.out] <;> rfl, HFIN.out.1, _, HFIN.out.2.1, HFIN.out.2.2⟩
      have t0 : (v.k == 0) = false := by rw [beq_eq_false_iff_ne]; exact h0
      by_cases hkk : v.k = 1
      · have tk2 : (v.k != 1) = false := by rw [hkk]; rfl
        rw [show gotS 22 v = .ok v from by unfold gotS; rw [if_neg (by decide), if_neg h0]; exact if_pos hkk] at HF
        clear h0 hkk
        have r0 : v2.cell? ⟨(w.heap.size + 1), 0, none⟩ = some (.int .i64 0) := HRB.out.cell 0
        have r1 : v2.cell? ⟨(w.heap.size + 1), 1, none⟩ = some (.int .i64 0) := HRB.out.cell 1
        have r2 : v2.cell? ⟨(w.heap.size + 1), 2, none⟩ = some (.string ⟨#[]⟩) := HRB.out.cell 2
        have f0 := HRB.out.free 0
        have f1 := HRB.out.free 1
        have f2 := HRB.out.free 2
        have HK := Lib.hid (HRB.out.sets3 (.int .i64 v.k) (.int .i64 v.n) (.string (bs v.s)))
        have HFIN := Lib.hid (fin_sets3 HG.out HX.out HRB.out (by decide) (by omega) (by omega) (HOW.out) (.int .i64 v.k) (.int .i64 v.n) (.string (bs v.s)))
        go_wp2
        have k0 := HK.out.cell 0
        have k1 := HK.out.cell 1
        have k2 := HK.out.cell 2
        simp only [List.getElem?_toArray, List.getElem?_cons_zero, List.getElem?_cons_succ] at k0 k1 k2
        refine bodyPost_ret (v := .agg #[.int .i64 v.k, .int .i64 v.n, .string (bs v.s)]) (by simp [results, Tryz.results137, go_sem, k0, k1, k2] <;> rfl) rfl ⟨by rw [HF.out] <;> rfl, HFIN.out.1, _, HFIN.out.2.1, HFIN.out.2.2⟩
      have tk2 : (v.k != 1) = true := by rw [bne_iff_ne]; exact hkk
      rw [show gotS 22 v = .ab 1003 from by unfold gotS; rw [if_neg (by decide), if_neg h0]; exact if_neg hkk] at HF
      clear h0 hkk
      go_wp2_with fail
      refine (iabort_any 1003 _).mono ?_
      rintro er w3 ⟨rfl, rfl⟩
      go_wp2
      exact ⟨(by first | exact True.intro | rfl), by rw [HF.out] <;> rfl, HG.out, _, HX.out, HOW.out⟩
    · skip
      by_cases h0 : v.k = 0
      · have t0 : (v.k == 0) = true := by rw [h0]; rfl
        rw [show gotS 23 v = .ok (strVl []) from by unfold gotS; rw [if_neg (by decide), if_pos h0]; rfl] at HF
        clear h0
        go_wp2_with fail
        refine (itext_any [] (by simp) _).mono ?_
        rw [show txS [] = .ok (strVl []) from rfl]
        rintro er w3 ⟨rfl, hb3⟩
        clear x0 x1 x2
        have HG := Lib.hid (HG.out.trans (grown_below hb3 _)); have HRB := Lib.hid (HRB.out.call hb3); have HX := Lib.hid (HX.out.call hb3); have HOW := Lib.hid (own_below HOW.out hb3); clear hb3
        simp only [endR, vV, strVl]
        have r0 : w3.cell? ⟨(w.heap.size + 1), 0, none⟩ = some (.int .i64 0) := HRB.out.cell 0
        have r1 : w3.cell? ⟨(w.heap.size + 1), 1, none⟩ = some (.int .i64 0) := HRB.out.cell 1
        have r2 : w3.cell? ⟨(w.heap.size + 1), 2, none⟩ = some (.string ⟨#[]⟩) := HRB.out.cell 2
        have f0 := HRB.out.free 0
        have f1 := HRB.out.free 1
        have f2 := HRB.out.free 2
        have HK := Lib.hid (HRB.out.sets3 (.int .i64 2) (.int .i64 0) (.string (bs [])))
        have HFIN := Lib.hid (fin_sets3 HG.out HX.out HRB.out (by decide) (by omega) (by omega) (HOW.out) (.int .i64 2) (.int .i64 0) (.string (bs [])))
        go_wp2
        have k0 := HK.out.cell 0
        have k1 := HK.out.cell 1
        have k2 := HK.out.cell 2
        simp only [List.getElem?_toArray, List.getElem?_cons_zero, List.getElem?_cons_succ] at k0 k1 k2
        refine bodyPost_ret (v := .agg #[.int .i64 2, .int .i64 0, .string (bs [])]) (by simp [results, Tryz.results137, go_sem, k0, k1, k2] <;> rfl) rfl ⟨by rw [HF.out] <;> rfl, HFIN.out.1, _, HFIN.out.2.1, HFIN.out.2.2⟩
      have t0 : (v.k == 0) = false := by rw [beq_eq_false_iff_ne]; exact h0
      by_cases hkk : v.k = 2
      · have tk2 : (v.k != 2) = false := by rw [hkk]; rfl
        rw [show gotS 23 v = .ok v from by unfold gotS; rw [if_neg (by decide), if_neg h0]; exact if_pos hkk] at HF
        clear h0 hkk
        have r0 : v2.cell? ⟨(w.heap.size + 1), 0, none⟩ = some (.int .i64 0) := HRB.out.cell 0
        have r1 : v2.cell? ⟨(w.heap.size + 1), 1, none⟩ = some (.int .i64 0) := HRB.out.cell 1
        have r2 : v2.cell? ⟨(w.heap.size + 1), 2, none⟩ = some (.string ⟨#[]⟩) := HRB.out.cell 2
        have f0 := HRB.out.free 0
        have f1 := HRB.out.free 1
        have f2 := HRB.out.free 2
        have HK := Lib.hid (HRB.out.sets3 (.int .i64 v.k) (.int .i64 v.n) (.string (bs v.s)))
        have HFIN := Lib.hid (fin_sets3 HG.out HX.out HRB.out (by decide) (by omega) (by omega) (HOW.out) (.int .i64 v.k) (.int .i64 v.n) (.string (bs v.s)))
        go_wp2
        have k0 := HK.out.cell 0
        have k1 := HK.out.cell 1
        have k2 := HK.out.cell 2
        simp only [List.getElem?_toArray, List.getElem?_cons_zero, List.getElem?_cons_succ] at k0 k1 k2
        refine bodyPost_ret (v := .agg #[.int .i64 v.k, .int .i64 v.n, .string (bs v.s)]) (by simp [results, Tryz.results137, go_sem, k0, k1, k2] <;> rfl) rfl ⟨by rw [HF.out] <;> rfl, HFIN.out.1, _, HFIN.out.2.1, HFIN.out.2.2⟩
      have tk2 : (v.k != 2) = true := by rw [bne_iff_ne]; exact hkk
      rw [show gotS 23 v = .ab 1003 from by unfold gotS; rw [if_neg (by decide), if_neg h0]; exact if_neg hkk] at HF
      clear h0 hkk
      go_wp2_with fail
      refine (iabort_any 1003 _).mono ?_
      rintro er w3 ⟨rfl, rfl⟩
      go_wp2
      exact ⟨(by first | exact True.intro | rfl), by rw [HF.out] <;> rfl, HG.out, _, HX.out, HOW.out⟩
    · skip
      by_cases hy : v.k = 0
      · have ty : (v.k != 0) = false := by rw [hy]; rfl
        rw [show gotS 24 v = .ok (truV false) from by unfold gotS; rw [if_pos rfl, decide_eq_false (fun h => h hy)]] at HF
        clear hy
        go_wp2_with fail
        refine (itruth_any false _).mono ?_
        rintro er w3 ⟨rfl, hb3⟩
        clear x0 x1 x2
        have HG := Lib.hid (HG.out.trans (grown_below hb3 _)); have HRB := Lib.hid (HRB.out.call hb3); have HX := Lib.hid (HX.out.call hb3); have HOW := Lib.hid (own_below HOW.out hb3); clear hb3
        simp only [endR, vV, truV, Bool.false_eq_true, if_false]
        have r0 : w3.cell? ⟨(w.heap.size + 1), 0, none⟩ = some (.int .i64 0) := HRB.out.cell 0
        have r1 : w3.cell? ⟨(w.heap.size + 1), 1, none⟩ = some (.int .i64 0) := HRB.out.cell 1
        have r2 : w3.cell? ⟨(w.heap.size + 1), 2, none⟩ = some (.string ⟨#[]⟩) := HRB.out.cell 2
        have f0 := HRB.out.free 0
        have f1 := HRB.out.free 1
        have f2 := HRB.out.free 2
        have HK := Lib.hid (HRB.out.sets3 (.int .i64 3) (.int .i64 0) (.string (bs [])))
        have HFIN := Lib.hid (fin_sets3 HG.out HX.out HRB.out (by decide) (by omega) (by omega) (HOW.out) (.int .i64 3) (.int .i64 0) (.string (bs [])))
        go_wp2
        have k0 := HK.out.cell 0
        have k1 := HK.out.cell 1
        have k2 := HK.out.cell 2
        simp only [List.getElem?_toArray, List.getElem?_cons_zero, List.getElem?_cons_succ] at k0 k1 k2
        refine bodyPost_ret (v := .agg #[.int .i64 3, .int .i64 0, .string (bs [])]) (by simp [results, Tryz.results137, go_sem, k0, k1, k2] <;> rfl) rfl ⟨by rw [HF.out] <;> rfl, HFIN.out.1, _, HFIN.out.2.1, HFIN.out.2.2⟩
      · have ty : (v.k != 0) = true := by rw [bne_iff_ne]; exact hy
        rw [show gotS 24 v = .ok (truV true) from by unfold gotS; rw [if_pos rfl, decide_eq_true hy]] at HF
        clear hy
        go_wp2_with fail
        refine (itruth_any true _).mono ?_
        rintro er w3 ⟨rfl, hb3⟩
        clear x0 x1 x2
        have HG := Lib.hid (HG.out.trans (grown_below hb3 _)); have HRB := Lib.hid (HRB.out.call hb3); have HX := Lib.hid (HX.out.call hb3); have HOW := Lib.hid (own_below HOW.out hb3); clear hb3
        simp only [endR, vV, truV, if_true]
        have r0 : w3.cell? ⟨(w.heap.size + 1), 0, none⟩ = some (.int .i64 0) := HRB.out.cell 0
        have r1 : w3.cell? ⟨(w.heap.size + 1), 1, none⟩ = some (.int .i64 0) := HRB.out.cell 1
        have r2 : w3.cell? ⟨(w.heap.size + 1), 2, none⟩ = some (.string ⟨#[]⟩) := HRB.out.cell 2
        have f0 := HRB.out.free 0
        have f1 := HRB.out.free 1
        have f2 := HRB.out.free 2
        have HK := Lib.hid (HRB.out.sets3 (.int .i64 3) (.int .i64 1) (.string (bs [])))
        have HFIN := Lib.hid (fin_sets3 HG.out HX.out HRB.out (by decide) (by omega) (by omega) (HOW.out) (.int .i64 3) (.int .i64 1) (.string (bs [])))
        go_wp2
        have k0 := HK.out.cell 0
        have k1 := HK.out.cell 1
        have k2 := HK.out.cell 2
        simp only [List.getElem?_toArray, List.getElem?_cons_zero, List.getElem?_cons_succ] at k0 k1 k2
        refine bodyPost_ret (v := .agg #[.int .i64 3, .int .i64 1, .string (bs [])]) (by simp [results, Tryz.results137, go_sem, k0, k1, k2] <;> rfl) rfl ⟨by rw [HF.out] <;> rfl, HFIN.out.1, _, HFIN.out.2.1, HFIN.out.2.2⟩
end Go.Proofs.YtnglaegofhpleaaGreatDoor
namespace Go.Proofs.YtnglaegofhpleaaGreatDoor
open Go.RowKit

theorem run_assert (u : TypeId) (v : Value) (w : World) : (Instr.typeAssert (.iface 145 v) u 145 true).run Tryz.prog w = .ok (.tuple #[v, .bool true]) w := by
  simp [Instr.typeAssert, run_underlying Tryz.underlying145]
set_option maxRecDepth 100000 in
set_option maxHeartbeats 4000000 in
theorem catch_idle (p q : Nat) (w : World) :
    CallsD Tryz.prog 134 #[.pointer (some ⟨p, 0, none⟩), .pointer (some ⟨q, 0, none⟩)] .returning w fun e u' w' => e = .returned (.tuple #[]) ∧ u' = .returning ∧ w' = w := by
  refine callsD_of_wpS Tryz.func134 rfl fun c₀ cs hu => ?_
  apply wpS_seq
  apply wpS_region
  simp [wpOpsS, go_sem, recoverD, hu, Tryz.ntmps134, Exit.thenS]
  have hT : ∀ x : Value, #[Value.pointer (some ⟨p, 0, none⟩), Value.pointer (some ⟨q, 0, none⟩)] ++ (Array.replicate 10 undef).setIfInBounds 3 x = #[Value.pointer (some ⟨p, 0, none⟩), Value.pointer (some ⟨q, 0, none⟩), undef, undef, undef, x, undef, undef, undef, undef, undef, undef] := fun _ => rfl
  rw [hT]
  refine wpS_of_wp ?_
  go_wp2
  cases c₀
  simp_all [bodyPostS, results, Tryz.results134]
end Go.Proofs.YtnglaegofhpleaaGreatDoor
namespace Go.Proofs.YtnglaegofhpleaaGreatDoor
open Go.RowKit

theorem own_kept {B n k : Nat} {e : TypeId} {v : Value} {xs : List Value} {w w' : World} (h : w.ownsRow B e k v n xs) (hk : ∀ g, B ≤ g → g < w.heap.size → w'.heap[g]? = w.heap[g]?) : w'.ownsRow B e k v n xs := by
  refine ⟨h.1, ?_⟩
  rcases h.2 with hn | ⟨g, cap, cur, rfl, hb, hgg, rest⟩
  · exact .inl hn
  · exact .inr ⟨g, cap, cur, rfl, hb, (hk g hb (lt_heap hgg)).trans hgg, rest⟩
/-- all blocks of the older world stand, but two -/
structure K2 (a b : Nat) (w w' : World) : Prop where
  os : w'.os = w.os
  tape : w'.tape = w.tape
  output : w'.output = w.output
  size : w.heap.size ≤ w'.heap.size
  block : ∀ k, k < w.heap.size → k ≠ a → k ≠ b → w'.heap[k]? = w.heap[k]?
theorem K2.of_grown {a b : Nat} {w w' : World} (h : w.grownBy w' (some a)) : K2 a b w w' := ⟨h.os, h.tape, h.output, h.size, fun k hk h1 _ => h.block k hk (fun e => h1 (by cases e; rfl))⟩
theorem K2.of_below {a b : Nat} {w w' : World} (h : Below w.heap.size w w') : K2 a b w w' := ⟨h.os, h.tape, h.output, h.size, fun k hk _ _ => h.block k hk⟩
theorem K2.below {a b B : Nat} {w w' : World} (h : K2 a b w w') (hB : B ≤ w.heap.size) (ha : B ≤ a) (hb : B ≤ b) : Below B w w' := ⟨h.os, h.tape, h.output, h.size, fun k hk => h.block k (by omega) (by omega) (by omega)⟩
theorem K2.then {a b c d : Nat} {w w1 w2 : World} (h : K2 a b w w1) (k : K2 c d w1 w2) (hc : c = a ∨ c = b ∨ w.heap.size ≤ c) (hd : d = a ∨ d = b ∨ w.heap.size ≤ d) : K2 a b w w2 :=
  ⟨k.os.trans h.os, k.tape.trans h.tape, k.output.trans h.output, Nat.le_trans h.size k.size, fun j hj h1 h2 => (k.block j (by have := h.size; omega) (by omega) (by omega)).trans (h.block j hj h1 h2)⟩
theorem K2.set {a b c i : Nat} {w W : World} (h : K2 a b w W) (u : Value) (hc : c = a ∨ c = b ∨ w.heap.size ≤ c) : K2 a b w (W.setCell ⟨c, i, none⟩ u) :=
  h.then (c := c) (d := c) (K2.of_grown (grown_set W ⟨c, i, none⟩ u)) hc hc
theorem Bx.k2 {a b c : Nat} {cs : Array Value} {T : TypeId} {w w' : World} (h : Bx c cs T w) (k : K2 a b w w') (h1 : c ≠ a) (h2 : c ≠ b) : Bx c cs T w' := (k.block c h.lt h1 h2).trans h
theorem own_k2 {a b B n k : Nat} {e : TypeId} {v : Value} {xs : List Value} {w w' : World} (h : w.ownsRow B e k v n xs) (hk : K2 a b w w') (ha : a < B) (hb : b < B) : w'.ownsRow B e k v n xs :=
  own_kept h (fun g hg hl => hk.block g hl (by omega) (by omega))
def cEnd : Rs → Ending
  | .ok _ => .returned (.tuple #[])
  | .ab c => .panicked [stopE 2 c []]
  | .re k => .panicked [stopE 3 0 k]
def vEnd : Rs → Array Value
  | .ok v => vV v
  | _ => #[.int .i64 0, .int .i64 0, .string ⟨#[]⟩]
def stA : Rs → Array Value
  | .ok _ => #[.int .i64 0, .int .i64 0, .slice none 0 0, .string ⟨#[]⟩]
  | .ab c => #[.int .i64 2, .int .i64 c, .slice none 0 0, .string (bs [])]
  | .re k => #[.int .i64 3, .int .i64 0, .slice none 0 0, .string (bs k)]
def stB2 : Rs → Bool
  | .ok _ => false
  | _ => true
def EvP (mb vb : Nat) (C : Value → Array Value) (R : Rs) (ks : List (List UInt8)) (w : World) (E : Ending) (w' : World) : Prop :=
  E = cEnd R ∧ K2 mb vb w w' ∧ Bx vb (vEnd R) 52 w' ∧ ∃ rv, Bx mb (C rv) 143 w' ∧ w'.ownsRow w.heap.size 9 1 rv ks.length (ks.map strV)
def RuP (mb vb : Nat) (C : Value → Array Value) (R : Rs) (ks : List (List UInt8)) (w : World) (E : Ending) (w' : World) : Prop :=
  E = .returned (.tuple #[.agg (stA R), .bool (stB2 R)]) ∧ K2 mb vb w w' ∧ Bx vb (vEnd R) 52 w' ∧ ∃ rv, Bx mb (C rv) 143 w' ∧ w'.ownsRow w.heap.size 9 1 rv ks.length (ks.map strV)
theorem Bx.set4 {b : Nat} {T : TypeId} {W : World} {z0 z1 z2 z3 : Value} (h : Bx b #[z0, z1, z2, z3] T W) (u0 u1 u2 u3 : Value) :
    Bx b #[u0, u1, u2, u3] T ((((W.setCell ⟨b, 0, none⟩ u0).setCell ⟨b, 1, none⟩ u1).setCell ⟨b, 2, none⟩ u2).setCell ⟨b, 3, none⟩ u3) := (((h.set 0 u0).set 1 u1).set 2 u2).set 3 u3
set_option maxRecDepth 100000 in
set_option maxHeartbeats 8000000 in
theorem catch_pan (p q : Nat) (st c : Int) (k : List UInt8) (z0 z1 z2 z3 : Value) (w : World) (hc : Bx p #[z0, z1, z2, z3] 145 w) (hq : Bx q #[.bool false] 4 w) (hne : p ≠ q) :
    CallsD Tryz.prog 134 #[.pointer (some ⟨p, 0, none⟩), .pointer (some ⟨q, 0, none⟩)] (.panicking [stopE st c k]) w fun E u' w' => E = .returned (.tuple #[]) ∧ u' = .panicking [{ stopE st c k with recovered := true }] ∧ Bx p #[.int .i64 st, .int .i64 c, .slice none 0 0, .string (bs k)] 145 w' ∧ Bx q #[.bool true] 4 w' ∧ K2 p q w w' := by
  refine callsD_of_wpS Tryz.func134 rfl fun c₀ cs hu => ?_
  apply wpS_seq
  apply wpS_region
  unfold stopE at hu
  simp [wpOpsS, go_sem, recoverD, hu, Tryz.ntmps134, Exit.thenS]
  have hT : ∀ x : Value, #[Value.pointer (some ⟨p, 0, none⟩), Value.pointer (some ⟨q, 0, none⟩)] ++ (Array.replicate 10 undef).setIfInBounds 3 x = #[Value.pointer (some ⟨p, 0, none⟩), Value.pointer (some ⟨q, 0, none⟩), undef, undef, undef, x, undef, undef, undef, undef, undef, undef] := fun _ => rfl
  rw [hT]
  refine wpS_of_wp ?_
  have hta := run_assert
  have HC := Lib.hid (hc.alloc (.cells #[.int .i64 st, .int .i64 c, .slice none 0 0, .string (bs k)] 145)); have HQ := Lib.hid (hq.alloc (.cells #[.int .i64 st, .int .i64 c, .slice none 0 0, .string (bs k)] 145)); have HY := Lib.hid (Bx.new w #[.int .i64 st, .int .i64 c, .slice none 0 0, .string (bs k)] 145); have HK := Lib.hid (K2.of_below (a := p) (b := q) ((Below.refl w.heap.size w).alloc (Nat.le_refl _) (.cells #[.int .i64 st, .int .i64 c, .slice none 0 0, .string (bs k)] 145)))
  clear hc hq
  go_upto_region 7 with (fail)
  generalize hW0 : w.alloc (.cells #[.int .i64 st, .int .i64 c, .slice none 0 0, .string (bs k)] 145) = v0 at HC HQ HY HK ⊢
  clear hW0
  obtain ⟨y0, y1, y2, y3⟩ := HY.out.c4
  obtain ⟨c0, c1, c2, c3⟩ := HC.out.c4
  have f0 := HC.out.free 0
  have f1 := HC.out.free 1
  have f2 := HC.out.free 2
  have f3 := HC.out.free 3
  have g0 : ((((v0.setCell ⟨p, 0, none⟩ (.int .i64 st)).setCell ⟨p, 1, none⟩ (.int .i64 c)).setCell ⟨p, 2, none⟩ (.slice none 0 0)).setCell ⟨p, 3, none⟩ (.string (bs k))).cell? ⟨q, 0, none⟩ = some (.bool false) := ((((HQ.out.other (Ne.symm hne) _).other (Ne.symm hne) _).other (Ne.symm hne) _).other (Ne.symm hne) _).cell 0
  have g1 := ((((HQ.out.other (i := 0) (Ne.symm hne) (.int .i64 st)).other (i := 1) (Ne.symm hne) (.int .i64 c)).other (i := 2) (Ne.symm hne) (.slice none 0 0)).other (i := 3) (Ne.symm hne) (.string (bs k))).free 0
  have q0 : v0.cell? ⟨q, 0, none⟩ = some (.bool false) := HQ.out.cell 0
  have q1 := HQ.out.free 0
  have HP2 := Lib.hid ((HC.out.set4 (.int .i64 st) (.int .i64 c) (.slice none 0 0) (.string (bs k))).other (c := q) (i := 0) hne (.bool true))
  have HQ2 := Lib.hid (((((HQ.out.other (i := 0) (Ne.symm hne) (.int .i64 st)).other (i := 1) (Ne.symm hne) (.int .i64 c)).other (i := 2) (Ne.symm hne) (.slice none 0 0)).other (i := 3) (Ne.symm hne) (.string (bs k))).set 0 (.bool true))
  have HK2 := Lib.hid (((((HK.out.set (i := 0) (.int .i64 st) (.inl rfl)).set (i := 1) (.int .i64 c) (.inl rfl)).set (i := 2) (.slice none 0 0) (.inl rfl)).set (i := 3) (.string (bs k)) (.inl rfl)).set (i := 0) (.bool true) (.inr (.inl rfl)))
  go_wp2
  exact ⟨rfl, _, rfl, .tuple #[], results_none rfl _ _ _, rfl, rfl, HP2.out, HQ2.out, HK2.out⟩
set_option maxRecDepth 100000 in
set_option maxHeartbeats 8000000 in
theorem irun_any (K : FuncId) (caps : Array Value) (mp mb vb : Nat) (C : Value → Array Value) (R : Rs) (ks : List (List UInt8)) (w w1 : World) (hw1 : w1 = (w.alloc (.cells #[.int .i64 0, .int .i64 0, .slice none 0 0, .string ⟨#[]⟩] 145)).alloc (.cells #[.bool false] 4)) (hE : ∀ w : World, (callFunc K caps).run Tryz.prog w = .ok (.enter K caps) w) (hm : mb < w.heap.size) (hv : vb < w.heap.size) (hC : Calls Tryz.prog K caps w1 (EvP mb vb C R ks w1)) :
    Calls Tryz.prog 117 #[.pointer (some ⟨mp, 0, none⟩), .func (.func K) #[] caps] w (RuP mb vb C R ks w) := by
  have hmf : ∀ (fn : Fn) (first cap : Array Value) (w : World), (Instr.makeFunc fn first cap).run Tryz.prog w = .ok (.func fn first cap) w := fun _ _ _ _ => rfl
  have hal := ((Below.refl w.heap.size w).alloc (Nat.le_refl _) (.cells #[.int .i64 0, .int .i64 0, .slice none 0 0, .string ⟨#[]⟩] 145)).alloc (by simp) (.cells #[.bool false] 4)
  have hp0 := (Bx.new w #[.int .i64 0, .int .i64 0, .slice none 0 0, .string ⟨#[]⟩] 145).alloc (.cells #[.bool false] 4)
  have hq0 := Bx.new1 w (.cells #[.int .i64 0, .int .i64 0, .slice none 0 0, .string ⟨#[]⟩] 145) #[.bool false] 4
  rw [← hw1] at hal hp0 hq0
  have HW1 := Lib.hid hw1; have HB := Lib.hid hal; have HP := Lib.hid hp0; have HQ := Lib.hid hq0; have HCC := Lib.hid hC; clear hw1 hal hp0 hq0 hC
  go_enter_defers Tryz.func117, Tryz.ntmps117
  go_wp2_with fail
  rw [← HW1.out]
  clear HW1
  refine HCC.out.mono ?_
  clear hE HCC
  rintro E w2 ⟨rfl, hk, hvb, rv, hmb, hown⟩
  have hsz := HB.out.size
  have HP2 := Lib.hid (HP.out.k2 hk (by omega) (by omega)); have HQ2 := Lib.hid (HQ.out.k2 hk (by omega) (by omega))
  have HK := Lib.hid ((K2.of_below (a := mb) (b := vb) HB.out).then hk (.inl rfl) (.inr (.inl rfl)))
  have HV := Lib.hid hvb; have HM := Lib.hid hmb; have HO := Lib.hid (own_mono hown hsz)
  have hbb := HQ.out.lt
  have HO1 := Lib.hid hown
  clear hk hvb hmb hown HP HQ HB
  rcases R with v | c | k
  · simp only [cEnd]
    obtain ⟨c0, c1, c2, c3⟩ := HP2.out.c4
    have f0 := HP2.out.free 0
    have f1 := HP2.out.free 1
    have f2 := HP2.out.free 2
    have f3 := HP2.out.free 3
    have q0 : w2.cell? ⟨w.heap.size + 1, 0, none⟩ = some (.bool false) := HQ2.out.cell 0
    have q1 := HQ2.out.free 0
    have g0 : ((((w2.setCell ⟨w.heap.size, 0, none⟩ (.int .i64 0)).setCell ⟨w.heap.size, 1, none⟩ (.int .i64 0)).setCell ⟨w.heap.size, 2, none⟩ (.slice none 0 0)).setCell ⟨w.heap.size, 3, none⟩ (.string ⟨#[]⟩)).cell? ⟨w.heap.size + 1, 0, none⟩ = some (.bool false) := ((((HQ2.out.other (i := 0) (c := w.heap.size) (by omega) (.int .i64 0)).other (i := 1) (c := w.heap.size) (by omega) (.int .i64 0)).other (i := 2) (c := w.heap.size) (by omega) (.slice none 0 0)).other (i := 3) (c := w.heap.size) (by omega) (.string ⟨#[]⟩)).cell 0
    have g1 := ((((HQ2.out.other (i := 0) (c := w.heap.size) (by omega) (.int .i64 0)).other (i := 1) (c := w.heap.size) (by omega) (.int .i64 0)).other (i := 2) (c := w.heap.size) (by omega) (.slice none 0 0)).other (i := 3) (c := w.heap.size) (by omega) (.string ⟨#[]⟩)).free 0
    have HP3 := Lib.hid ((HP2.out.set4 (.int .i64 0) (.int .i64 0) (.slice none 0 0) (.string ⟨#[]⟩)).other (c := w.heap.size + 1) (i := 0) (by omega) (.bool false))
    have HQ3 := Lib.hid (((((HQ2.out.other (i := 0) (c := w.heap.size) (by omega) (.int .i64 0)).other (i := 1) (c := w.heap.size) (by omega) (.int .i64 0)).other (i := 2) (c := w.heap.size) (by omega) (.slice none 0 0)).other (i := 3) (c := w.heap.size) (by omega) (.string ⟨#[]⟩)).set 0 (.bool false))
    have HKL := Lib.hid (((((K2.of_below (a := w.heap.size) (b := w.heap.size + 1) (Below.refl w2.heap.size w2)).set (i := 0) (.int .i64 0) (.inl rfl)).set (i := 1) (.int .i64 0) (.inl rfl)).set (i := 2) (.slice none 0 0) (.inl rfl)).set (i := 3) (.string ⟨#[]⟩) (.inl rfl) |>.set (i := 0) (.bool false) (.inr (.inl rfl)))
    go_wp2
    generalize hWE : (((((w2.setCell ⟨w.heap.size, 0, none⟩ (.int .i64 0)).setCell ⟨w.heap.size, 1, none⟩ (.int .i64 0)).setCell ⟨w.heap.size, 2, none⟩ (.slice none 0 0)).setCell ⟨w.heap.size, 3, none⟩ (.string ⟨#[]⟩)).setCell ⟨w.heap.size + 1, 0, none⟩ (.bool false)) = WE at HP3 HQ3 HKL ⊢
    clear hWE
    refine leaves_cons (f := 134) (args := #[.pointer (some ⟨w.heap.size, 0, none⟩), .pointer (some ⟨w.heap.size + 1, 0, none⟩)]) (by simp) (by simp [go_sem]) ?_
    refine (catch_idle w.heap.size (w.heap.size + 1) _).mono ?_
    rintro e u' w'' ⟨rfl, rfl, rfl⟩
    obtain ⟨k0, k1, k2, k3⟩ := HP3.out.c4
    have k4 : w''.cell? ⟨w.heap.size + 1, 0, none⟩ = some (.bool false) := HQ3.out.cell 0
    have hpost : RuP mb vb C (.ok v) ks w (.returned (.tuple #[.agg (stA (.ok v)), .bool (stB2 (.ok v))])) w'' :=
      ⟨rfl, HK.out.then HKL.out (by omega) (by omega), HV.out.k2 HKL.out (by omega) (by omega), rv, HM.out.k2 HKL.out (by omega) (by omega), own_mono (own_k2 HO1.out HKL.out (by omega) (by omega)) hsz⟩
    simpa [Leaves, settle, results, Tryz.results117, go_sem, k0, k1, k2, k3, k4, stA, stB2] using hpost
  · simp only [cEnd]
    refine leaves_cons (f := 134) (args := #[.pointer (some ⟨w.heap.size, 0, none⟩), .pointer (some ⟨w.heap.size + 1, 0, none⟩)]) (by simp) (by simp [go_sem]) ?_
    refine (catch_pan w.heap.size (w.heap.size + 1) 2 c [] _ _ _ _ _ HP2.out HQ2.out (by omega)).mono ?_
    rintro e u' w'' ⟨rfl, rfl, hP3, hQ3, hKL⟩
    obtain ⟨k0, k1, k2, k3⟩ := hP3.c4
    have k4 : w''.cell? ⟨w.heap.size + 1, 0, none⟩ = some (.bool true) := hQ3.cell 0
    have hpost : RuP mb vb C (.ab c) ks w (.returned (.tuple #[.agg (stA (.ab c)), .bool (stB2 (.ab c))])) w'' :=
      ⟨rfl, HK.out.then hKL (by omega) (by omega), HV.out.k2 hKL (by omega) (by omega), rv, HM.out.k2 hKL (by omega) (by omega), own_mono (own_k2 HO1.out hKL (by omega) (by omega)) hsz⟩
    simpa [Leaves, settle, results, Tryz.results117, go_sem, k0, k1, k2, k3, k4, stA, stB2, stopE] using hpost
  · simp only [cEnd]
    refine leaves_cons (f := 134) (args := #[.pointer (some ⟨w.heap.size, 0, none⟩), .pointer (some ⟨w.heap.size + 1, 0, none⟩)]) (by simp) (by simp [go_sem]) ?_
    refine (catch_pan w.heap.size (w.heap.size + 1) 3 0 k _ _ _ _ _ HP2.out HQ2.out (by omega)).mono ?_
    rintro e u' w'' ⟨rfl, rfl, hP3, hQ3, hKL⟩
    obtain ⟨k0, k1, k2, k3⟩ := hP3.c4
    have k4 : w''.cell? ⟨w.heap.size + 1, 0, none⟩ = some (.bool true) := hQ3.cell 0
    have hpost : RuP mb vb C (.re k) ks w (.returned (.tuple #[.agg (stA (.re k)), .bool (stB2 (.re k))])) w'' :=
      ⟨rfl, HK.out.then hKL (by omega) (by omega), HV.out.k2 hKL (by omega) (by omega), rv, HM.out.k2 hKL (by omega) (by omega), own_mono (own_k2 HO1.out hKL (by omega) (by omega)) hsz⟩
    simpa [Leaves, settle, results, Tryz.results117, go_sem, k0, k1, k2, k3, k4, stA, stB2, stopE] using hpost
end Go.Proofs.YtnglaegofhpleaaGreatDoor
