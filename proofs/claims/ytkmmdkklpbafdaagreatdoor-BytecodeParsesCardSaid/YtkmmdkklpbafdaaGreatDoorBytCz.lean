/- The walks of the reference's cut, place and lines. No conditions. The walks of the reference's params, numbers and literal. No conditions. The walk of the reference's instr. No conditions. The walk of the reference's Parse. No conditions. The walk of BytecodeParses. No conditions. -/
import Derived.Test.YtkmmdkklpbafdaaGreatDoorBytR
import Derived.Test.YtkmmdkklpbafdaaGreatDoorBytL
import Derived.Test.YtkmmdkklpbafdaaGreatDoorStrs
import Derived.Test.YtkmmdkklpbafdaaGreatDoorBytE
import Derived.Test.YtkmmdkklpbafdaaGreatDoorBytM
import Derived.Test.YtkmmdkklpbafdaaGreatDoorBytN
import Derived.Test.YtkmmdkklpbafdaaGreatDoorBytO
import Derived.Test.YtkmmdkklpbafdaaGreatDoorBytV
import Derived.Test.YtkmmdkklpbafdaaGreatDoorBytArgs
namespace Go.Proofs.YtkmmdkklpbafdaaGreatDoor
open Go.RowKit

theorem is32 {c : UInt8} (h : c = 32) : ((c.toNat : Int) == 32) = true := by rw [h]; rfl
theorem not32 {c : UInt8} (h : c ≠ 32) : ((c.toNat : Int) == 32) = false := by
  rw [beq_eq_false_iff_ne]; intro e; apply h; apply UInt8.toNat_inj.1; show c.toNat = 32; omega
theorem cut_at {x : UInt8} : ∀ (s : List UInt8) (k : Nat) (h : k < s.length), x ∉ s.take k → s[k] = x → cutX x s = (s.take k, s.drop (k + 1), true)
  | c :: r, 0, _, _, hx => by
    have hx : c = x := hx
    have e : cutX x (c :: r) = if c = x then ([], r, true) else (c :: (cutX x r).1, (cutX x r).2.1, (cutX x r).2.2) := rfl
    rw [e, if_pos hx]; rfl
  | c :: r, k + 1, h, hn, hx => by
    have e : cutX x (c :: r) = if c = x then ([], r, true) else (c :: (cutX x r).1, (cutX x r).2.1, (cutX x r).2.2) := rfl
    rw [List.take_succ_cons, List.mem_cons] at hn
    rw [e, if_neg (fun q => hn (.inl q.symm)), cut_at r k (by simpa using h) (fun q => hn (.inr q)) hx]; rfl
theorem cut_none {x : UInt8} : ∀ (s : List UInt8), x ∉ s → cutX x s = (s, [], false)
  | [], _ => rfl
  | c :: r, hn => by
    have e : cutX x (c :: r) = if c = x then ([], r, true) else (c :: (cutX x r).1, (cutX x r).2.1, (cutX x r).2.2) := rfl
    rw [List.mem_cons] at hn
    rw [e, if_neg (fun q => hn (.inl q.symm)), cut_none r (fun q => hn (.inr q))]
theorem notin_succ {x : UInt8} {s : List UInt8} {k : Nat} (h : k < s.length) (hn : x ∉ s.take k) (hx : s[k] ≠ x) : x ∉ s.take (k + 1) := by
  rw [List.take_succ_eq_append_getElem h, List.mem_append]; rintro (q | q)
  · exact hn q
  · rw [List.mem_singleton] at q; exact hx q.symm

set_option maxRecDepth 100000 in
set_option maxHeartbeats 8000000 in
theorem Rcut_any (s : List UInt8) (hs : s.length ≤ 9223372036854775806) (w : World) :
    Calls Tryz.prog 75 #[.string (bs s)] w fun e w' => e = .returned (.tuple #[.string (bs (cutX 32 s).1), .string (bs (cutX 32 s).2.1), .bool (cutX 32 s).2.2]) ∧ Below w.heap.size w w' := by
  obtain ⟨R, hR⟩ : ∃ R, cutX 32 s = R := ⟨_, rfl⟩
  rw [hR]
  have HR := Lib.hid hR; clear hR
  go_enter Tryz.func75, Tryz.ntmps75
  go_wp2
  go_loopw [5] (fun i wr => ∃ k : Nat, k ≤ s.length ∧ i = .int .i64 k ∧ Hid ((32 : UInt8) ∉ s.take k) ∧ Below w.heap.size w wr) (fun i _ => s.length - (intOf i).toNat)
  case atStart => exact ⟨0, Nat.zero_le _, rfl, Lib.hid (by simp), Below.refl _ _⟩
  case round =>
    obtain ⟨k, hk, rfl, HQ, hB⟩ := hrel
    have HB := Lib.hid hB; clear hB
    by_cases hlt : k < s.length
    · have hlt' : (k : Int) < (s.length : Int) := by omega
      have hw1 : IntKind.i64.wrap ((k : Int) + 1) = (k : Int) + 1 := by rw [IntKind.wrap_i64]; omega
      by_cases h32 : s[k] = 32
      rotate_left
      · have t32 := not32 h32
        have HN := Lib.hid (notin_succ hlt HQ.out h32)
        clear h32
        go_wp2
        go_roundw
        case rel => exact ⟨k + 1, by omega, by go_num, HN, HB.out⟩
        case measure => simp [intOf]; omega
      have t32 := is32 h32
      have HF := Lib.hid (HR.out.symm.trans (cut_at s k hlt HQ.out h32)); clear h32
      go_wp2
      go_region
      all_goals go_wp2
      all_goals (refine bodyPost_ret (v := .tuple #[.string (bs (s.take k)), .string (bs (s.drop (k + 1))), .bool true]) (by simp [results, Tryz.results75, go_sem]) rfl ?_)
      all_goals exact ⟨by rw [HF.out] <;> rfl, HB.out.drew⟩
    · have hlt' : ¬ (k : Int) < (s.length : Int) := by omega
      have HF := Lib.hid (HR.out.symm.trans (cut_none s (by have h := HQ.out; rw [List.take_of_length_le (by omega)] at h; exact h)))
      go_wp2
      refine bodyPost_ret (v := .tuple #[.string (bs s), .string ⟨#[]⟩, .bool false]) (by simp [results, Tryz.results75, go_sem]) rfl ?_
      exact ⟨by rw [HF.out] <;> rfl, HB.out⟩
def plcS (L : List (List UInt8)) (x : List UInt8) : Int := if L.idxOf x < L.length then (L.idxOf x : Int) else -1
theorem idx_at {x : List UInt8} : ∀ (M : List (List UInt8)) (k : Nat) (h : k < M.length), x ∉ M.take k → M[k] = x → M.idxOf x = k
  | m :: r, 0, _, _, hx => by rw [List.idxOf_cons, show m = x from hx]; simp
  | m :: r, k + 1, h, hn, hx => by
    rw [List.take_succ_cons, List.mem_cons] at hn
    rw [List.idxOf_cons, show (m == x) = false from by rw [beq_eq_false_iff_ne]; exact fun q => hn (.inl q.symm), idx_at r k (by simpa using h) (fun q => hn (.inr q)) hx]; rfl
theorem plc_at {x : List UInt8} {M : List (List UInt8)} {k : Nat} (h : k < M.length) (hn : x ∉ M.take k) (hx : M[k] = x) : plcS M x = (k : Int) := by
  unfold plcS; rw [idx_at M k h hn hx, if_pos h]
theorem plc_none {x : List UInt8} {M : List (List UInt8)} (hn : x ∉ M) : plcS M x = -1 := by
  unfold plcS; rw [if_neg]; intro h; exact hn (List.idxOf_lt_length_iff.1 h)
theorem notin_list {x : List UInt8} {s : List (List UInt8)} {k : Nat} (h : k < s.length) (hn : x ∉ s.take k) (hx : s[k] ≠ x) : x ∉ s.take (k + 1) := by
  rw [List.take_succ_eq_append_getElem h, List.mem_append]; rintro (q | q)
  · exact hn q
  · rw [List.mem_singleton] at q; exact hx q.symm

set_option maxRecDepth 100000 in
set_option maxHeartbeats 8000000 in
theorem Rplace_any (a : Option Addr) (cap : Nat) (M : List (List UInt8)) (x : List UInt8) (w : World) (hl : M.length ≤ 1000000) (hM : StrS w (.slice a M.length cap) M) :
    Calls Tryz.prog 77 #[.slice a M.length cap, .string (bs x)] w fun e w' => e = .returned (.int .i64 (plcS M x)) ∧ Below w.heap.size w w' := by
  obtain ⟨R, hR⟩ : ∃ R, plcS M x = R := ⟨_, rfl⟩
  rw [hR]
  have HR := Lib.hid hR; have HM := Lib.hid hM; clear hR hM
  go_enter Tryz.func77, Tryz.ntmps77
  go_wp2
  go_loopw [5] (fun i wr => ∃ k : Nat, k ≤ M.length ∧ i = .int .i64 k ∧ Hid (x ∉ M.take k) ∧ Below w.heap.size w wr) (fun i _ => M.length - (intOf i).toNat)
  case atStart => exact ⟨0, Nat.zero_le _, rfl, Lib.hid (by simp), Below.refl _ _⟩
  case round =>
    obtain ⟨k, hk, rfl, HQ, hB⟩ := hrel
    have HB := Lib.hid hB; clear hB
    by_cases hlt : k < M.length
    · have hlt' : (k : Int) < (M.length : Int) := by omega
      have hkb : (0 : Int) ≤ (k : Int) ∧ (k : Int) < (M.length : Int) := ⟨by omega, by omega⟩
      have hw1 : IntKind.i64.wrap ((k : Int) + 1) = (k : Int) + 1 := by rw [IntKind.wrap_i64]; omega
      obtain ⟨a0, c0, he, _, hc⟩ := HM.out.below HB.out
      cases he
      obtain ⟨b, off, rfl, hcell⟩ := hc (by intro e; rw [e] at hlt; simp at hlt)
      have p0 := hcell k hlt
      unfold strV at p0
      clear hc hcell
      obtain ⟨m, hm⟩ : ∃ m, M[k] = m := ⟨_, rfl⟩
      rw [hm] at p0
      have HMK := Lib.hid hm; clear hm
      by_cases h1 : m = x
      rotate_left
      · have t1 : (m == x) = false := by rw [beq_eq_false_iff_ne]; exact h1
        have HN := Lib.hid (notin_list hlt HQ.out (by rw [HMK.out]; exact h1))
        clear h1
        go_wp2
        go_roundw
        case rel => exact ⟨k + 1, by omega, by go_num, HN, HB.out⟩
        case measure => simp [intOf]; omega
      have HF := Lib.hid (HR.out.symm.trans (plc_at hlt HQ.out (HMK.out.trans h1)))
      have t1 : (m == x) = true := by rw [h1]; exact beq_self_eq_true _
      clear h1
      go_wp2
      go_ret
      exact ⟨by rw [HF.out] <;> rfl, HB.out⟩
    · have hlt' : ¬ (k : Int) < (M.length : Int) := by omega
      have HF := Lib.hid (HR.out.symm.trans (plc_none (by have h := HQ.out; rw [List.take_of_length_le (by omega)] at h; exact h)))
      go_wp2
      go_ret
      exact ⟨by rw [HF.out] <;> rfl, HB.out⟩
theorem is10 {c : UInt8} (h : c = 10) : ((c.toNat : Int) == 10) = true := by rw [h]; rfl
theorem not10 {c : UInt8} (h : c ≠ 10) : ((c.toNat : Int) == 10) = false := by
  rw [beq_eq_false_iff_ne]; intro e; apply h; apply UInt8.toNat_inj.1; show c.toNat = 10; omega
def linS (s : List UInt8) : List (List UInt8) := chop (splX 10 s)
/-- the part from f to k holds no end of line, and there is one at k -/
theorem lin_at {s : List UInt8} {f k : Nat} (hk : k < s.length) (hf : f ≤ k) (hn : (10 : UInt8) ∉ (s.drop f).take (k - f)) (hx : s[k] = 10) : linS (s.drop f) = (s.drop f).take (k - f) :: linS (s.drop (k + 1)) := by
  have e : s.drop f = (s.drop f).take (k - f) ++ 10 :: s.drop (k + 1) := by
    conv => lhs; rw [← List.take_append_drop (k - f) (s.drop f)]
    rw [List.drop_drop, show f + (k - f) = k by omega, List.drop_eq_getElem_cons hk, hx]
  unfold linS
  conv => lhs; rw [e]
  rw [splX_app _ hn, chop_cons _ (splX_ne 10 _)]
theorem lin_end {s : List UInt8} (hn : (10 : UInt8) ∉ s) : linS s = if s = [] then [] else [s] := by
  unfold linS; rw [splX_one hn]; unfold chop; cases s <;> simp
theorem notin_part {x : UInt8} {s : List UInt8} {f k : Nat} (h : k < s.length) (hf : f ≤ k) (hn : x ∉ (s.drop f).take (k - f)) (hx : s[k] ≠ x) : x ∉ (s.drop f).take (k + 1 - f) := by
  have h2 : k - f < (s.drop f).length := by rw [List.length_drop]; omega
  rw [show k + 1 - f = (k - f) + 1 by omega]
  exact notin_succ h2 hn (by rw [List.getElem_drop]; simpa [show f + (k - f) = k by omega] using hx)

set_option maxRecDepth 100000 in
set_option maxHeartbeats 8000000 in
theorem Rlines_any (s : List UInt8) (hs : s.length ≤ 100000) (w : World) :
    Calls Tryz.prog 41 #[.string (bs s)] w fun e w' => ∃ v, e = .returned v ∧ w'.ownsRow w.heap.size 9 1 v (linS s).length ((linS s).map strV) ∧ Below w.heap.size w w' := by
  obtain ⟨R, hR⟩ : ∃ R, linS s = R := ⟨_, rfl⟩
  rw [hR]
  have HR := Lib.hid (show ([] : List (List UInt8)) ++ linS (s.drop 0) = R from hR); clear hR
  have HZ := Lib.hid (own_nil w w.heap.size 9 1)
  go_enter Tryz.func41, Tryz.ntmps41
  go_wp2
  go_loopw [3, 4, 5] (fun v f i wr => ∃ (g k : Nat) (A : List (List UInt8)), k ≤ s.length ∧ g ≤ k ∧ f = .int .i64 g ∧ i = .int .i64 k ∧ A.length ≤ k ∧ Hid ((10 : UInt8) ∉ (s.drop g).take (k - g)) ∧ Hid (A ++ linS (s.drop g) = R) ∧ Hid (wr.ownsRow w.heap.size 9 1 v A.length (A.map strV)) ∧ Below w.heap.size w wr) (fun _ _ i _ => s.length - (intOf i).toNat)
  case atStart => exact ⟨0, 0, [], Nat.zero_le _, Nat.le_refl _, rfl, rfl, Nat.le_refl _, Lib.hid (by simp), HR, HZ, Below.refl _ _⟩
  case round =>
    obtain ⟨g, k, A, hk, hgk, rfl, rfl, hAk, HQ, HA, HO, hB⟩ := hrel
    clear HR HZ
    have HB := Lib.hid hB; clear hB
    by_cases hlt : k < s.length
    · have hlt' : (k : Int) < (s.length : Int) := by omega
      have hw1 : IntKind.i64.wrap ((k : Int) + 1) = (k : Int) + 1 := by rw [IntKind.wrap_i64]; omega
      by_cases h1 : s[k] = 10
      rotate_left
      · have t1 := not10 h1
        have HN := Lib.hid (notin_part hlt hgk HQ.out h1)
        clear h1
        go_wp2
        go_roundw
        case rel => exact ⟨g, k + 1, A, by omega, by omega, rfl, by go_num, by omega, HN, HA, HO, HB.out⟩
        case measure => simp [intOf]; omega
      have t1 := is10 h1
      have HN := Lib.hid (HA.out.symm.trans (by rw [lin_at hlt hgk HQ.out h1])); clear h1
      go_wp2_with (at_builtin; refine wpList_append_str rfl _ _ rfl w.heap.size _ A ((s.take k).drop g) HO.out rfl rfl (by omega) w HB.out HB.out.size ?_; intro v5 w5 hown5 hb5 hg5; have HB := Lib.hid hb5; have HO := Lib.hid hown5; clear hown5 hb5 hg5)
      go_wp2
      go_roundw
      case rel => exact ⟨k + 1, k + 1, A ++ [(s.take k).drop g], by omega, by omega, by go_num, by go_num, by rw [List.length_append]; show A.length + 1 ≤ _; omega, Lib.hid (by simp), Lib.hid (by rw [HN.out, List.drop_take]; simp), HO, HB.out⟩
      case measure => simp [intOf]; omega
    · have hlt' : ¬ (k : Int) < (s.length : Int) := by omega
      have hkl : k = s.length := by omega
      have hE := lin_end (s := s.drop g) (by have h := HQ.out; rw [List.take_of_length_le (by rw [List.length_drop]; omega)] at h; exact h)
      have HE := Lib.hid (lin_end (s := s.drop g) (by have h := HQ.out; rw [List.take_of_length_le (by rw [List.length_drop]; omega)] at h; exact h)); clear HQ
      by_cases hg : g < s.length
      · have hg' : (g : Int) < (s.length : Int) := by omega
        have HF := Lib.hid (HA.out.symm.trans (by rw [HE.out, if_neg (by intro e; have := congrArg List.length e; rw [List.length_drop] at this; simp at this; omega)]))
        go_wp2_with (at_builtin; refine wpList_append_str rfl _ _ rfl w.heap.size _ A (s.drop g) HO.out rfl rfl (by omega) w HB.out HB.out.size ?_; intro v5 w5 hown5 hb5 hg5; have HB := Lib.hid hb5; have HO := Lib.hid hown5; clear hown5 hb5 hg5)
        go_wp2
        go_ret
        exact ⟨_, rfl, by rw [HF.out]; exact HO.out, HB.out⟩
      have hg' : ¬ (g : Int) < (s.length : Int) := by omega
      have HF := Lib.hid (HA.out.symm.trans (by rw [HE.out, if_pos (List.drop_of_length_le (by omega)), List.append_nil]))
      go_wp2
      go_ret
      exact ⟨_, rfl, by rw [HF.out]; exact HO.out, HB.out⟩
end Go.Proofs.YtkmmdkklpbafdaaGreatDoor

namespace Go.Proofs.YtkmmdkklpbafdaaGreatDoor
open Go.RowKit

def lenOf : Value → Nat
  | .string b => b.size
  | _ => 0
def truthOf : Value → Bool
  | .bool b => b
  | _ => false
theorem wds_cut (r : List UInt8) : wds r true = (cutX 32 r).1 :: wds (cutX 32 r).2.1 (cutX 32 r).2.2 := by unfold wds; rw [if_pos rfl, splX_cut]
theorem parP_cut {s w rs : List UInt8} {m : Bool} (h : cutX 32 s = (w, rs, m)) : parP s = if w = [112, 97, 114, 97, 109, 115] then parG [] (wds rs m) else ([], false) := by
  unfold parP; rw [splX_cut, h]; rfl
theorem parG_int {A : List Int} {r w rs : List UInt8} {m : Bool} (h : cutX 32 r = (w, rs, m)) (hw : w = [105, 110, 116]) : parG A (wds r true) = parG (A ++ [1]) (wds rs m) := by
  rw [wds_cut, h]; show (if _ then _ else _) = _; rw [if_pos hw]
theorem parG_str {A : List Int} {r w rs : List UInt8} {m : Bool} (h : cutX 32 r = (w, rs, m)) (hw : w = [115, 116, 114]) : parG A (wds r true) = parG (A ++ [2]) (wds rs m) := by
  rw [wds_cut, h]; show (if _ then _ else _) = _; rw [if_neg (by show ¬ w = _; rw [hw]; decide), if_pos hw]
theorem parG_bad {A : List Int} {r w rs : List UInt8} {m : Bool} (h : cutX 32 r = (w, rs, m)) (h1 : w ≠ [105, 110, 116]) (h2 : w ≠ [115, 116, 114]) : parG A (wds r true) = ([], false) := by
  rw [wds_cut, h]; show (if _ then _ else _) = _; rw [if_neg h1, if_neg h2]
theorem numR_no {n : Nat} {A : List Int} {r : List UInt8} : numR (n + 1) A r false = ([], false) := by unfold numR; rw [if_pos rfl]
theorem numR_bad {n : Nat} {A : List Int} {r w rs : List UInt8} {m : Bool} (h : cutX 32 r = (w, rs, m)) {v e : Int} (hp : parseS w = (v, e)) (he : e ≠ 0) : numR (n + 1) A r true = ([], false) := by
  unfold numR; rw [if_neg (by simp), h]; simp only; rw [hp, if_neg he]
theorem numR_go {n : Nat} {A : List Int} {r w rs : List UInt8} {m : Bool} (h : cutX 32 r = (w, rs, m)) {v e : Int} (hp : parseS w = (v, e)) (he : e = 0) : numR (n + 1) A r true = numR n (A ++ [v]) rs m := by
  rw [numR, if_neg (by simp), h]; simp only; rw [hp, if_pos he]

set_option maxRecDepth 100000 in
set_option maxHeartbeats 8000000 in
theorem Rparams_any (s : List UInt8) (hs : s.length ≤ 100000) (w : World) :
    Calls Tryz.prog 42 #[.string (bs s)] w fun e w' => ∃ v, e = .returned (.tuple #[v, .bool (parP s).2]) ∧ w'.ownsRow w.heap.size 3 1 v (parP s).1.length (intsL (parP s).1) ∧ (parP s).1.length ≤ s.length ∧ Below w.heap.size w w' := by
  obtain ⟨⟨P, g⟩, hR⟩ : ∃ R, parP s = R := ⟨_, rfl⟩
  rw [hR]
  simp only
  have HR := Lib.hid hR; clear hR
  obtain ⟨c1, hc1⟩ : ∃ c, cutX 32 s = c := ⟨_, rfl⟩
  obtain ⟨wd, rs, mo⟩ := c1
  have HC1 := Lib.hid hc1; clear hc1
  have hl1 : rs.length ≤ s.length := by have := cutX_snd_len (x := 32) s; rw [HC1.out] at this; exact this
  have hq1 : wd.length ≤ s.length := by have := cutX_fst_len (x := 32) s; rw [HC1.out] at this; exact this
  have HB := Lib.hid (Below.refl w.heap.size w)
  have HE := Lib.hid ((parP_cut HC1.out).symm.trans HR.out); clear HR
  go_enter Tryz.func42, Tryz.ntmps42
  go_wp2_with fail
  refine (Rcut_any s (by omega) _).mono ?_
  rw [HC1.out]
  rintro er w1 ⟨rfl, hb1⟩
  have HB := Lib.hid (btrans HB.out HB.out.size hb1); clear hb1
  by_cases e1 : wd = [112, 97, 114, 97, 109, 115]
  rotate_left
  · have t1 : (wd == [112, 97, 114, 97, 109, 115]) = false := by rw [beq_eq_false_iff_ne]; exact e1
    have hF := (if_neg e1).symm.trans HE.out
    clear e1 HE
    have h1 : P = [] := (congrArg Prod.fst hF).symm
    have h2 : g = false := (congrArg Prod.snd hF).symm
    subst h1 h2
    go_wp2
    refine bodyPost_ret (v := .tuple #[.slice none 0 0, .bool false]) (by simp [results, Tryz.results42, go_sem]) rfl ?_
    exact ⟨_, rfl, own_nil _ _ _ _, Nat.zero_le _, HB.out⟩
  have t1 : (wd == [112, 97, 114, 97, 109, 115]) = true := by rw [e1]; rfl
  have HF := Lib.hid ((if_pos e1).symm.trans HE.out)
  clear e1 HE
  have HZ := Lib.hid (own_nil w1 w.heap.size 3 1)
  go_wp2
  go_loopw [4, 5, 6, 7] (fun _ re mr v wr => ∃ (A : List Int) (r : List UInt8) (m : Bool), re = .string (bs r) ∧ mr = .bool m ∧ A.length + r.length ≤ s.length ∧ (m = true → A.length + r.length + 1 ≤ s.length) ∧ Hid (parG A (wds r m) = (P, g)) ∧ Hid (wr.ownsRow w.heap.size 3 1 v A.length (intsL A)) ∧ Below w.heap.size w wr) (fun _ re mr _ _ => if truthOf mr = true then lenOf re + 1 else 0)
  case atStart => exact ⟨[], rs, mo, rfl, rfl, by simpa using hl1, fun hm => by subst hm; have := cutX_len (x := 32) (l := s) (by rw [HC1.out]); rw [HC1.out] at this; have h3 : rs.length < s.length := this; show 0 + rs.length + 1 ≤ _; omega, HF, HZ, HB.out⟩
  case round =>
    clear HZ HF HB
    obtain ⟨A, r, m, rfl, rfl, hAl, hAm, HG, HO, hB⟩ := hrel
    have HB := Lib.hid hB; clear hB
    cases m with
    | true =>
      have hA1 := hAm rfl
      clear hAm
      obtain ⟨c2, hc2⟩ : ∃ c, cutX 32 r = c := ⟨_, rfl⟩
      obtain ⟨w2, r2, m2⟩ := c2
      have HC2 := Lib.hid hc2; clear hc2
      have hl2 : r2.length ≤ r.length := by have := cutX_snd_len (x := 32) r; rw [HC2.out] at this; exact this
      have hq2 : w2.length ≤ r.length := by have := cutX_fst_len (x := 32) r; rw [HC2.out] at this; exact this
      have hlt2 : m2 = true → r2.length < r.length := fun hm => by subst hm; have := cutX_len (x := 32) (l := r) (by rw [HC2.out]); rw [HC2.out] at this; exact this
      go_wp2_with fail
      refine (Rcut_any r (by omega) _).mono ?_
      rw [HC2.out]
      rintro er w3 ⟨rfl, hb3⟩
      have HO := Lib.hid (own_below HO.out hb3); have HB := Lib.hid (btrans HB.out HB.out.size hb3); clear hb3
      by_cases e2 : w2 = [105, 110, 116]
      · have t2 : (w2 == [105, 110, 116]) = true := by rw [e2]; rfl
        have t3 : (w2 == [115, 116, 114]) = false := by rw [e2]; rfl
        have HN := Lib.hid ((parG_int (A := A) HC2.out e2).symm.trans HG.out)
        clear e2
        go_wp2_with (at_builtin; refine wpList_append_int rfl _ _ rfl w.heap.size _ A 1 HO.out rfl rfl (by omega) w w.heap.size HB.out HB.out.size (Nat.le_refl _) ?_; intro v5 w5 hown5 hb5 hg5; have HB := Lib.hid hb5; have HO := Lib.hid hown5; clear hown5 hb5 hg5)
        go_wp2
        go_roundw
        case rel => exact ⟨A ++ [1], r2, m2, rfl, rfl, by rw [List.length_append]; show A.length + 1 + _ ≤ _; omega, fun hm => by have := hlt2 hm; rw [List.length_append]; show A.length + 1 + _ + 1 ≤ _; omega, HN, HO, HB.out⟩
        case measure => (show (if m2 = true then (bs r2).size + 1 else 0) < (if true = true then (bs r).size + 1 else 0)); rw [bs_size, bs_size, if_pos rfl]; split <;> first | omega | (have := hlt2 (by assumption); omega)
      by_cases e3 : w2 = [115, 116, 114]
      · have t2 : (w2 == [105, 110, 116]) = false := by rw [e3]; rfl
        have t3 : (w2 == [115, 116, 114]) = true := by rw [e3]; rfl
        have HN := Lib.hid ((parG_str (A := A) HC2.out e3).symm.trans HG.out)
        clear e2 e3
        go_wp2_with (at_builtin; refine wpList_append_int rfl _ _ rfl w.heap.size _ A 2 HO.out rfl rfl (by omega) w w.heap.size HB.out HB.out.size (Nat.le_refl _) ?_; intro v5 w5 hown5 hb5 hg5; have HB := Lib.hid hb5; have HO := Lib.hid hown5; clear hown5 hb5 hg5)
        go_wp2
        go_roundw
        case rel => exact ⟨A ++ [2], r2, m2, rfl, rfl, by rw [List.length_append]; show A.length + 1 + _ ≤ _; omega, fun hm => by have := hlt2 hm; rw [List.length_append]; show A.length + 1 + _ + 1 ≤ _; omega, HN, HO, HB.out⟩
        case measure => (show (if m2 = true then (bs r2).size + 1 else 0) < (if true = true then (bs r).size + 1 else 0)); rw [bs_size, bs_size, if_pos rfl]; split <;> first | omega | (have := hlt2 (by assumption); omega)
      have t2 : (w2 == [105, 110, 116]) = false := by rw [beq_eq_false_iff_ne]; exact e2
      have t3 : (w2 == [115, 116, 114]) = false := by rw [beq_eq_false_iff_ne]; exact e3
      have hF := (parG_bad (A := A) HC2.out e2 e3).symm.trans HG.out
      clear e2 e3
      have h1 : P = [] := (congrArg Prod.fst hF).symm
      have h2 : g = false := (congrArg Prod.snd hF).symm
      subst h1 h2
      go_wp2
      refine bodyPost_ret (v := .tuple #[.slice none 0 0, .bool false]) (by simp [results, Tryz.results42, go_sem]) rfl ?_
      exact ⟨_, rfl, own_nil _ _ _ _, Nat.zero_le _, HB.out⟩
    | false =>
      have hF : (A, true) = (P, g) := HG.out
      have h1 : P = A := (congrArg Prod.fst hF).symm
      have h2 : g = true := (congrArg Prod.snd hF).symm
      subst h1 h2
      clear hF HG
      go_wp2
      refine bodyPost_ret (v := .tuple #[u7, .bool true]) (by simp [results, Tryz.results42, go_sem]) rfl ?_
      exact ⟨_, rfl, HO.out, by omega, HB.out⟩
theorem tok_ne {s : List UInt8} {x : Tk} {ln e : Int} (h : tokenS s = ([x], ln, e)) : s ≠ [] := by
  intro e2; subst e2
  have h2 : (tokenS []).1 = [] := rfl
  rw [h] at h2; cases h2
theorem quo_no {t q : List UInt8} {qe : Int} (h : quoL t = (q, qe)) (he : qe ≠ 0) : q = [] := by
  unfold quoL at h
  split at h
  · exact (congrArg Prod.fst h).symm
  · split at h
    · exact absurd (congrArg Prod.snd h).symm he
    · exact (congrArg Prod.fst h).symm
theorem lit_q {s q : List UInt8} {x : Tk} {ln e qe : Int} (h : tokenS s = ([x], ln, e)) (hq : quoL x.t = (q, qe)) : (decide (qe = 0) && decide (q = s)) = (q == s) := by
  by_cases h0 : qe = 0
  · rw [decide_eq_true h0, Bool.true_and]; exact dec_beq q s
  · rw [decide_eq_false h0, Bool.false_and, quo_no hq h0]
    symm; rw [beq_eq_false_iff_ne]; exact fun e2 => tok_ne h e2.symm

set_option maxRecDepth 100000 in
set_option maxHeartbeats 8000000 in
theorem Rnumbers_any (s : List UInt8) (n : Nat) (hn : n ≤ 3) (hs : s.length ≤ 100000) (w : World) :
    Calls Tryz.prog 43 #[.string (bs s), .int .i64 (n : Int)] w fun e w' => ∃ v, e = .returned (.tuple #[v, .bool (numR n [] s true).2]) ∧ ((numR n [] s true).2 = true → w'.ownsRow w.heap.size 2 1 v (numR n [] s true).1.length (intsL (numR n [] s true).1)) ∧ Below w.heap.size w w' := by
  obtain ⟨⟨N, g⟩, hR⟩ : ∃ R, numR n [] s true = R := ⟨_, rfl⟩
  rw [hR]
  simp only
  have HR := Lib.hid (show numR (n - 0) [] s true = (N, g) from hR); clear hR
  have HZ := Lib.hid (own_nil w w.heap.size 2 1)
  go_enter Tryz.func43, Tryz.ntmps43
  go_wp2
  go_loopw [0, 6, 7, 8, 9] (fun sv v mr _ i wr => ∃ (k : Nat) (A : List Int) (r : List UInt8) (m : Bool), k ≤ n ∧ i = .int .i64 k ∧ sv = .string (bs r) ∧ mr = .bool m ∧ A.length = k ∧ r.length ≤ 100000 ∧ Hid (numR (n - k) A r m = (N, g)) ∧ Hid (wr.ownsRow w.heap.size 2 1 v A.length (intsL A)) ∧ Below w.heap.size w wr) (fun _ _ _ _ i _ => n - (intOf i).toNat)
  case atStart => exact ⟨0, [], s, true, Nat.zero_le _, rfl, rfl, rfl, rfl, hs, HR, HZ, Below.refl _ _⟩
  case round =>
    clear HR HZ
    obtain ⟨k, A, r, m, hk, rfl, rfl, rfl, hAk, hrl, HG, HO, hB⟩ := hrel
    have HB := Lib.hid hB; clear hB
    by_cases hlt : k < n
    · have hlt' : (k : Int) < (n : Int) := by omega
      have hw1 : IntKind.i64.wrap ((k : Int) + 1) = (k : Int) + 1 := by rw [IntKind.wrap_i64]; omega
      obtain ⟨d, hd⟩ : ∃ d, n - k = d + 1 := ⟨n - k - 1, by omega⟩
      have hd2 : n - (k + 1) = d := by omega
      rw [hd] at HG
      have HD := Lib.hid hd2; clear hd hd2
      cases m with
      | false =>
        have hF := numR_no.symm.trans HG.out
        have h2 : g = false := (congrArg Prod.snd hF).symm
        subst h2
        go_wp2
        refine bodyPost_ret (v := .tuple #[.slice none 0 0, .bool false]) (by simp [results, Tryz.results43, go_sem]) rfl ?_
        exact ⟨_, rfl, fun h => absurd h (by simp), HB.out⟩
      | true =>
        obtain ⟨c2, hc2⟩ : ∃ c, cutX 32 r = c := ⟨_, rfl⟩
        obtain ⟨w2, r2, m2⟩ := c2
        have HC2 := Lib.hid hc2; clear hc2
        have hl2 : r2.length ≤ r.length := by have := cutX_snd_len (x := 32) r; rw [HC2.out] at this; exact this
        have hq2 : w2.length ≤ r.length := by have := cutX_fst_len (x := 32) r; rw [HC2.out] at this; exact this
        go_wp2_with fail
        refine (Rcut_any r (by omega) _).mono ?_
        rw [HC2.out]
        rintro er w3 ⟨rfl, hb3⟩
        have HO := Lib.hid (own_below HO.out hb3); have HB := Lib.hid (btrans HB.out HB.out.size hb3); clear hb3
        obtain ⟨⟨pv, pe⟩, hp⟩ : ∃ t, parseS w2 = t := ⟨_, rfl⟩
        have HP := Lib.hid hp; clear hp
        go_wp2_with fail
        refine (RParse_any w2 _ (by omega)).mono ?_
        rw [HP.out]
        rintro er w4 ⟨rfl, rfl⟩
        by_cases e0 : pe = 0
        rotate_left
        · have t0 : (pe != 0) = true := by rw [bne_iff_ne]; exact e0
          have hF := (numR_bad (A := A) HC2.out HP.out e0).symm.trans HG.out
          clear e0
          have h2 : g = false := (congrArg Prod.snd hF).symm
          subst h2
          go_wp2
          refine bodyPost_ret (v := .tuple #[.slice none 0 0, .bool false]) (by simp [results, Tryz.results43, go_sem]) rfl ?_
          exact ⟨_, rfl, fun h => absurd h (by simp), HB.out⟩
        have t0 : (pe != 0) = false := by rw [e0]; rfl
        have HN := Lib.hid ((numR_go (A := A) HC2.out HP.out e0).symm.trans HG.out)
        clear e0 HG
        rw [← HD.out] at HN
        go_wp2_with (at_builtin; refine wpList_append_i64 rfl _ _ rfl w.heap.size _ A pv HO.out rfl rfl (by omega) w w.heap.size HB.out HB.out.size (Nat.le_refl _) ?_; intro v5 w5 hown5 hb5 hg5; have HB := Lib.hid hb5; have HO := Lib.hid hown5; clear hown5 hb5 hg5)
        go_wp2
        go_roundw
        case rel => exact ⟨k + 1, A ++ [pv], r2, m2, by omega, by go_num, rfl, rfl, by rw [List.length_append, hAk]; rfl, by omega, HN, HO, HB.out⟩
        case measure => simp [intOf]; omega
    · have hlt' : ¬ (k : Int) < (n : Int) := by omega
      have hd : n - k = 0 := by omega
      rw [hd] at HG
      have hF : (A, !m) = (N, g) := HG.out
      have h1 : N = A := (congrArg Prod.fst hF).symm
      have h2 : g = !m := (congrArg Prod.snd hF).symm
      subst h1 h2
      clear hF HG
      go_wp2
      refine bodyPost_ret (v := .tuple #[u6, .bool (!m)]) (by simp [results, Tryz.results43, go_sem]) rfl ?_
      exact ⟨_, rfl, fun _ => (by have h := HO.out; rw [hAk] at h; exact h), HB.out⟩
set_option maxRecDepth 100000 in
set_option maxHeartbeats 16000000 in
theorem Rlit16_any (s : List UInt8) (w : World) (hs : s.length ≤ 100000) :
    Calls Tryz.prog 80 #[.string (bs s)] w fun e w' => e = .returned (.tuple #[.string (bs (litS s).1), .bool (litS s).2]) ∧ Below w.heap.size w w' := by
  obtain ⟨⟨lt, lb⟩, hl⟩ : ∃ R, litS s = R := ⟨_, rfl⟩
  rw [hl]
  obtain ⟨⟨T, ln, te⟩, ht⟩ : ∃ R, tokenS s = R := ⟨_, rfl⟩
  have htt := token_txt ht (by omega)
  have HL := Lib.hid hl; have HT := Lib.hid ht; have HTT := Lib.hid htt; clear hl ht htt
  go_enter Tryz.func80, Tryz.ntmps80
  go_wp2_with fail
  refine (RTokenize_any s (by omega) _).mono ?_
  rw [HT.out]
  rintro er w1 ⟨v1, rfl, hc1, hb1⟩
  simp only at hc1
  obtain ⟨ad, cp, rfl, -⟩ := id hc1
  have HB := Lib.hid hb1; have HC := Lib.hid hc1; clear hb1 hc1
  by_cases e0 : te = 0
  rotate_left
  · have t0 : (te != 0) = true := by rw [bne_iff_ne]; exact e0
    have E0 := Lib.hid e0; clear e0
    have hT : ([], false) = (lt, lb) := (litS_no HT.out (.inl E0.out)).symm.trans HL.out
    have h1 : lt = [] := (congrArg Prod.fst hT).symm
    have h2 : lb = false := (congrArg Prod.snd hT).symm
    have H1 := Lib.hid h1; have H2 := Lib.hid h2; clear hT h1 h2
    go_wp2
    go_ret2
    exact ⟨by rw [H1.out, H2.out] <;> rfl, HB.out⟩
  have t0 : (te != 0) = false := by rw [e0]; rfl
  have E0 := Lib.hid e0; clear e0
  by_cases e1 : T.length = 1
  rotate_left
  · have t1 : ((T.length : Int) != 1) = true := by rw [bne_iff_ne]; omega
    have E1 := Lib.hid e1; clear e1
    have hT : ([], false) = (lt, lb) := (litS_no HT.out (.inr (.inl E1.out))).symm.trans HL.out
    have h1 : lt = [] := (congrArg Prod.fst hT).symm
    have h2 : lb = false := (congrArg Prod.snd hT).symm
    have H1 := Lib.hid h1; have H2 := Lib.hid h2; clear hT h1 h2
    go_wp2
    go_ret2
    exact ⟨by rw [H1.out, H2.out] <;> rfl, HB.out⟩
  obtain ⟨⟨xk, xt, xn, xl⟩, rfl⟩ : ∃ x, T = [x] := List.length_eq_one_iff.1 e1
  clear e1
  have t1 : (((([⟨xk, xt, xn, xl⟩] : List Tk).length : Nat) : Int) != 1) = false := rfl
  obtain ⟨ba, oa, hbe, p0, p1, p2, p3⟩ := tok_cells HC.out (k := 0) (by show 0 < 1; omega)
  cases hbe
  simp only [List.getElem_cons_zero, Nat.zero_mul, Nat.add_zero] at p0 p1 p2 p3
  have hlen : ([⟨xk, xt, xn, xl⟩] : List Tk).length = 1 := rfl
  simp only [hlen] at t1 ⊢
  clear hlen
  by_cases e4 : xk = 4
  rotate_left
  · have t4 : (xk != 4) = true := by rw [bne_iff_ne]; exact e4
    have E4 := Lib.hid e4; clear e4
    have hT : ([], false) = (lt, lb) := (litS_no HT.out (.inr (.inr ⟨_, rfl, E4.out⟩))).symm.trans HL.out
    have h1 : lt = [] := (congrArg Prod.fst hT).symm
    have h2 : lb = false := (congrArg Prod.snd hT).symm
    have H1 := Lib.hid h1; have H2 := Lib.hid h2; clear hT h1 h2
    go_wp2
    go_ret2
    exact ⟨by rw [H1.out, H2.out] <;> rfl, HB.out⟩
  have t4 : (xk != 4) = false := by rw [e4]; rfl
  have E4 := Lib.hid e4; clear e4
  obtain ⟨⟨qt, qe⟩, hq⟩ : ∃ R, quoL xt = R := ⟨_, rfl⟩
  have hxt : xt.length ≤ 100000 := HTT.out ⟨xk, xt, xn, xl⟩ (by simp)
  have HQ := Lib.hid hq; clear hq
  have hF := (litS_yes (by rw [HT.out, E0.out]) E4.out HQ.out).symm.trans HL.out
  have h1 : lt = xt := (congrArg Prod.fst hF).symm
  have h2 : lb = (qt == s) := (congrArg Prod.snd hF).symm.trans (lit_q HT.out HQ.out)
  have H1 := Lib.hid h1; have H2 := Lib.hid h2; clear hF h1 h2
  go_wp2_with fail
  refine (RLQuote_any xt (by omega) _).mono ?_
  rw [HQ.out]
  rintro er w2 ⟨rfl, hb2⟩
  have HB := Lib.hid (btrans HB.out HB.out.size hb2)
  have p1 := cell1_below p1 hb2
  clear p0 p2 p3 hb2
  go_wp2
  go_ret2
  exact ⟨by rw [H1.out, H2.out] <;> rfl, HB.out⟩
end Go.Proofs.YtkmmdkklpbafdaaGreatDoor

namespace Go.Proofs.YtkmmdkklpbafdaaGreatDoor
open Go.RowKit

theorem rP_no {i : Nat} {s I w1 s1 : List UInt8} {m1 : Bool} (hI : Lib.itoa (i : Int) = I) (h : cutX 32 s = (w1, s1, m1)) (hb : m1 = false ∨ w1 ≠ I) : insP i s = none := by
  refine insP_pre ?_
  rw [Bool.eq_false_iff, hI]
  intro hp
  have q := (preX_cut (x := 32) I s (hI ▸ itoa_no ⟨by decide, by decide⟩)).1.1 hp
  rw [h] at q
  rcases hb with hb | hb
  · rw [hb] at q; exact absurd q.1 (by simp)
  · exact hb q.2
theorem rP_pre {i : Nat} {s I w1 s1 : List UInt8} {m1 : Bool} (hI : Lib.itoa (i : Int) = I) (h : cutX 32 s = (w1, s1, m1)) (h1 : m1 = true) (h2 : w1 = I) : (Lib.itoa (i : Int) ++ [32]).isPrefixOf s = true ∧ s.drop (Lib.itoa (i : Int) ++ [32]).length = s1 := by
  have q := preX_cut (x := 32) I s (hI ▸ itoa_no ⟨by decide, by decide⟩)
  rw [hI]
  have hp := q.1.2 ⟨by rw [h]; exact h1, by rw [h]; exact h2⟩
  refine ⟨hp, ?_⟩
  rw [q.2 hp, h]
theorem plc_pos {x : List UInt8} {k : Nat} (h : OPN.idxOf x = k) (hk : k < 14) : plcS OPN x = (k : Int) := by unfold plcS; rw [h, if_pos (show k < OPN.length from hk)]
theorem plc_neg {x : List UInt8} (h : ¬ OPN.idxOf x < 14) : plcS OPN x = -1 := by unfold plcS; rw [if_neg (show ¬ OPN.idxOf x < OPN.length from h)]
theorem plr_pos {x : List UInt8} {k : Nat} (h : OPR.idxOf x = k) (hk : k < 21) : plcS OPR x = (k : Int) := by unfold plcS; rw [h, if_pos (show k < OPR.length from hk)]
theorem plr_neg {x : List UInt8} (h : ¬ OPR.idxOf x < 21) : plcS OPR x = -1 := by unfold plcS; rw [if_neg (show ¬ OPR.idxOf x < OPR.length from h)]
theorem numG_len {L : List (List UInt8)} (h : (numG [] L).2 = true) : (numG [] L).1.length = L.length := by rw [numG_acc L [] h]; simp
theorem num_ok {n : Nat} {op : Int} {s : List UInt8} {N : List Int} (h : numR n [] s true = (N, true)) : N.length = n ∧ numsI op (splX 32 s) = layN op N := by
  have q := numR_eq n [] s true
  rw [h] at q
  have hw : wds s true = splX 32 s := by unfold wds; rw [if_pos rfl]
  rw [hw] at q
  obtain ⟨h1, h2⟩ := q.1.1 rfl
  have h3 : N = (numG [] (splX 32 s)).1 := q.2 rfl
  refine ⟨by rw [h3, numG_len h2, h1], ?_⟩
  unfold numsI; rw [if_pos h2, ← h3]
theorem num_no {n : Nat} {op : Int} {s : List UInt8} {N : List Int} (h : numR n [] s true = (N, false)) (hl : ∀ M : List Int, M.length ≠ n → layN op M = none) : numsI op (splX 32 s) = none := by
  have q := numR_eq n [] s true
  rw [h] at q
  have hw : wds s true = splX 32 s := by unfold wds; rw [if_pos rfl]
  rw [hw] at q
  unfold numsI
  by_cases h2 : (numG [] (splX 32 s)).2 = true
  · rw [if_pos h2]
    refine hl _ ?_
    rw [numG_len h2]
    intro e
    exact absurd (q.1.2 ⟨e, h2⟩) (by simp)
  · rw [if_neg h2]
theorem lay_0 {op : Int} (hA : uA op = false) (hB : uB op = false) (hN : uN op = false) (M : List Int) (h : M.length ≠ 0) : layN op M = none := by
  unfold layN; rw [hA, hB, hN]; rcases M with _ | ⟨a, r⟩
  · exact absurd rfl h
  · rfl
theorem lay_a {op : Int} (hA : uA op = true) (hB : uB op = false) (hN : uN op = false) (M : List Int) (h : M.length ≠ 1) : layN op M = none := by
  unfold layN; rw [hA, hB, hN]; rcases M with _ | ⟨a, _ | ⟨b, r⟩⟩
  · rfl
  · exact absurd rfl h
  · rfl
theorem lay_n {op : Int} (hA : uA op = false) (hB : uB op = false) (hN : uN op = true) (M : List Int) (h : M.length ≠ 1) : layN op M = none := by
  unfold layN; rw [hA, hB, hN]; rcases M with _ | ⟨a, _ | ⟨b, r⟩⟩
  · rfl
  · exact absurd rfl h
  · rfl
theorem lay_abn {op : Int} (hA : uA op = true) (hB : uB op = true) (hN : uN op = true) (M : List Int) (h : M.length ≠ 3) : layN op M = none := by
  unfold layN; rw [hA, hB, hN]; rcases M with _ | ⟨a, _ | ⟨b, _ | ⟨c, _ | ⟨d, r⟩⟩⟩⟩
  · rfl
  · rfl
  · rfl
  · exact absurd rfl h
  · rfl
theorem lay_a1 {op a : Int} (hA : uA op = true) (hB : uB op = false) (hN : uN op = false) : layN op [a] = some ⟨op, a, 0, 0, []⟩ := by unfold layN; rw [hA, hB, hN]
theorem lay_n1 {op n : Int} (hA : uA op = false) (hB : uB op = false) (hN : uN op = true) : layN op [n] = some ⟨op, 0, 0, n, []⟩ := by unfold layN; rw [hA, hB, hN]
theorem lay_3 {op a b n : Int} (hA : uA op = true) (hB : uB op = true) (hN : uN op = true) : layN op [a, b, n] = some ⟨op, a, b, n, []⟩ := by unfold layN; rw [hA, hB, hN]
theorem nums_0 {op : Int} (hA : uA op = false) (hB : uB op = false) (hN : uN op = false) (s : List UInt8) : numsI op (splX 32 s) = none := by
  unfold numsI
  split
  · rename_i h
    refine lay_0 hA hB hN _ ?_
    rw [numG_len h]
    intro e
    exact splX_ne 32 s (List.eq_nil_of_length_eq_zero e)
  · rfl
theorem len_one {N : List Int} (h : N.length = 1) : ∃ a, N = [a] := List.length_eq_one_iff.1 h
theorem len_three {N : List Int} (h : N.length = 3) : ∃ a b c, N = [a, b, c] := by
  rcases N with _ | ⟨a, _ | ⟨b, _ | ⟨c, _ | ⟨d, r⟩⟩⟩⟩
  · simp at h
  · simp at h
  · simp at h
  · exact ⟨a, b, c, rfl⟩
  · simp at h
theorem grp_2 {op : Int} (h : uS op = true) : op = 2 := by unfold uS at h; exact of_decide_eq_true h
theorem num_row {W : World} {B : Nat} {v : Value} {N : List Int} (h : W.ownsRow B 2 1 v N.length (intsL N)) (hne : N ≠ []) :
    ∃ g cap, v = .slice (some ⟨g, 0, none⟩) N.length cap ∧ N.length ≤ cap ∧ B ≤ g ∧ ∀ j (_ : j < N.length), W.cell? ⟨g, j, none⟩ = some (.int .i64 N[j]) := by
  obtain ⟨ad, cap, e, hc, hcl⟩ := own_SlI h
  obtain ⟨b, off, rfl, hc3⟩ := hcl hne
  clear hcl
  rcases own_form h with ⟨_, h0⟩ | ⟨g, c2, e2, _, hg⟩
  · exact absurd (List.eq_nil_of_length_eq_zero h0) hne
  · rw [e] at e2
    cases e2
    exact ⟨b, cap, e, hc, hg, fun j hj => by have := hc3 j hj; rw [Nat.zero_add] at this; exact this⟩
theorem strs_of_box {W : World} {b : Nat} {L : List (List UInt8)} (h : Bx b (L.map strV).toArray 9 W) : StrS W (.slice (some ⟨b, 0, none⟩) L.length L.length) L :=
  ⟨_, _, rfl, Nat.le_refl _, fun _ => ⟨b, 0, rfl, fun k hk => by have := strs_cell h hk; rw [Nat.zero_add]; exact this⟩⟩

set_option maxRecDepth 100000 in
set_option maxHeartbeats 4000000 in
theorem uses_zero (w : World) :
    Calls Tryz.prog 78 #[.int .i64 0] w fun e w' => e = .returned (.tuple #[.bool false, .bool false, .bool false, .bool false]) ∧ w' = w := by
  go_enter Tryz.func78, Tryz.ntmps78
  go_wp2
  refine bodyPost_ret (v := .tuple #[.bool false, .bool false, .bool false, .bool false]) (by simp [results, Tryz.results78, go_sem]) rfl ?_
  exact ⟨rfl, rfl⟩
set_option maxRecDepth 100000 in
set_option maxHeartbeats 32000000 in
theorem Rinstr_any (i : Nat) (s : List UInt8) (w : World) (hi : i ≤ 100000) (hs : s.length ≤ 100000) :
    Calls Tryz.prog 44 #[.string (bs s), .int .i64 (i : Int)] w fun e w' => ∃ X, e = .returned (.tuple #[.agg (insV X), .bool (insP i s).isSome]) ∧ (∀ y, insP i s = some y → X = y) ∧ Below w.heap.size w w' := by
  obtain ⟨R, hR⟩ : ∃ R, insP i s = R := ⟨_, rfl⟩
  rw [hR]
  obtain ⟨I, hI⟩ : ∃ I, Lib.itoa (i : Int) = I := ⟨_, rfl⟩
  have HR := Lib.hid hR; have HI := Lib.hid hI; clear hR hI
  obtain ⟨c1, hc1⟩ : ∃ c, cutX 32 s = c := ⟨_, rfl⟩
  obtain ⟨w1s, s1, m1⟩ := c1
  have HC1 := Lib.hid hc1; clear hc1
  have hl1 : s1.length ≤ s.length := by have := cutX_snd_len (x := 32) s; rw [HC1.out] at this; exact this
  have hq1 : w1s.length ≤ s.length := by have := cutX_fst_len (x := 32) s; rw [HC1.out] at this; exact this
  obtain ⟨v0, hW0, hb0, hr0⟩ := boxes1 w #[.int .i64 0, .int .i64 0, .int .i64 0, .int .i64 0, .string ⟨#[]⟩] 39
  have HW := Lib.hid hW0; have HB := Lib.hid hb0; have HRB := Lib.hid hr0; clear hW0 hb0 hr0
  go_enter Tryz.func44, Tryz.ntmps44
  go_upto_region 1 with (fail)
  rw [HW.out]
  clear HW
  go_wp2_with fail
  refine (Rcut_any s (by omega) _).mono ?_
  rw [HC1.out]
  rintro er w1 ⟨rfl, hb1⟩
  have HRB := Lib.hid (HRB.out.call hb1); have HB := Lib.hid (btrans HB.out HB.out.size hb1); clear hb1
  cases m1 with
  | false =>
    have HF := Lib.hid (show R = none from HR.out.symm.trans (rP_no HI.out HC1.out (.inl rfl)))
    have r0 : w1.cell? ⟨w.heap.size, 0, none⟩ = some (.int .i64 0) := HRB.out.cell 0
    have r1 : w1.cell? ⟨w.heap.size, 1, none⟩ = some (.int .i64 0) := HRB.out.cell 1
    have r2 : w1.cell? ⟨w.heap.size, 2, none⟩ = some (.int .i64 0) := HRB.out.cell 2
    have r3 : w1.cell? ⟨w.heap.size, 3, none⟩ = some (.int .i64 0) := HRB.out.cell 3
    have r4 : w1.cell? ⟨w.heap.size, 4, none⟩ = some (.string ⟨#[]⟩) := HRB.out.cell 4
    have f0 := HRB.out.free 0
    have f1 := HRB.out.free 1
    have f2 := HRB.out.free 2
    have f3 := HRB.out.free 3
    have f4 := HRB.out.free 4
    have HK := Lib.hid (HRB.out.sets5 (.int .i64 0) (.int .i64 0) (.int .i64 0) (.int .i64 0) (.string ⟨#[]⟩))
    go_wp2
    have k0 := HK.out.cell 0
    have k1 := HK.out.cell 1
    have k2 := HK.out.cell 2
    have k3 := HK.out.cell 3
    have k4 := HK.out.cell 4
    simp only [List.getElem?_toArray, List.getElem?_cons_zero, List.getElem?_cons_succ] at k0 k1 k2 k3 k4
    refine bodyPost_ret (v := .tuple #[.agg #[.int .i64 0, .int .i64 0, .int .i64 0, .int .i64 0, .string ⟨#[]⟩], .bool false]) (by simp [results, Tryz.results44, go_sem, k0, k1, k2, k3, k4] <;> rfl) rfl ⟨_, show Ending.returned (.tuple #[.agg (insV ins0), .bool false]) = _ from (by rw [HF.out]; rfl), fun y hy => (by rw [HF.out] at hy; cases hy), below_sets5 HB.out w.heap.size (Nat.le_refl _) _ _ _ _ _⟩
  | true =>
    go_wp2_with fail
    refine (number_any (i : Int) _ (by omega) (by omega)).mono ?_
    rw [HI.out]
    rintro er w2 ⟨rfl, hb2⟩
    have HRB := Lib.hid (HRB.out.call hb2); have HB := Lib.hid (btrans HB.out HB.out.size hb2); clear hb2
    by_cases e1 : w1s = I
    rotate_left
    · have t1 : (w1s == I) = false := by rw [beq_eq_false_iff_ne]; exact e1
      have E1 := Lib.hid e1; clear e1
      have HF := Lib.hid (show R = none from HR.out.symm.trans (rP_no HI.out HC1.out (.inr E1.out)))
      have r0 : w2.cell? ⟨w.heap.size, 0, none⟩ = some (.int .i64 0) := HRB.out.cell 0
      have r1 : w2.cell? ⟨w.heap.size, 1, none⟩ = some (.int .i64 0) := HRB.out.cell 1
      have r2 : w2.cell? ⟨w.heap.size, 2, none⟩ = some (.int .i64 0) := HRB.out.cell 2
      have r3 : w2.cell? ⟨w.heap.size, 3, none⟩ = some (.int .i64 0) := HRB.out.cell 3
      have r4 : w2.cell? ⟨w.heap.size, 4, none⟩ = some (.string ⟨#[]⟩) := HRB.out.cell 4
      have f0 := HRB.out.free 0
      have f1 := HRB.out.free 1
      have f2 := HRB.out.free 2
      have f3 := HRB.out.free 3
      have f4 := HRB.out.free 4
      have HK := Lib.hid (HRB.out.sets5 (.int .i64 0) (.int .i64 0) (.int .i64 0) (.int .i64 0) (.string ⟨#[]⟩))
      go_wp2
      have k0 := HK.out.cell 0
      have k1 := HK.out.cell 1
      have k2 := HK.out.cell 2
      have k3 := HK.out.cell 3
      have k4 := HK.out.cell 4
      simp only [List.getElem?_toArray, List.getElem?_cons_zero, List.getElem?_cons_succ] at k0 k1 k2 k3 k4
      refine bodyPost_ret (v := .tuple #[.agg #[.int .i64 0, .int .i64 0, .int .i64 0, .int .i64 0, .string ⟨#[]⟩], .bool false]) (by simp [results, Tryz.results44, go_sem, k0, k1, k2, k3, k4] <;> rfl) rfl ⟨_, show Ending.returned (.tuple #[.agg (insV ins0), .bool false]) = _ from (by rw [HF.out]; rfl), fun y hy => (by rw [HF.out] at hy; cases hy), below_sets5 HB.out w.heap.size (Nat.le_refl _) _ _ _ _ _⟩
    have t1 : (w1s == I) = true := by rw [e1]; exact beq_self_eq_true _
    have hpre := rP_pre HI.out HC1.out rfl e1
    have HP := Lib.hid hpre.1; have HDR := Lib.hid hpre.2; clear e1 hpre
    obtain ⟨c2, hc2⟩ : ∃ c, cutX 32 s1 = c := ⟨_, rfl⟩
    obtain ⟨nm, tl, mo⟩ := c2
    have HC2 := Lib.hid hc2; clear hc2
    have hl2 : tl.length ≤ s1.length := by have := cutX_snd_len (x := 32) s1; rw [HC2.out] at this; exact this
    have hq2 : nm.length ≤ s1.length := by have := cutX_fst_len (x := 32) s1; rw [HC2.out] at this; exact this
    go_wp2_with fail
    refine (Rcut_any s1 (by omega) _).mono ?_
    rw [HC2.out]
    rintro er w3 ⟨rfl, hb3⟩
    have HRB := Lib.hid (HRB.out.call hb3); have HB := Lib.hid (btrans HB.out HB.out.size hb3); clear hb3
    have HC := Lib.hid (show cutX 32 (s.drop (Lib.itoa (i : Int) ++ [32]).length) = (nm, tl, mo) by rw [HDR.out]; exact HC2.out)
    have htl : tl.length ≤ 100000 := by omega
    go_wp2_with fail
    refine (names_any _).mono ?_
    rintro er w4 ⟨rfl, rfl⟩
    have hal := (Below.refl w3.heap.size w3).alloc (Nat.le_refl _) (.cells (OPN.map strV).toArray 9)
    have HY := Lib.hid (Bx.new w3 (OPN.map strV).toArray 9)
    have HRB := Lib.hid (HRB.out.call hal); have HB := Lib.hid (btrans HB.out HB.out.size hal); clear hal
    generalize hW : w3.alloc (.cells (OPN.map strV).toArray 9) = v4 at HY HRB HB ⊢
    clear hW
    obtain ⟨ix, hix⟩ : ∃ t, plcS OPN nm = t := ⟨_, rfl⟩
    have HIX := Lib.hid hix; clear hix
    go_wp2_with fail
    refine (Rplace_any (some ⟨w3.heap.size, 0, none⟩) 14 OPN nm _ (by decide) (strs_of_box HY.out)).mono ?_
    rw [HIX.out]
    rintro er w5 ⟨rfl, hb5⟩
    clear HY
    have HRB := Lib.hid (HRB.out.call hb5); have HB := Lib.hid (btrans HB.out HB.out.size hb5); clear hb5
    by_cases hk : OPN.idxOf nm < 14
    rotate_left
    · have e : ix = -1 := HIX.out.symm.trans (plc_neg hk)
      subst e
      have HNK := Lib.hid hk; clear hk HIX
      have hwk : IntKind.i64.wrap (-1 + 1) = 0 := by rw [IntKind.wrap_i64]; decide
      have hwx := HRB.out.lt
      have hal := (Below.refl w5.heap.size w5).alloc (Nat.le_refl _) (.cells #[.int .i64 0, .int .i64 0, .int .i64 0, .int .i64 0, .string ⟨#[]⟩] 39)
      have HX := Lib.hid (Bx.new w5 #[.int .i64 0, .int .i64 0, .int .i64 0, .int .i64 0, .string ⟨#[]⟩] 39); have HRB := Lib.hid (HRB.out.call hal); have HB := Lib.hid (btrans HB.out HB.out.size hal); clear hal
      go_upto_region 6 with (fail)
      generalize hW : w5.alloc (.cells #[.int .i64 0, .int .i64 0, .int .i64 0, .int .i64 0, .string ⟨#[]⟩] 39) = v5 at HX HRB HB ⊢
      clear hW hwk
      obtain ⟨x0, x1, x2, x3, x4⟩ := HX.out.c5
      go_wp2_with fail
      refine (uses_zero _).mono ?_
      rintro er w6 ⟨rfl, rfl⟩
      have HF := Lib.hid (show R = none from HR.out.symm.trans (insP_idx HP.out HC.out HNK.out))
      have r0 : w6.cell? ⟨w.heap.size, 0, none⟩ = some (.int .i64 0) := HRB.out.cell 0
      have r1 : w6.cell? ⟨w.heap.size, 1, none⟩ = some (.int .i64 0) := HRB.out.cell 1
      have r2 : w6.cell? ⟨w.heap.size, 2, none⟩ = some (.int .i64 0) := HRB.out.cell 2
      have r3 : w6.cell? ⟨w.heap.size, 3, none⟩ = some (.int .i64 0) := HRB.out.cell 3
      have r4 : w6.cell? ⟨w.heap.size, 4, none⟩ = some (.string ⟨#[]⟩) := HRB.out.cell 4
      have f0 := HRB.out.free 0
      have f1 := HRB.out.free 1
      have f2 := HRB.out.free 2
      have f3 := HRB.out.free 3
      have f4 := HRB.out.free 4
      have HK := Lib.hid (HRB.out.sets5 (.int .i64 0) (.int .i64 0) (.int .i64 0) (.int .i64 0) (.string ⟨#[]⟩))
      go_wp2
      have k0 := HK.out.cell 0
      have k1 := HK.out.cell 1
      have k2 := HK.out.cell 2
      have k3 := HK.out.cell 3
      have k4 := HK.out.cell 4
      simp only [List.getElem?_toArray, List.getElem?_cons_zero, List.getElem?_cons_succ] at k0 k1 k2 k3 k4
      refine bodyPost_ret (v := .tuple #[.agg #[.int .i64 0, .int .i64 0, .int .i64 0, .int .i64 0, .string ⟨#[]⟩], .bool false]) (by simp [results, Tryz.results44, go_sem, k0, k1, k2, k3, k4] <;> rfl) rfl ⟨_, show Ending.returned (.tuple #[.agg (insV ins0), .bool false]) = _ from (by rw [HF.out]; rfl), fun y hy => (by rw [HF.out] at hy; cases hy), below_sets5 HB.out w.heap.size (Nat.le_refl _) _ _ _ _ _⟩
    obtain ⟨k, hke⟩ : ∃ k, OPN.idxOf nm = k := ⟨_, rfl⟩
    rw [hke] at hk
    have e : ix = (k : Int) := HIX.out.symm.trans (plc_pos hke hk)
    subst e
    have HOP := Lib.hid ((insP_op HP.out HC.out hke hk).symm.trans HR.out)
    obtain ⟨op, hop⟩ : ∃ op, (k : Int) + 1 = op := ⟨_, rfl⟩
    have h1 : 1 ≤ op := by omega
    have h2 : op ≤ 14 := by omega
    have hwk : IntKind.i64.wrap ((k : Int) + 1) = op := by rw [IntKind.wrap_i64]; omega
    have t0 : (op == 0) = false := by rw [beq_eq_false_iff_ne]; omega
    rw [hop] at HOP
    clear hke HIX hop
    have hwx := HRB.out.lt
    have hal := (Below.refl w5.heap.size w5).alloc (Nat.le_refl _) (.cells #[.int .i64 op, .int .i64 0, .int .i64 0, .int .i64 0, .string ⟨#[]⟩] 39)
    have HX := Lib.hid (Bx.new w5 #[.int .i64 op, .int .i64 0, .int .i64 0, .int .i64 0, .string ⟨#[]⟩] 39); have HRB := Lib.hid (HRB.out.call hal); have HB := Lib.hid (btrans HB.out HB.out.size hal); clear hal
    go_upto_region 6 with (fail)
    generalize hW : w5.alloc (.cells #[.int .i64 op, .int .i64 0, .int .i64 0, .int .i64 0, .string ⟨#[]⟩] 39) = v5 at HX HRB HB ⊢
    clear hW hwk hk
    have HG := Lib.hid (grp_any h1 h2)
    rcases HG.out with h | h | h | h | h
    · skip
      obtain ⟨hV, gA, gB, gN, gS⟩ := h
      have HGA := Lib.hid gA; have HGB := Lib.hid gB; have HGN := Lib.hid gN; have HGS := Lib.hid gS; have HGV := Lib.hid hV
      have h5n : op ≠ 5 := grp_5 (by simp [gA, gB, gN, gS])
      have t5 : (op == 5) = false := by rw [beq_eq_false_iff_ne]; exact h5n
      have H5 := Lib.hid h5n; clear h5n
      clear gA gB gN gS hV
      cases mo with
      | false =>
        rw [if_pos rfl] at HOP
        obtain ⟨x0, x1, x2, x3, x4⟩ := HX.out.c5
        go_wp2_with fail
        refine (uses_any op h1 h2 _).mono ?_
        rw [HGA.out, HGB.out, HGN.out, HGS.out]
        rintro er w6 ⟨rfl, rfl⟩
        have HF := Lib.hid (show R = none from HR.out.symm.trans (HR.out.trans (HOP.out.symm.trans (if_neg (by rw [HGV.out]; decide)))))
        have r0 : w6.cell? ⟨w.heap.size, 0, none⟩ = some (.int .i64 0) := HRB.out.cell 0
        have r1 : w6.cell? ⟨w.heap.size, 1, none⟩ = some (.int .i64 0) := HRB.out.cell 1
        have r2 : w6.cell? ⟨w.heap.size, 2, none⟩ = some (.int .i64 0) := HRB.out.cell 2
        have r3 : w6.cell? ⟨w.heap.size, 3, none⟩ = some (.int .i64 0) := HRB.out.cell 3
        have r4 : w6.cell? ⟨w.heap.size, 4, none⟩ = some (.string ⟨#[]⟩) := HRB.out.cell 4
        have f0 := HRB.out.free 0
        have f1 := HRB.out.free 1
        have f2 := HRB.out.free 2
        have f3 := HRB.out.free 3
        have f4 := HRB.out.free 4
        have HK := Lib.hid (HRB.out.sets5 (.int .i64 0) (.int .i64 0) (.int .i64 0) (.int .i64 0) (.string ⟨#[]⟩))
        go_wp2
        have k0 := HK.out.cell 0
        have k1 := HK.out.cell 1
        have k2 := HK.out.cell 2
        have k3 := HK.out.cell 3
        have k4 := HK.out.cell 4
        simp only [List.getElem?_toArray, List.getElem?_cons_zero, List.getElem?_cons_succ] at k0 k1 k2 k3 k4
        refine bodyPost_ret (v := .tuple #[.agg #[.int .i64 0, .int .i64 0, .int .i64 0, .int .i64 0, .string ⟨#[]⟩], .bool false]) (by simp [results, Tryz.results44, go_sem, k0, k1, k2, k3, k4] <;> rfl) rfl ⟨_, show Ending.returned (.tuple #[.agg (insV ins0), .bool false]) = _ from (by rw [HF.out]; rfl), fun y hy => (by rw [HF.out] at hy; cases hy), below_sets5 HB.out w.heap.size (Nat.le_refl _) _ _ _ _ _⟩
      | true =>
        rw [if_neg (by simp)] at HOP
        have HOP := Lib.hid (show numsI op (splX 32 tl) = R by have h := HOP.out; rw [if_neg (by have h2 := HGS.out; intro e; rw [e] at h2; exact absurd h2 (by decide)), if_neg H5.out] at h; exact h)
        obtain ⟨⟨N, g⟩, hN⟩ : ∃ r, numR 1 [] tl true = r := ⟨_, rfl⟩
        have HN := Lib.hid hN; clear hN
        obtain ⟨x0, x1, x2, x3, x4⟩ := HX.out.c5
        go_wp2_with fail
        refine (uses_any op h1 h2 _).mono ?_
        rw [HGA.out, HGB.out, HGN.out, HGS.out]
        rintro er w6 ⟨rfl, rfl⟩
        go_wp2_with fail
        refine (Rnumbers_any tl 1 (by decide) (by omega) _).mono ?_
        rw [HN.out]
        rintro er w7 ⟨nv, rfl, hno, hb7⟩
        simp only at hno
        clear x0 x1 x2 x3 x4
        have HNO := Lib.hid hno; clear hno
        have hxl := HX.out.lt
        have HX := Lib.hid (HX.out.call hb7); have HRB := Lib.hid (HRB.out.call hb7); have HB := Lib.hid (btrans HB.out HB.out.size hb7); clear hb7
        cases g with
        | false =>
          obtain ⟨x0, x1, x2, x3, x4⟩ := HX.out.c5
          have HF := Lib.hid (show R = none from HR.out.symm.trans (HR.out.trans (HOP.out.symm.trans (num_no HN.out (lay_n HGA.out HGB.out HGN.out)))))
          have r0 : w7.cell? ⟨w.heap.size, 0, none⟩ = some (.int .i64 0) := HRB.out.cell 0
          have r1 : w7.cell? ⟨w.heap.size, 1, none⟩ = some (.int .i64 0) := HRB.out.cell 1
          have r2 : w7.cell? ⟨w.heap.size, 2, none⟩ = some (.int .i64 0) := HRB.out.cell 2
          have r3 : w7.cell? ⟨w.heap.size, 3, none⟩ = some (.int .i64 0) := HRB.out.cell 3
          have r4 : w7.cell? ⟨w.heap.size, 4, none⟩ = some (.string ⟨#[]⟩) := HRB.out.cell 4
          have f0 := HRB.out.free 0
          have f1 := HRB.out.free 1
          have f2 := HRB.out.free 2
          have f3 := HRB.out.free 3
          have f4 := HRB.out.free 4
          have HK := Lib.hid (HRB.out.sets5 (.int .i64 op) (.int .i64 0) (.int .i64 0) (.int .i64 0) (.string ⟨#[]⟩))
          go_wp2
          have k0 := HK.out.cell 0
          have k1 := HK.out.cell 1
          have k2 := HK.out.cell 2
          have k3 := HK.out.cell 3
          have k4 := HK.out.cell 4
          simp only [List.getElem?_toArray, List.getElem?_cons_zero, List.getElem?_cons_succ] at k0 k1 k2 k3 k4
          refine bodyPost_ret (v := .tuple #[.agg #[.int .i64 op, .int .i64 0, .int .i64 0, .int .i64 0, .string ⟨#[]⟩], .bool false]) (by simp [results, Tryz.results44, go_sem, k0, k1, k2, k3, k4] <;> rfl) rfl ⟨_, show Ending.returned (.tuple #[.agg (insV ⟨op, 0, 0, 0, []⟩), .bool false]) = _ from (by rw [HF.out]; rfl), fun y hy => (by rw [HF.out] at hy; cases hy), below_sets5 HB.out w.heap.size (Nat.le_refl _) _ _ _ _ _⟩
        | true =>
          have HL := Lib.hid (HOP.out.symm.trans (num_ok (op := op) HN.out).2)
          obtain ⟨y0, rfl⟩ := len_one (num_ok (op := op) HN.out).1
          obtain ⟨nb, nc, rfl, hnc, hnb, hcl⟩ := num_row (HNO.out rfl) (by simp)
          have hnb : nb ≠ w5.heap.size := by omega
          have p0 : w7.cell? ⟨nb, 0, none⟩ = some (.int .i64 y0) := hcl 0 (by simp)
          clear hcl hxl HNO
          simp only [List.length_cons, List.length_nil] at hnc ⊢
          obtain ⟨x0, x1, x2, x3, x4⟩ := HX.out.c5
          have z3 := HX.out.free 3
          have HX2 := Lib.hid (HX.out.st5_3 (.int .i64 y0)); have HB2 := Lib.hid (below_set HB.out w5.heap.size 3 (Nat.le_of_lt hwx) (.int .i64 y0)); have HR2 := Lib.hid (HRB.out.other (c := w5.heap.size) (i := 3) (by omega) (.int .i64 y0))
          go_upto_region 31 with (fail)
          clear x0 x1 x2 x3 x4 z3 HX HB HRB
          generalize hWE : w7.setCell ⟨w5.heap.size, 3, none⟩ (.int .i64 y0) = v7 at HX2 HB2 HR2  ⊢
          clear hWE
          have HX := HX2; have HB := HB2; have HRB := HR2; clear HX2 HB2 HR2
          clear p0
          obtain ⟨x0, x1, x2, x3, x4⟩ := HX.out.c5
          have HF := Lib.hid (show R = some ⟨op, 0, 0, y0, []⟩ from HR.out.symm.trans (HR.out.trans (HOP.out.symm.trans ((num_ok (op := op) HN.out).2.trans (lay_n1 HGA.out HGB.out HGN.out)))))
          have r0 : v7.cell? ⟨w.heap.size, 0, none⟩ = some (.int .i64 0) := HRB.out.cell 0
          have r1 : v7.cell? ⟨w.heap.size, 1, none⟩ = some (.int .i64 0) := HRB.out.cell 1
          have r2 : v7.cell? ⟨w.heap.size, 2, none⟩ = some (.int .i64 0) := HRB.out.cell 2
          have r3 : v7.cell? ⟨w.heap.size, 3, none⟩ = some (.int .i64 0) := HRB.out.cell 3
          have r4 : v7.cell? ⟨w.heap.size, 4, none⟩ = some (.string ⟨#[]⟩) := HRB.out.cell 4
          have f0 := HRB.out.free 0
          have f1 := HRB.out.free 1
          have f2 := HRB.out.free 2
          have f3 := HRB.out.free 3
          have f4 := HRB.out.free 4
          have HK := Lib.hid (HRB.out.sets5 (.int .i64 op) (.int .i64 0) (.int .i64 0) (.int .i64 y0) (.string ⟨#[]⟩))
          go_wp2
          have k0 := HK.out.cell 0
          have k1 := HK.out.cell 1
          have k2 := HK.out.cell 2
          have k3 := HK.out.cell 3
          have k4 := HK.out.cell 4
          simp only [List.getElem?_toArray, List.getElem?_cons_zero, List.getElem?_cons_succ] at k0 k1 k2 k3 k4
          refine bodyPost_ret (v := .tuple #[.agg #[.int .i64 op, .int .i64 0, .int .i64 0, .int .i64 y0, .string ⟨#[]⟩], .bool true]) (by simp [results, Tryz.results44, go_sem, k0, k1, k2, k3, k4] <;> rfl) rfl ⟨_, show Ending.returned (.tuple #[.agg (insV ⟨op, 0, 0, y0, []⟩), .bool true]) = _ from (by rw [HF.out]; rfl), fun y hy => (by rw [HF.out] at hy; cases hy; rfl), below_sets5 HB.out w.heap.size (Nat.le_refl _) _ _ _ _ _⟩
    · skip
      obtain ⟨hV, gA, gB, gN, gS⟩ := h
      have HGA := Lib.hid gA; have HGB := Lib.hid gB; have HGN := Lib.hid gN; have HGS := Lib.hid gS; have HGV := Lib.hid hV
      have h5n : op ≠ 5 := grp_5 (by simp [gA, gB, gN, gS])
      have t5 : (op == 5) = false := by rw [beq_eq_false_iff_ne]; exact h5n
      have H5 := Lib.hid h5n; clear h5n
      clear gA gB gN gS hV
      cases mo with
      | false =>
        rw [if_pos rfl] at HOP
        obtain ⟨x0, x1, x2, x3, x4⟩ := HX.out.c5
        go_wp2_with fail
        refine (uses_any op h1 h2 _).mono ?_
        rw [HGA.out, HGB.out, HGN.out, HGS.out]
        rintro er w6 ⟨rfl, rfl⟩
        have HF := Lib.hid (show R = none from HR.out.symm.trans (HR.out.trans (HOP.out.symm.trans (if_neg (by rw [HGV.out]; decide)))))
        have r0 : w6.cell? ⟨w.heap.size, 0, none⟩ = some (.int .i64 0) := HRB.out.cell 0
        have r1 : w6.cell? ⟨w.heap.size, 1, none⟩ = some (.int .i64 0) := HRB.out.cell 1
        have r2 : w6.cell? ⟨w.heap.size, 2, none⟩ = some (.int .i64 0) := HRB.out.cell 2
        have r3 : w6.cell? ⟨w.heap.size, 3, none⟩ = some (.int .i64 0) := HRB.out.cell 3
        have r4 : w6.cell? ⟨w.heap.size, 4, none⟩ = some (.string ⟨#[]⟩) := HRB.out.cell 4
        have f0 := HRB.out.free 0
        have f1 := HRB.out.free 1
        have f2 := HRB.out.free 2
        have f3 := HRB.out.free 3
        have f4 := HRB.out.free 4
        have HK := Lib.hid (HRB.out.sets5 (.int .i64 0) (.int .i64 0) (.int .i64 0) (.int .i64 0) (.string ⟨#[]⟩))
        go_wp2
        have k0 := HK.out.cell 0
        have k1 := HK.out.cell 1
        have k2 := HK.out.cell 2
        have k3 := HK.out.cell 3
        have k4 := HK.out.cell 4
        simp only [List.getElem?_toArray, List.getElem?_cons_zero, List.getElem?_cons_succ] at k0 k1 k2 k3 k4
        refine bodyPost_ret (v := .tuple #[.agg #[.int .i64 0, .int .i64 0, .int .i64 0, .int .i64 0, .string ⟨#[]⟩], .bool false]) (by simp [results, Tryz.results44, go_sem, k0, k1, k2, k3, k4] <;> rfl) rfl ⟨_, show Ending.returned (.tuple #[.agg (insV ins0), .bool false]) = _ from (by rw [HF.out]; rfl), fun y hy => (by rw [HF.out] at hy; cases hy), below_sets5 HB.out w.heap.size (Nat.le_refl _) _ _ _ _ _⟩
      | true =>
        rw [if_neg (by simp)] at HOP
        have h2e : op = 2 := grp_2 HGS.out
        have HOP := Lib.hid (show (if (litS tl).2 = true then some (⟨2, 0, 0, 0, (litS tl).1⟩ : Ins) else none) = R by have h := HOP.out; rw [if_pos h2e] at h; exact h)
        obtain ⟨⟨lt, lb⟩, hl⟩ : ∃ r, litS tl = r := ⟨_, rfl⟩
        rw [hl] at HOP
        have HL := Lib.hid hl; have H2E := Lib.hid h2e; clear hl h2e
        obtain ⟨x0, x1, x2, x3, x4⟩ := HX.out.c5
        go_wp2_with fail
        refine (uses_any op h1 h2 _).mono ?_
        rw [HGA.out, HGB.out, HGN.out, HGS.out]
        rintro er w6 ⟨rfl, rfl⟩
        go_wp2_with fail
        refine (Rlit16_any tl _ (by omega)).mono ?_
        rw [HL.out]
        rintro er w7 ⟨rfl, hb7⟩
        clear x0 x1 x2 x3 x4
        have HX := Lib.hid (HX.out.call hb7); have HRB := Lib.hid (HRB.out.call hb7); have HB := Lib.hid (btrans HB.out HB.out.size hb7); clear hb7
        obtain ⟨x0, x1, x2, x3, x4⟩ := HX.out.c5
        have z4 := HX.out.free 4
        have HX2 := Lib.hid (HX.out.st5_4 (.string (bs lt))); have HB2 := Lib.hid (below_set HB.out w5.heap.size 4 (Nat.le_of_lt hwx) (.string (bs lt))); have HR2 := Lib.hid (HRB.out.other (c := w5.heap.size) (i := 4) (by omega) (.string (bs lt)))
        go_upto_region 16 with (fail)
        clear x0 x1 x2 x3 x4 z4 HX HB HRB
        generalize hWE : w7.setCell ⟨w5.heap.size, 4, none⟩ (.string (bs lt)) = v7 at HX2 HB2 HR2  ⊢
        clear hWE
        have HX := HX2; have HB := HB2; have HRB := HR2; clear HX2 HB2 HR2
        cases lb with
        | true =>
          obtain ⟨x0, x1, x2, x3, x4⟩ := HX.out.c5
          have HF := Lib.hid (show R = some ⟨op, 0, 0, 0, lt⟩ from HR.out.symm.trans (HR.out.trans (HOP.out.symm.trans (by rw [H2E.out]; exact if_pos rfl))))
          have r0 : v7.cell? ⟨w.heap.size, 0, none⟩ = some (.int .i64 0) := HRB.out.cell 0
          have r1 : v7.cell? ⟨w.heap.size, 1, none⟩ = some (.int .i64 0) := HRB.out.cell 1
          have r2 : v7.cell? ⟨w.heap.size, 2, none⟩ = some (.int .i64 0) := HRB.out.cell 2
          have r3 : v7.cell? ⟨w.heap.size, 3, none⟩ = some (.int .i64 0) := HRB.out.cell 3
          have r4 : v7.cell? ⟨w.heap.size, 4, none⟩ = some (.string ⟨#[]⟩) := HRB.out.cell 4
          have f0 := HRB.out.free 0
          have f1 := HRB.out.free 1
          have f2 := HRB.out.free 2
          have f3 := HRB.out.free 3
          have f4 := HRB.out.free 4
          have HK := Lib.hid (HRB.out.sets5 (.int .i64 op) (.int .i64 0) (.int .i64 0) (.int .i64 0) (.string (bs lt)))
          go_wp2
          have k0 := HK.out.cell 0
          have k1 := HK.out.cell 1
          have k2 := HK.out.cell 2
          have k3 := HK.out.cell 3
          have k4 := HK.out.cell 4
          simp only [List.getElem?_toArray, List.getElem?_cons_zero, List.getElem?_cons_succ] at k0 k1 k2 k3 k4
          refine bodyPost_ret (v := .tuple #[.agg #[.int .i64 op, .int .i64 0, .int .i64 0, .int .i64 0, .string (bs lt)], .bool true]) (by simp [results, Tryz.results44, go_sem, k0, k1, k2, k3, k4] <;> rfl) rfl ⟨_, show Ending.returned (.tuple #[.agg (insV ⟨op, 0, 0, 0, lt⟩), .bool true]) = _ from (by rw [HF.out]; rfl), fun y hy => (by rw [HF.out] at hy; cases hy; rfl), below_sets5 HB.out w.heap.size (Nat.le_refl _) _ _ _ _ _⟩
        | false =>
          obtain ⟨x0, x1, x2, x3, x4⟩ := HX.out.c5
          have HF := Lib.hid (show R = none from HR.out.symm.trans (HR.out.trans (HOP.out.symm.trans (if_neg (by simp)))))
          have r0 : v7.cell? ⟨w.heap.size, 0, none⟩ = some (.int .i64 0) := HRB.out.cell 0
          have r1 : v7.cell? ⟨w.heap.size, 1, none⟩ = some (.int .i64 0) := HRB.out.cell 1
          have r2 : v7.cell? ⟨w.heap.size, 2, none⟩ = some (.int .i64 0) := HRB.out.cell 2
          have r3 : v7.cell? ⟨w.heap.size, 3, none⟩ = some (.int .i64 0) := HRB.out.cell 3
          have r4 : v7.cell? ⟨w.heap.size, 4, none⟩ = some (.string ⟨#[]⟩) := HRB.out.cell 4
          have f0 := HRB.out.free 0
          have f1 := HRB.out.free 1
          have f2 := HRB.out.free 2
          have f3 := HRB.out.free 3
          have f4 := HRB.out.free 4
          have HK := Lib.hid (HRB.out.sets5 (.int .i64 op) (.int .i64 0) (.int .i64 0) (.int .i64 0) (.string (bs lt)))
          go_wp2
          have k0 := HK.out.cell 0
          have k1 := HK.out.cell 1
          have k2 := HK.out.cell 2
          have k3 := HK.out.cell 3
          have k4 := HK.out.cell 4
          simp only [List.getElem?_toArray, List.getElem?_cons_zero, List.getElem?_cons_succ] at k0 k1 k2 k3 k4
          refine bodyPost_ret (v := .tuple #[.agg #[.int .i64 op, .int .i64 0, .int .i64 0, .int .i64 0, .string (bs lt)], .bool false]) (by simp [results, Tryz.results44, go_sem, k0, k1, k2, k3, k4] <;> rfl) rfl ⟨_, show Ending.returned (.tuple #[.agg (insV ⟨op, 0, 0, 0, lt⟩), .bool false]) = _ from (by rw [HF.out]; rfl), fun y hy => (by rw [HF.out] at hy; cases hy), below_sets5 HB.out w.heap.size (Nat.le_refl _) _ _ _ _ _⟩
    · skip
      obtain ⟨hV, gA, gB, gN, gS⟩ := h
      have HGA := Lib.hid gA; have HGB := Lib.hid gB; have HGN := Lib.hid gN; have HGS := Lib.hid gS; have HGV := Lib.hid hV
      have h5n : op ≠ 5 := grp_5 (by simp [gA, gB, gN, gS])
      have t5 : (op == 5) = false := by rw [beq_eq_false_iff_ne]; exact h5n
      have H5 := Lib.hid h5n; clear h5n
      clear gA gB gN gS hV
      cases mo with
      | false =>
        rw [if_pos rfl] at HOP
        obtain ⟨x0, x1, x2, x3, x4⟩ := HX.out.c5
        go_wp2_with fail
        refine (uses_any op h1 h2 _).mono ?_
        rw [HGA.out, HGB.out, HGN.out, HGS.out]
        rintro er w6 ⟨rfl, rfl⟩
        have HF := Lib.hid (show R = none from HR.out.symm.trans (HR.out.trans (HOP.out.symm.trans (if_neg (by rw [HGV.out]; decide)))))
        have r0 : w6.cell? ⟨w.heap.size, 0, none⟩ = some (.int .i64 0) := HRB.out.cell 0
        have r1 : w6.cell? ⟨w.heap.size, 1, none⟩ = some (.int .i64 0) := HRB.out.cell 1
        have r2 : w6.cell? ⟨w.heap.size, 2, none⟩ = some (.int .i64 0) := HRB.out.cell 2
        have r3 : w6.cell? ⟨w.heap.size, 3, none⟩ = some (.int .i64 0) := HRB.out.cell 3
        have r4 : w6.cell? ⟨w.heap.size, 4, none⟩ = some (.string ⟨#[]⟩) := HRB.out.cell 4
        have f0 := HRB.out.free 0
        have f1 := HRB.out.free 1
        have f2 := HRB.out.free 2
        have f3 := HRB.out.free 3
        have f4 := HRB.out.free 4
        have HK := Lib.hid (HRB.out.sets5 (.int .i64 0) (.int .i64 0) (.int .i64 0) (.int .i64 0) (.string ⟨#[]⟩))
        go_wp2
        have k0 := HK.out.cell 0
        have k1 := HK.out.cell 1
        have k2 := HK.out.cell 2
        have k3 := HK.out.cell 3
        have k4 := HK.out.cell 4
        simp only [List.getElem?_toArray, List.getElem?_cons_zero, List.getElem?_cons_succ] at k0 k1 k2 k3 k4
        refine bodyPost_ret (v := .tuple #[.agg #[.int .i64 0, .int .i64 0, .int .i64 0, .int .i64 0, .string ⟨#[]⟩], .bool false]) (by simp [results, Tryz.results44, go_sem, k0, k1, k2, k3, k4] <;> rfl) rfl ⟨_, show Ending.returned (.tuple #[.agg (insV ins0), .bool false]) = _ from (by rw [HF.out]; rfl), fun y hy => (by rw [HF.out] at hy; cases hy), below_sets5 HB.out w.heap.size (Nat.le_refl _) _ _ _ _ _⟩
      | true =>
        rw [if_neg (by simp)] at HOP
        have HOP := Lib.hid (show numsI op (splX 32 tl) = R by have h := HOP.out; rw [if_neg (by have h2 := HGS.out; intro e; rw [e] at h2; exact absurd h2 (by decide)), if_neg H5.out] at h; exact h)
        obtain ⟨⟨N, g⟩, hN⟩ : ∃ r, numR 3 [] tl true = r := ⟨_, rfl⟩
        have HN := Lib.hid hN; clear hN
        obtain ⟨x0, x1, x2, x3, x4⟩ := HX.out.c5
        go_wp2_with fail
        refine (uses_any op h1 h2 _).mono ?_
        rw [HGA.out, HGB.out, HGN.out, HGS.out]
        rintro er w6 ⟨rfl, rfl⟩
        go_wp2_with fail
        refine (Rnumbers_any tl 3 (by decide) (by omega) _).mono ?_
        rw [HN.out]
        rintro er w7 ⟨nv, rfl, hno, hb7⟩
        simp only at hno
        clear x0 x1 x2 x3 x4
        have HNO := Lib.hid hno; clear hno
        have hxl := HX.out.lt
        have HX := Lib.hid (HX.out.call hb7); have HRB := Lib.hid (HRB.out.call hb7); have HB := Lib.hid (btrans HB.out HB.out.size hb7); clear hb7
        cases g with
        | false =>
          obtain ⟨x0, x1, x2, x3, x4⟩ := HX.out.c5
          have HF := Lib.hid (show R = none from HR.out.symm.trans (HR.out.trans (HOP.out.symm.trans (num_no HN.out (lay_abn HGA.out HGB.out HGN.out)))))
          have r0 : w7.cell? ⟨w.heap.size, 0, none⟩ = some (.int .i64 0) := HRB.out.cell 0
          have r1 : w7.cell? ⟨w.heap.size, 1, none⟩ = some (.int .i64 0) := HRB.out.cell 1
          have r2 : w7.cell? ⟨w.heap.size, 2, none⟩ = some (.int .i64 0) := HRB.out.cell 2
          have r3 : w7.cell? ⟨w.heap.size, 3, none⟩ = some (.int .i64 0) := HRB.out.cell 3
          have r4 : w7.cell? ⟨w.heap.size, 4, none⟩ = some (.string ⟨#[]⟩) := HRB.out.cell 4
          have f0 := HRB.out.free 0
          have f1 := HRB.out.free 1
          have f2 := HRB.out.free 2
          have f3 := HRB.out.free 3
          have f4 := HRB.out.free 4
          have HK := Lib.hid (HRB.out.sets5 (.int .i64 op) (.int .i64 0) (.int .i64 0) (.int .i64 0) (.string ⟨#[]⟩))
          go_wp2
          have k0 := HK.out.cell 0
          have k1 := HK.out.cell 1
          have k2 := HK.out.cell 2
          have k3 := HK.out.cell 3
          have k4 := HK.out.cell 4
          simp only [List.getElem?_toArray, List.getElem?_cons_zero, List.getElem?_cons_succ] at k0 k1 k2 k3 k4
          refine bodyPost_ret (v := .tuple #[.agg #[.int .i64 op, .int .i64 0, .int .i64 0, .int .i64 0, .string ⟨#[]⟩], .bool false]) (by simp [results, Tryz.results44, go_sem, k0, k1, k2, k3, k4] <;> rfl) rfl ⟨_, show Ending.returned (.tuple #[.agg (insV ⟨op, 0, 0, 0, []⟩), .bool false]) = _ from (by rw [HF.out]; rfl), fun y hy => (by rw [HF.out] at hy; cases hy), below_sets5 HB.out w.heap.size (Nat.le_refl _) _ _ _ _ _⟩
        | true =>
          have HL := Lib.hid (HOP.out.symm.trans (num_ok (op := op) HN.out).2)
          obtain ⟨y0, y1, y2, rfl⟩ := len_three (num_ok (op := op) HN.out).1
          obtain ⟨nb, nc, rfl, hnc, hnb, hcl⟩ := num_row (HNO.out rfl) (by simp)
          have hnb : nb ≠ w5.heap.size := by omega
          have p0 : w7.cell? ⟨nb, 0, none⟩ = some (.int .i64 y0) := hcl 0 (by simp)
          have p1 : w7.cell? ⟨nb, 1, none⟩ = some (.int .i64 y1) := hcl 1 (by simp)
          have p2 : w7.cell? ⟨nb, 2, none⟩ = some (.int .i64 y2) := hcl 2 (by simp)
          clear hcl hxl HNO
          simp only [List.length_cons, List.length_nil] at hnc ⊢
          obtain ⟨x0, x1, x2, x3, x4⟩ := HX.out.c5
          have z1 := HX.out.free 1
          have HX2 := Lib.hid (HX.out.st5_1 (.int .i64 y0)); have HB2 := Lib.hid (below_set HB.out w5.heap.size 1 (Nat.le_of_lt hwx) (.int .i64 y0)); have HR2 := Lib.hid (HRB.out.other (c := w5.heap.size) (i := 1) (by omega) (.int .i64 y0))
          have p1Q : (w7.setCell ⟨w5.heap.size, 1, none⟩ (.int .i64 y0)).cell? ⟨nb, 1, none⟩ = some (.int .i64 y1) := cell1_set _ (fun e => hnb e.symm) p1
          have p2Q : (w7.setCell ⟨w5.heap.size, 1, none⟩ (.int .i64 y0)).cell? ⟨nb, 2, none⟩ = some (.int .i64 y2) := cell1_set _ (fun e => hnb e.symm) p2
          go_upto_region 21 with (fail)
          clear x0 x1 x2 x3 x4 z1 HX HB HRB
          clear p1
          have p1 := p1Q
          clear p1Q
          clear p2
          have p2 := p2Q
          clear p2Q
          generalize hWE : w7.setCell ⟨w5.heap.size, 1, none⟩ (.int .i64 y0) = v7 at HX2 HB2 HR2 p1 p2 ⊢
          clear hWE
          have HX := HX2; have HB := HB2; have HRB := HR2; clear HX2 HB2 HR2
          clear p0
          obtain ⟨x0, x1, x2, x3, x4⟩ := HX.out.c5
          have z2 := HX.out.free 2
          have HX2 := Lib.hid (HX.out.st5_2 (.int .i64 y1)); have HB2 := Lib.hid (below_set HB.out w5.heap.size 2 (Nat.le_of_lt hwx) (.int .i64 y1)); have HR2 := Lib.hid (HRB.out.other (c := w5.heap.size) (i := 2) (by omega) (.int .i64 y1))
          have p2Q : (v7.setCell ⟨w5.heap.size, 2, none⟩ (.int .i64 y1)).cell? ⟨nb, 2, none⟩ = some (.int .i64 y2) := cell1_set _ (fun e => hnb e.symm) p2
          go_upto_region 22 with (fail)
          clear x0 x1 x2 x3 x4 z2 HX HB HRB
          clear p2
          have p2 := p2Q
          clear p2Q
          generalize hWE : v7.setCell ⟨w5.heap.size, 2, none⟩ (.int .i64 y1) = v8 at HX2 HB2 HR2 p2 ⊢
          clear hWE
          have HX := HX2; have HB := HB2; have HRB := HR2; clear HX2 HB2 HR2
          clear p1
          obtain ⟨x0, x1, x2, x3, x4⟩ := HX.out.c5
          have z3 := HX.out.free 3
          have HX2 := Lib.hid (HX.out.st5_3 (.int .i64 y2)); have HB2 := Lib.hid (below_set HB.out w5.heap.size 3 (Nat.le_of_lt hwx) (.int .i64 y2)); have HR2 := Lib.hid (HRB.out.other (c := w5.heap.size) (i := 3) (by omega) (.int .i64 y2))
          go_upto_region 31 with (fail)
          clear x0 x1 x2 x3 x4 z3 HX HB HRB
          generalize hWE : v8.setCell ⟨w5.heap.size, 3, none⟩ (.int .i64 y2) = v9 at HX2 HB2 HR2  ⊢
          clear hWE
          have HX := HX2; have HB := HB2; have HRB := HR2; clear HX2 HB2 HR2
          clear p2
          obtain ⟨x0, x1, x2, x3, x4⟩ := HX.out.c5
          have HF := Lib.hid (show R = some ⟨op, y0, y1, y2, []⟩ from HR.out.symm.trans (HR.out.trans (HOP.out.symm.trans ((num_ok (op := op) HN.out).2.trans (lay_3 HGA.out HGB.out HGN.out)))))
          have r0 : v9.cell? ⟨w.heap.size, 0, none⟩ = some (.int .i64 0) := HRB.out.cell 0
          have r1 : v9.cell? ⟨w.heap.size, 1, none⟩ = some (.int .i64 0) := HRB.out.cell 1
          have r2 : v9.cell? ⟨w.heap.size, 2, none⟩ = some (.int .i64 0) := HRB.out.cell 2
          have r3 : v9.cell? ⟨w.heap.size, 3, none⟩ = some (.int .i64 0) := HRB.out.cell 3
          have r4 : v9.cell? ⟨w.heap.size, 4, none⟩ = some (.string ⟨#[]⟩) := HRB.out.cell 4
          have f0 := HRB.out.free 0
          have f1 := HRB.out.free 1
          have f2 := HRB.out.free 2
          have f3 := HRB.out.free 3
          have f4 := HRB.out.free 4
          have HK := Lib.hid (HRB.out.sets5 (.int .i64 op) (.int .i64 y0) (.int .i64 y1) (.int .i64 y2) (.string ⟨#[]⟩))
          go_wp2
          have k0 := HK.out.cell 0
          have k1 := HK.out.cell 1
          have k2 := HK.out.cell 2
          have k3 := HK.out.cell 3
          have k4 := HK.out.cell 4
          simp only [List.getElem?_toArray, List.getElem?_cons_zero, List.getElem?_cons_succ] at k0 k1 k2 k3 k4
          refine bodyPost_ret (v := .tuple #[.agg #[.int .i64 op, .int .i64 y0, .int .i64 y1, .int .i64 y2, .string ⟨#[]⟩], .bool true]) (by simp [results, Tryz.results44, go_sem, k0, k1, k2, k3, k4] <;> rfl) rfl ⟨_, show Ending.returned (.tuple #[.agg (insV ⟨op, y0, y1, y2, []⟩), .bool true]) = _ from (by rw [HF.out]; rfl), fun y hy => (by rw [HF.out] at hy; cases hy; rfl), below_sets5 HB.out w.heap.size (Nat.le_refl _) _ _ _ _ _⟩
    · skip
      obtain ⟨hV, gA, gB, gN, gS⟩ := h
      have HGA := Lib.hid gA; have HGB := Lib.hid gB; have HGN := Lib.hid gN; have HGS := Lib.hid gS; have HGV := Lib.hid hV
      cases mo with
      | false =>
        rw [if_pos rfl] at HOP
        obtain ⟨x0, x1, x2, x3, x4⟩ := HX.out.c5
        go_wp2_with fail
        refine (uses_any op h1 h2 _).mono ?_
        rw [HGA.out, HGB.out, HGN.out, HGS.out]
        rintro er w6 ⟨rfl, rfl⟩
        have HF := Lib.hid (show R = none from HR.out.symm.trans (HR.out.trans (HOP.out.symm.trans (if_neg (by rw [HGV.out]; decide)))))
        have r0 : w6.cell? ⟨w.heap.size, 0, none⟩ = some (.int .i64 0) := HRB.out.cell 0
        have r1 : w6.cell? ⟨w.heap.size, 1, none⟩ = some (.int .i64 0) := HRB.out.cell 1
        have r2 : w6.cell? ⟨w.heap.size, 2, none⟩ = some (.int .i64 0) := HRB.out.cell 2
        have r3 : w6.cell? ⟨w.heap.size, 3, none⟩ = some (.int .i64 0) := HRB.out.cell 3
        have r4 : w6.cell? ⟨w.heap.size, 4, none⟩ = some (.string ⟨#[]⟩) := HRB.out.cell 4
        have f0 := HRB.out.free 0
        have f1 := HRB.out.free 1
        have f2 := HRB.out.free 2
        have f3 := HRB.out.free 3
        have f4 := HRB.out.free 4
        have HK := Lib.hid (HRB.out.sets5 (.int .i64 0) (.int .i64 0) (.int .i64 0) (.int .i64 0) (.string ⟨#[]⟩))
        go_wp2
        have k0 := HK.out.cell 0
        have k1 := HK.out.cell 1
        have k2 := HK.out.cell 2
        have k3 := HK.out.cell 3
        have k4 := HK.out.cell 4
        simp only [List.getElem?_toArray, List.getElem?_cons_zero, List.getElem?_cons_succ] at k0 k1 k2 k3 k4
        refine bodyPost_ret (v := .tuple #[.agg #[.int .i64 0, .int .i64 0, .int .i64 0, .int .i64 0, .string ⟨#[]⟩], .bool false]) (by simp [results, Tryz.results44, go_sem, k0, k1, k2, k3, k4] <;> rfl) rfl ⟨_, show Ending.returned (.tuple #[.agg (insV ins0), .bool false]) = _ from (by rw [HF.out]; rfl), fun y hy => (by rw [HF.out] at hy; cases hy), below_sets5 HB.out w.heap.size (Nat.le_refl _) _ _ _ _ _⟩
      | true =>
        rw [if_neg (by simp)] at HOP
        by_cases h5n : op = 5
        rotate_left
        · have t5 : (op == 5) = false := by rw [beq_eq_false_iff_ne]; exact h5n
          have H5 := Lib.hid h5n; clear h5n
          clear gA gB gN gS hV
          have HOP := Lib.hid (show numsI op (splX 32 tl) = R by have h := HOP.out; rw [if_neg (by have h2 := HGS.out; intro e; rw [e] at h2; exact absurd h2 (by decide)), if_neg H5.out] at h; exact h)
          obtain ⟨⟨N, g⟩, hN⟩ : ∃ r, numR 1 [] tl true = r := ⟨_, rfl⟩
          have HN := Lib.hid hN; clear hN
          obtain ⟨x0, x1, x2, x3, x4⟩ := HX.out.c5
          go_wp2_with fail
          refine (uses_any op h1 h2 _).mono ?_
          rw [HGA.out, HGB.out, HGN.out, HGS.out]
          rintro er w6 ⟨rfl, rfl⟩
          go_wp2_with fail
          refine (Rnumbers_any tl 1 (by decide) (by omega) _).mono ?_
          rw [HN.out]
          rintro er w7 ⟨nv, rfl, hno, hb7⟩
          simp only at hno
          clear x0 x1 x2 x3 x4
          have HNO := Lib.hid hno; clear hno
          have hxl := HX.out.lt
          have HX := Lib.hid (HX.out.call hb7); have HRB := Lib.hid (HRB.out.call hb7); have HB := Lib.hid (btrans HB.out HB.out.size hb7); clear hb7
          cases g with
          | false =>
            obtain ⟨x0, x1, x2, x3, x4⟩ := HX.out.c5
            have HF := Lib.hid (show R = none from HR.out.symm.trans (HR.out.trans (HOP.out.symm.trans (num_no HN.out (lay_a HGA.out HGB.out HGN.out)))))
            have r0 : w7.cell? ⟨w.heap.size, 0, none⟩ = some (.int .i64 0) := HRB.out.cell 0
            have r1 : w7.cell? ⟨w.heap.size, 1, none⟩ = some (.int .i64 0) := HRB.out.cell 1
            have r2 : w7.cell? ⟨w.heap.size, 2, none⟩ = some (.int .i64 0) := HRB.out.cell 2
            have r3 : w7.cell? ⟨w.heap.size, 3, none⟩ = some (.int .i64 0) := HRB.out.cell 3
            have r4 : w7.cell? ⟨w.heap.size, 4, none⟩ = some (.string ⟨#[]⟩) := HRB.out.cell 4
            have f0 := HRB.out.free 0
            have f1 := HRB.out.free 1
            have f2 := HRB.out.free 2
            have f3 := HRB.out.free 3
            have f4 := HRB.out.free 4
            have HK := Lib.hid (HRB.out.sets5 (.int .i64 op) (.int .i64 0) (.int .i64 0) (.int .i64 0) (.string ⟨#[]⟩))
            go_wp2
            have k0 := HK.out.cell 0
            have k1 := HK.out.cell 1
            have k2 := HK.out.cell 2
            have k3 := HK.out.cell 3
            have k4 := HK.out.cell 4
            simp only [List.getElem?_toArray, List.getElem?_cons_zero, List.getElem?_cons_succ] at k0 k1 k2 k3 k4
            refine bodyPost_ret (v := .tuple #[.agg #[.int .i64 op, .int .i64 0, .int .i64 0, .int .i64 0, .string ⟨#[]⟩], .bool false]) (by simp [results, Tryz.results44, go_sem, k0, k1, k2, k3, k4] <;> rfl) rfl ⟨_, show Ending.returned (.tuple #[.agg (insV ⟨op, 0, 0, 0, []⟩), .bool false]) = _ from (by rw [HF.out]; rfl), fun y hy => (by rw [HF.out] at hy; cases hy), below_sets5 HB.out w.heap.size (Nat.le_refl _) _ _ _ _ _⟩
          | true =>
            have HL := Lib.hid (HOP.out.symm.trans (num_ok (op := op) HN.out).2)
            obtain ⟨y0, rfl⟩ := len_one (num_ok (op := op) HN.out).1
            obtain ⟨nb, nc, rfl, hnc, hnb, hcl⟩ := num_row (HNO.out rfl) (by simp)
            have hnb : nb ≠ w5.heap.size := by omega
            have p0 : w7.cell? ⟨nb, 0, none⟩ = some (.int .i64 y0) := hcl 0 (by simp)
            clear hcl hxl HNO
            simp only [List.length_cons, List.length_nil] at hnc ⊢
            obtain ⟨x0, x1, x2, x3, x4⟩ := HX.out.c5
            have z1 := HX.out.free 1
            have HX2 := Lib.hid (HX.out.st5_1 (.int .i64 y0)); have HB2 := Lib.hid (below_set HB.out w5.heap.size 1 (Nat.le_of_lt hwx) (.int .i64 y0)); have HR2 := Lib.hid (HRB.out.other (c := w5.heap.size) (i := 1) (by omega) (.int .i64 y0))
            go_upto_region 31 with (fail)
            clear x0 x1 x2 x3 x4 z1 HX HB HRB
            generalize hWE : w7.setCell ⟨w5.heap.size, 1, none⟩ (.int .i64 y0) = v7 at HX2 HB2 HR2  ⊢
            clear hWE
            have HX := HX2; have HB := HB2; have HRB := HR2; clear HX2 HB2 HR2
            clear p0
            obtain ⟨x0, x1, x2, x3, x4⟩ := HX.out.c5
            have HF := Lib.hid (show R = some ⟨op, y0, 0, 0, []⟩ from HR.out.symm.trans (HR.out.trans (HOP.out.symm.trans ((num_ok (op := op) HN.out).2.trans (lay_a1 HGA.out HGB.out HGN.out)))))
            have r0 : v7.cell? ⟨w.heap.size, 0, none⟩ = some (.int .i64 0) := HRB.out.cell 0
            have r1 : v7.cell? ⟨w.heap.size, 1, none⟩ = some (.int .i64 0) := HRB.out.cell 1
            have r2 : v7.cell? ⟨w.heap.size, 2, none⟩ = some (.int .i64 0) := HRB.out.cell 2
            have r3 : v7.cell? ⟨w.heap.size, 3, none⟩ = some (.int .i64 0) := HRB.out.cell 3
            have r4 : v7.cell? ⟨w.heap.size, 4, none⟩ = some (.string ⟨#[]⟩) := HRB.out.cell 4
            have f0 := HRB.out.free 0
            have f1 := HRB.out.free 1
            have f2 := HRB.out.free 2
            have f3 := HRB.out.free 3
            have f4 := HRB.out.free 4
            have HK := Lib.hid (HRB.out.sets5 (.int .i64 op) (.int .i64 y0) (.int .i64 0) (.int .i64 0) (.string ⟨#[]⟩))
            go_wp2
            have k0 := HK.out.cell 0
            have k1 := HK.out.cell 1
            have k2 := HK.out.cell 2
            have k3 := HK.out.cell 3
            have k4 := HK.out.cell 4
            simp only [List.getElem?_toArray, List.getElem?_cons_zero, List.getElem?_cons_succ] at k0 k1 k2 k3 k4
            refine bodyPost_ret (v := .tuple #[.agg #[.int .i64 op, .int .i64 y0, .int .i64 0, .int .i64 0, .string ⟨#[]⟩], .bool true]) (by simp [results, Tryz.results44, go_sem, k0, k1, k2, k3, k4] <;> rfl) rfl ⟨_, show Ending.returned (.tuple #[.agg (insV ⟨op, y0, 0, 0, []⟩), .bool true]) = _ from (by rw [HF.out]; rfl), fun y hy => (by rw [HF.out] at hy; cases hy; rfl), below_sets5 HB.out w.heap.size (Nat.le_refl _) _ _ _ _ _⟩
        have t5 : (op == 5) = true := by rw [h5n]; rfl
        have HOP := Lib.hid (show (if OPR.idxOf tl < 21 then some (⟨5, (OPR.idxOf tl : Int) + 4, 0, 0, []⟩ : Ins) else none) = R by have h := HOP.out; rw [if_neg (by rw [h5n]; decide), if_pos h5n] at h; exact h)
        have H5 := Lib.hid h5n; clear h5n
        clear gA gB gN gS hV
        obtain ⟨x0, x1, x2, x3, x4⟩ := HX.out.c5
        go_wp2_with fail
        refine (uses_any op h1 h2 _).mono ?_
        rw [HGA.out, HGB.out, HGN.out, HGS.out]
        rintro er w6 ⟨rfl, rfl⟩
        go_wp2_with fail
        refine (operators_any _).mono ?_
        rintro er w7 ⟨rfl, rfl⟩
        clear x0 x1 x2 x3 x4
        have hb7 := (Below.refl w6.heap.size w6).alloc (Nat.le_refl _) (.cells (OPR.map strV).toArray 9)
        have HY := Lib.hid (Bx.new w6 (OPR.map strV).toArray 9)
        have HX := Lib.hid (HX.out.call hb7); have HRB := Lib.hid (HRB.out.call hb7); have HB := Lib.hid (btrans HB.out HB.out.size hb7); clear hb7
        generalize hW : w6.alloc (.cells (OPR.map strV).toArray 9) = v7 at HY HX HRB HB ⊢
        clear hW
        obtain ⟨ox, hox⟩ : ∃ t, plcS OPR tl = t := ⟨_, rfl⟩
        have HOX := Lib.hid hox; clear hox
        obtain ⟨x0, x1, x2, x3, x4⟩ := HX.out.c5
        go_wp2_with fail
        refine (Rplace_any (some ⟨w6.heap.size, 0, none⟩) 21 OPR tl _ (by decide) (strs_of_box HY.out)).mono ?_
        rw [HOX.out]
        rintro er w8 ⟨rfl, hb8⟩
        clear HY
        clear x0 x1 x2 x3 x4
        have HX := Lib.hid (HX.out.call hb8); have HRB := Lib.hid (HRB.out.call hb8); have HB := Lib.hid (btrans HB.out HB.out.size hb8); clear hb8
        by_cases ho : OPR.idxOf tl < 21
        rotate_left
        · have e : ox = -1 := HOX.out.symm.trans (plr_neg ho)
          subst e
          have HNO := Lib.hid ho; clear ho HOX
          have hwo : IntKind.i64.wrap (-1 + 4) = 3 := by rw [IntKind.wrap_i64]; omega
          obtain ⟨x0, x1, x2, x3, x4⟩ := HX.out.c5
          have z1 := HX.out.free 1
          have HX2 := Lib.hid (HX.out.st5_1 (.int .i64 (3))); have HB2 := Lib.hid (below_set HB.out w5.heap.size 1 (Nat.le_of_lt hwx) (.int .i64 (3))); have HR2 := Lib.hid (HRB.out.other (c := w5.heap.size) (i := 1) (by omega) (.int .i64 (3)))
          go_upto_region 13 with (fail)
          clear x0 x1 x2 x3 x4 z1 HX HB HRB
          generalize hWE : w8.setCell ⟨w5.heap.size, 1, none⟩ (.int .i64 (3)) = v8 at HX2 HB2 HR2  ⊢
          clear hWE
          have HX := HX2; have HB := HB2; have HRB := HR2; clear HX2 HB2 HR2
          clear hwo
          have e0 : decide ((4 : Int) ≤ 3) = false := by decide
          have hne : w5.heap.size ≠ w.heap.size := by omega
          have hs0 : Bx w5.heap.size #[.int .i64 op, .int .i64 (3), .int .i64 0, .int .i64 0, .string ⟨#[]⟩] 39 v8.drew := HX.out
          have HS0 := Lib.hid hs0; clear hs0
          go_wp2_with fail
          refine wp_region_held_drew (S := (fun w' => Bx w5.heap.size #[.int .i64 op, .int .i64 (3), .int .i64 0, .int .i64 0, .string ⟨#[]⟩] 39 w')) (by kernel_rfl) ?_ (fun hHeld => ?_)
          · exact HS0.out
          refine takeH (i := 0) (v := ?vv1) 76 rfl rfl (by kernel_rfl) (by kernel_rfl) (by kernel_rfl) (fun _ _ _ h => h) (Or.inl ⟨by kernel_rfl, ?yy1⟩) (by assumption) ?_
          case yy1 =>
            intro wq hSw
            obtain ⟨x0, x1, x2, x3, x4⟩ := hSw.c5
            clear hSw
            go_simp
            (try with_reducible rfl)
          simp only [List.setIfInBounds_toArray, List.set_cons_zero, List.set_cons_succ]
          refine takeH (i := 1) (v := ?vv2) 77 rfl rfl (by kernel_rfl) (by kernel_rfl) (by kernel_rfl) (fun _ _ _ h => h) (Or.inl ⟨by kernel_rfl, ?yy2⟩) (by assumption) ?_
          case yy2 => intro w hSw; (try dsimp only at hSw); go_simp; (try with_reducible rfl)
          simp only [List.setIfInBounds_toArray, List.set_cons_zero, List.set_cons_succ]
          refine takeH (i := 2) (v := ?vv3) 78 rfl rfl (by kernel_rfl) (by kernel_rfl) (by kernel_rfl) (fun _ _ _ h => h) (Or.inl ⟨by kernel_rfl, ?yy3⟩) (by assumption) ?_
          case yy3 =>
            intro wq hSw
            obtain ⟨x0, x1, x2, x3, x4⟩ := hSw.c5
            clear hSw
            go_simp
            (try with_reducible rfl)
          simp only [List.setIfInBounds_toArray, List.set_cons_zero, List.set_cons_succ]
          refine takeH (i := 3) (v := ?vv4) 79 rfl rfl (by kernel_rfl) (by kernel_rfl) (by kernel_rfl) (fun _ _ _ h => h) (Or.inl ⟨by kernel_rfl, ?yy4⟩) (by assumption) ?_
          case yy4 => intro w hSw; (try dsimp only at hSw); go_simp; (try with_reducible rfl)
          simp only [List.setIfInBounds_toArray, List.set_cons_zero, List.set_cons_succ]
          have r0 : v8.cell? ⟨w.heap.size, 0, none⟩ = some (.int .i64 0) := HRB.out.cell 0
          have r1 : v8.cell? ⟨w.heap.size, 1, none⟩ = some (.int .i64 0) := HRB.out.cell 1
          have r2 : v8.cell? ⟨w.heap.size, 2, none⟩ = some (.int .i64 0) := HRB.out.cell 2
          have r3 : v8.cell? ⟨w.heap.size, 3, none⟩ = some (.int .i64 0) := HRB.out.cell 3
          have r4 : v8.cell? ⟨w.heap.size, 4, none⟩ = some (.string ⟨#[]⟩) := HRB.out.cell 4
          have f0 := HRB.out.free 0
          have f1 := HRB.out.free 1
          have f2 := HRB.out.free 2
          have f3 := HRB.out.free 3
          have f4 := HRB.out.free 4
          refine wpAnyH_ready (rs := [4]) (by kernel_rfl) (by simp) ?_
          refine (AllReadyH.cons rfl (fun K hK => ?_) AllReadyH.nil)
          go_simp
          skip
          (try go_wp2_with fail)
          refine hK.out _ _ ?_ (fun hHeld => ?_)
          · exact ((((hHeld.other (by omega) _).other (by omega) _).other (by omega) _).other (by omega) _).other (by omega) _
          clear hK K
          (try simp only [Act.put, List.setIfInBounds_toArray, List.set_cons_zero, List.set_cons_succ])
          refine takeH (i := 5) (v := ?vv5) 5 rfl rfl (by kernel_rfl) (by kernel_rfl) (by kernel_rfl) (fun _ _ _ h => h) (Or.inl ⟨by kernel_rfl, ?yy5⟩) (by assumption) ?_
          case yy5 => intro w hSw; (try dsimp only at hSw); go_simp; (try with_reducible rfl)
          simp only [List.setIfInBounds_toArray, List.set_cons_zero, List.set_cons_succ]
          refine wpAnyH_done (by kernel_rfl) ?_ _
          have HF := Lib.hid (show R = none from HR.out.symm.trans (HR.out.trans (HOP.out.symm.trans (if_neg HNO.out))))
          have HK := Lib.hid (HRB.out.sets5 (.int .i64 op) (.int .i64 (3)) (.int .i64 0) (.int .i64 0) (.string ⟨#[]⟩)); have HBK := Lib.hid (below_sets5 HB.out w.heap.size (Nat.le_refl _) (.int .i64 op) (.int .i64 (3)) (.int .i64 0) (.int .i64 0) (.string ⟨#[]⟩))
          clear r0 r1 r2 r3 r4 f0 f1 f2 f3 f4 hHeld HS0
          generalize hWE : (((((v8.setCell ⟨w.heap.size, 0, none⟩ (.int .i64 op)).setCell ⟨w.heap.size, 1, none⟩ (.int .i64 (3))).setCell ⟨w.heap.size, 2, none⟩ (.int .i64 0)).setCell ⟨w.heap.size, 3, none⟩ (.int .i64 0)).setCell ⟨w.heap.size, 4, none⟩ (.string ⟨#[]⟩)) = WE at HK HBK ⊢
          clear hWE
          go_wp2
          have k0 := HK.out.cell 0
          have k1 := HK.out.cell 1
          have k2 := HK.out.cell 2
          have k3 := HK.out.cell 3
          have k4 := HK.out.cell 4
          simp only [List.getElem?_toArray, List.getElem?_cons_zero, List.getElem?_cons_succ] at k0 k1 k2 k3 k4
          refine bodyPost_ret (v := .tuple #[.agg #[.int .i64 op, .int .i64 (3), .int .i64 0, .int .i64 0, .string ⟨#[]⟩], .bool false]) (by simp [results, Tryz.results44, go_sem, k0, k1, k2, k3, k4]) rfl ⟨_, show Ending.returned (.tuple #[.agg (insV ⟨op, 3, 0, 0, []⟩), .bool false]) = _ from (by rw [HF.out]; rfl), fun y hy => (by rw [HF.out] at hy; cases hy), HBK.out.drew⟩
        obtain ⟨kk, hk2e⟩ : ∃ k, OPR.idxOf tl = k := ⟨_, rfl⟩
        rw [hk2e] at ho HOP
        have e : ox = (kk : Int) := HOX.out.symm.trans (plr_pos hk2e ho)
        subst e
        clear hk2e HOX
        skip
        have hwo : IntKind.i64.wrap ((kk : Int) + 4) = (kk : Int) + 4 := by rw [IntKind.wrap_i64]; omega
        obtain ⟨x0, x1, x2, x3, x4⟩ := HX.out.c5
        have z1 := HX.out.free 1
        have HX2 := Lib.hid (HX.out.st5_1 (.int .i64 ((kk : Int) + 4))); have HB2 := Lib.hid (below_set HB.out w5.heap.size 1 (Nat.le_of_lt hwx) (.int .i64 ((kk : Int) + 4))); have HR2 := Lib.hid (HRB.out.other (c := w5.heap.size) (i := 1) (by omega) (.int .i64 ((kk : Int) + 4)))
        go_upto_region 13 with (fail)
        clear x0 x1 x2 x3 x4 z1 HX HB HRB
        generalize hWE : w8.setCell ⟨w5.heap.size, 1, none⟩ (.int .i64 ((kk : Int) + 4)) = v8 at HX2 HB2 HR2  ⊢
        clear hWE
        have HX := HX2; have HB := HB2; have HRB := HR2; clear HX2 HB2 HR2
        clear hwo
        have e0 : decide ((4 : Int) ≤ (kk : Int) + 4) = true := decide_eq_true (by omega)
        have hne : w5.heap.size ≠ w.heap.size := by omega
        have hs0 : Bx w5.heap.size #[.int .i64 op, .int .i64 ((kk : Int) + 4), .int .i64 0, .int .i64 0, .string ⟨#[]⟩] 39 v8.drew := HX.out
        have HS0 := Lib.hid hs0; clear hs0
        go_wp2_with fail
        refine wp_region_held_drew (S := (fun w' => Bx w5.heap.size #[.int .i64 op, .int .i64 ((kk : Int) + 4), .int .i64 0, .int .i64 0, .string ⟨#[]⟩] 39 w')) (by kernel_rfl) ?_ (fun hHeld => ?_)
        · exact HS0.out
        refine takeH (i := 0) (v := ?vv6) 76 rfl rfl (by kernel_rfl) (by kernel_rfl) (by kernel_rfl) (fun _ _ _ h => h) (Or.inl ⟨by kernel_rfl, ?yy6⟩) (by assumption) ?_
        case yy6 =>
          intro wq hSw
          obtain ⟨x0, x1, x2, x3, x4⟩ := hSw.c5
          clear hSw
          go_simp
          (try with_reducible rfl)
        simp only [List.setIfInBounds_toArray, List.set_cons_zero, List.set_cons_succ]
        refine takeH (i := 1) (v := ?vv7) 77 rfl rfl (by kernel_rfl) (by kernel_rfl) (by kernel_rfl) (fun _ _ _ h => h) (Or.inl ⟨by kernel_rfl, ?yy7⟩) (by assumption) ?_
        case yy7 => intro w hSw; (try dsimp only at hSw); go_simp; (try with_reducible rfl)
        simp only [List.setIfInBounds_toArray, List.set_cons_zero, List.set_cons_succ]
        refine takeH (i := 2) (v := ?vv8) 78 rfl rfl (by kernel_rfl) (by kernel_rfl) (by kernel_rfl) (fun _ _ _ h => h) (Or.inl ⟨by kernel_rfl, ?yy8⟩) (by assumption) ?_
        case yy8 =>
          intro wq hSw
          obtain ⟨x0, x1, x2, x3, x4⟩ := hSw.c5
          clear hSw
          go_simp
          (try with_reducible rfl)
        simp only [List.setIfInBounds_toArray, List.set_cons_zero, List.set_cons_succ]
        refine takeH (i := 3) (v := ?vv9) 79 rfl rfl (by kernel_rfl) (by kernel_rfl) (by kernel_rfl) (fun _ _ _ h => h) (Or.inl ⟨by kernel_rfl, ?yy9⟩) (by assumption) ?_
        case yy9 => intro w hSw; (try dsimp only at hSw); go_simp; (try with_reducible rfl)
        simp only [List.setIfInBounds_toArray, List.set_cons_zero, List.set_cons_succ]
        have r0 : v8.cell? ⟨w.heap.size, 0, none⟩ = some (.int .i64 0) := HRB.out.cell 0
        have r1 : v8.cell? ⟨w.heap.size, 1, none⟩ = some (.int .i64 0) := HRB.out.cell 1
        have r2 : v8.cell? ⟨w.heap.size, 2, none⟩ = some (.int .i64 0) := HRB.out.cell 2
        have r3 : v8.cell? ⟨w.heap.size, 3, none⟩ = some (.int .i64 0) := HRB.out.cell 3
        have r4 : v8.cell? ⟨w.heap.size, 4, none⟩ = some (.string ⟨#[]⟩) := HRB.out.cell 4
        have f0 := HRB.out.free 0
        have f1 := HRB.out.free 1
        have f2 := HRB.out.free 2
        have f3 := HRB.out.free 3
        have f4 := HRB.out.free 4
        refine wpAnyH_ready (rs := [4]) (by kernel_rfl) (by simp) ?_
        refine (AllReadyH.cons rfl (fun K hK => ?_) AllReadyH.nil)
        go_simp
        skip
        (try go_wp2_with fail)
        refine hK.out _ _ ?_ (fun hHeld => ?_)
        · exact ((((hHeld.other (by omega) _).other (by omega) _).other (by omega) _).other (by omega) _).other (by omega) _
        clear hK K
        (try simp only [Act.put, List.setIfInBounds_toArray, List.set_cons_zero, List.set_cons_succ])
        refine takeH (i := 5) (v := ?vv10) 5 rfl rfl (by kernel_rfl) (by kernel_rfl) (by kernel_rfl) (fun _ _ _ h => h) (Or.inl ⟨by kernel_rfl, ?yy10⟩) (by assumption) ?_
        case yy10 => intro w hSw; (try dsimp only at hSw); go_simp; (try with_reducible rfl)
        simp only [List.setIfInBounds_toArray, List.set_cons_zero, List.set_cons_succ]
        refine wpAnyH_done (by kernel_rfl) ?_ _
        have HF := Lib.hid (show R = some ⟨op, (kk : Int) + 4, 0, 0, []⟩ from HR.out.symm.trans (HR.out.trans (HOP.out.symm.trans (by rw [if_pos ho, H5.out]))))
        have HK := Lib.hid (HRB.out.sets5 (.int .i64 op) (.int .i64 ((kk : Int) + 4)) (.int .i64 0) (.int .i64 0) (.string ⟨#[]⟩)); have HBK := Lib.hid (below_sets5 HB.out w.heap.size (Nat.le_refl _) (.int .i64 op) (.int .i64 ((kk : Int) + 4)) (.int .i64 0) (.int .i64 0) (.string ⟨#[]⟩))
        clear r0 r1 r2 r3 r4 f0 f1 f2 f3 f4 hHeld HS0
        generalize hWE : (((((v8.setCell ⟨w.heap.size, 0, none⟩ (.int .i64 op)).setCell ⟨w.heap.size, 1, none⟩ (.int .i64 ((kk : Int) + 4))).setCell ⟨w.heap.size, 2, none⟩ (.int .i64 0)).setCell ⟨w.heap.size, 3, none⟩ (.int .i64 0)).setCell ⟨w.heap.size, 4, none⟩ (.string ⟨#[]⟩)) = WE at HK HBK ⊢
        clear hWE
        go_wp2
        have k0 := HK.out.cell 0
        have k1 := HK.out.cell 1
        have k2 := HK.out.cell 2
        have k3 := HK.out.cell 3
        have k4 := HK.out.cell 4
        simp only [List.getElem?_toArray, List.getElem?_cons_zero, List.getElem?_cons_succ] at k0 k1 k2 k3 k4
        refine bodyPost_ret (v := .tuple #[.agg #[.int .i64 op, .int .i64 ((kk : Int) + 4), .int .i64 0, .int .i64 0, .string ⟨#[]⟩], .bool true]) (by simp [results, Tryz.results44, go_sem, k0, k1, k2, k3, k4]) rfl ⟨_, show Ending.returned (.tuple #[.agg (insV ⟨op, (kk : Int) + 4, 0, 0, []⟩), .bool true]) = _ from (by rw [HF.out]; rfl), fun y hy => (by rw [HF.out] at hy; cases hy; rfl), HBK.out.drew⟩
    · skip
      obtain ⟨hV, gA, gB, gN, gS⟩ := h
      have HGA := Lib.hid gA; have HGB := Lib.hid gB; have HGN := Lib.hid gN; have HGS := Lib.hid gS; have HGV := Lib.hid hV
      have h5n : op ≠ 5 := grp_5 (by simp [gA, gB, gN, gS])
      have t5 : (op == 5) = false := by rw [beq_eq_false_iff_ne]; exact h5n
      have H5 := Lib.hid h5n; clear h5n
      clear gA gB gN gS hV
      cases mo with
      | false =>
        rw [if_pos rfl] at HOP
        obtain ⟨x0, x1, x2, x3, x4⟩ := HX.out.c5
        go_wp2_with fail
        refine (uses_any op h1 h2 _).mono ?_
        rw [HGA.out, HGB.out, HGN.out, HGS.out]
        rintro er w6 ⟨rfl, rfl⟩
        have HF := Lib.hid (show R = some ⟨op, 0, 0, 0, []⟩ from HR.out.symm.trans (HR.out.trans (HOP.out.symm.trans (if_pos HGV.out))))
        have r0 : w6.cell? ⟨w.heap.size, 0, none⟩ = some (.int .i64 0) := HRB.out.cell 0
        have r1 : w6.cell? ⟨w.heap.size, 1, none⟩ = some (.int .i64 0) := HRB.out.cell 1
        have r2 : w6.cell? ⟨w.heap.size, 2, none⟩ = some (.int .i64 0) := HRB.out.cell 2
        have r3 : w6.cell? ⟨w.heap.size, 3, none⟩ = some (.int .i64 0) := HRB.out.cell 3
        have r4 : w6.cell? ⟨w.heap.size, 4, none⟩ = some (.string ⟨#[]⟩) := HRB.out.cell 4
        have f0 := HRB.out.free 0
        have f1 := HRB.out.free 1
        have f2 := HRB.out.free 2
        have f3 := HRB.out.free 3
        have f4 := HRB.out.free 4
        have HK := Lib.hid (HRB.out.sets5 (.int .i64 op) (.int .i64 0) (.int .i64 0) (.int .i64 0) (.string ⟨#[]⟩))
        go_wp2
        have k0 := HK.out.cell 0
        have k1 := HK.out.cell 1
        have k2 := HK.out.cell 2
        have k3 := HK.out.cell 3
        have k4 := HK.out.cell 4
        simp only [List.getElem?_toArray, List.getElem?_cons_zero, List.getElem?_cons_succ] at k0 k1 k2 k3 k4
        refine bodyPost_ret (v := .tuple #[.agg #[.int .i64 op, .int .i64 0, .int .i64 0, .int .i64 0, .string ⟨#[]⟩], .bool true]) (by simp [results, Tryz.results44, go_sem, k0, k1, k2, k3, k4] <;> rfl) rfl ⟨_, show Ending.returned (.tuple #[.agg (insV ⟨op, 0, 0, 0, []⟩), .bool true]) = _ from (by rw [HF.out]; rfl), fun y hy => (by rw [HF.out] at hy; cases hy; rfl), below_sets5 HB.out w.heap.size (Nat.le_refl _) _ _ _ _ _⟩
      | true =>
        rw [if_neg (by simp)] at HOP
        obtain ⟨x0, x1, x2, x3, x4⟩ := HX.out.c5
        go_wp2_with fail
        refine (uses_any op h1 h2 _).mono ?_
        rw [HGA.out, HGB.out, HGN.out, HGS.out]
        rintro er w6 ⟨rfl, rfl⟩
        have HF := Lib.hid (show R = none from HR.out.symm.trans (HR.out.trans (HOP.out.symm.trans (by rw [if_neg (by have h2 := HGS.out; intro e; rw [e] at h2; exact absurd h2 (by decide)), if_neg H5.out]; exact nums_0 HGA.out HGB.out HGN.out tl))))
        have r0 : w6.cell? ⟨w.heap.size, 0, none⟩ = some (.int .i64 0) := HRB.out.cell 0
        have r1 : w6.cell? ⟨w.heap.size, 1, none⟩ = some (.int .i64 0) := HRB.out.cell 1
        have r2 : w6.cell? ⟨w.heap.size, 2, none⟩ = some (.int .i64 0) := HRB.out.cell 2
        have r3 : w6.cell? ⟨w.heap.size, 3, none⟩ = some (.int .i64 0) := HRB.out.cell 3
        have r4 : w6.cell? ⟨w.heap.size, 4, none⟩ = some (.string ⟨#[]⟩) := HRB.out.cell 4
        have f0 := HRB.out.free 0
        have f1 := HRB.out.free 1
        have f2 := HRB.out.free 2
        have f3 := HRB.out.free 3
        have f4 := HRB.out.free 4
        have HK := Lib.hid (HRB.out.sets5 (.int .i64 0) (.int .i64 0) (.int .i64 0) (.int .i64 0) (.string ⟨#[]⟩))
        go_wp2
        have k0 := HK.out.cell 0
        have k1 := HK.out.cell 1
        have k2 := HK.out.cell 2
        have k3 := HK.out.cell 3
        have k4 := HK.out.cell 4
        simp only [List.getElem?_toArray, List.getElem?_cons_zero, List.getElem?_cons_succ] at k0 k1 k2 k3 k4
        refine bodyPost_ret (v := .tuple #[.agg #[.int .i64 0, .int .i64 0, .int .i64 0, .int .i64 0, .string ⟨#[]⟩], .bool false]) (by simp [results, Tryz.results44, go_sem, k0, k1, k2, k3, k4] <;> rfl) rfl ⟨_, show Ending.returned (.tuple #[.agg (insV ins0), .bool false]) = _ from (by rw [HF.out]; rfl), fun y hy => (by rw [HF.out] at hy; cases hy), below_sets5 HB.out w.heap.size (Nat.le_refl _) _ _ _ _ _⟩
end Go.Proofs.YtkmmdkklpbafdaaGreatDoor

namespace Go.Proofs.YtkmmdkklpbafdaaGreatDoor
open Go.RowKit

theorem num1_rp {s : List UInt8} {N : List Int} {g : Bool} (h : numR 1 [] s true = (N, g)) : (g = true → N = [(parseS s).1] ∧ (parseS s).2 = 0) ∧ (g = false → (parseS s).2 ≠ 0) := by
  obtain ⟨⟨w, r, m⟩, hc⟩ : ∃ c, cutX 32 s = c := ⟨_, rfl⟩
  obtain ⟨⟨v, e⟩, hp⟩ : ∃ t, parseS w = t := ⟨_, rfl⟩
  have hno : (parseS s).2 = 0 → (32 : UInt8) ∉ s := by
    intro h0
    have := itoa_parse s (parseS s).1 (Prod.ext rfl h0)
    rw [← this]
    exact itoa_no ⟨by decide, by decide⟩
  by_cases he : e = 0
  · rw [numR_go hc hp he] at h
    have h1 : [v] = N := congrArg Prod.fst h
    have h2 : (!m) = g := congrArg Prod.snd h
    have q := idx_cut 32 s
    rw [hc] at q
    cases m with
    | false =>
      have hw : w = s := congrArg Prod.fst (q.1 rfl).2
      refine ⟨fun _ => ⟨by rw [← h1, ← hw, hp], by rw [← hw, hp]; exact he⟩, fun hg => by rw [hg] at h2; simp at h2⟩
    | true =>
      refine ⟨fun hg => by rw [hg] at h2; simp at h2, fun _ h0 => hno h0 ?_⟩
      rw [(q.2 rfl).2]; simp
  · rw [numR_bad hc hp he] at h
    have h2 : false = g := congrArg Prod.snd h
    refine ⟨fun hg => by rw [hg] at h2; simp at h2, fun _ h0 => ?_⟩
    have q := cut_none s (hno h0)
    rw [hc] at q
    have hw : w = s := congrArg Prod.fst q
    rw [← hw, hp] at h0
    exact he h0
theorem pre6 {q : List UInt8} : ([115, 108, 111, 116, 115, 32] : List UInt8).isPrefixOf q = true ↔ q.take 6 = [115, 108, 111, 116, 115, 32] := by
  rw [List.isPrefixOf_iff_prefix, List.prefix_iff_eq_take]
  exact ⟨fun h => h.symm, fun h => h.symm⟩
theorem chop_mem {L : List (List UInt8)} {q : List UInt8} (h : q ∈ chop L) : q ∈ L := by
  unfold chop at h
  split at h
  · exact List.dropLast_subset _ h
  · exact h
theorem chop_len (L : List (List UInt8)) : (chop L).length ≤ L.length := by
  unfold chop
  split
  · rw [List.length_dropLast]; omega
  · exact Nat.le_refl _
theorem row_box {W : World} {B : Nat} {v : Value} {L : List (List UInt8)} (h : W.ownsRow B 9 1 v L.length (L.map strV)) (hne : L ≠ []) :
    ∃ g cap cs, v = .slice (some ⟨g, 0, none⟩) L.length cap ∧ B ≤ g ∧ L.length ≤ cap ∧ Bx g cs 9 W ∧ ∀ k (_ : k < L.length), cs[k]? = some (.string (bs L[k])) := by
  rcases own_form h with ⟨_, h0⟩ | ⟨g, cap, e1, hc, hg⟩
  · exact absurd (List.eq_nil_of_length_eq_zero h0) hne
  rcases id h.2 with ⟨h1, _⟩ | ⟨g3, c2, cur, h1, _, h3, _⟩
  · rw [e1] at h1; cases h1
  · rw [e1] at h1
    cases h1
    have hX : Bx g cur 9 W := h3
    refine ⟨g, cap, cur, e1, hg, hc, hX, fun k hk => ?_⟩
    have := h.cells (g := g) (by rw [e1]; rfl) k (strV L[k]) (by simp [hk])
    have e : (⟨g, 0, none⟩ : Addr).add k = ⟨g, 0 + k, none⟩ := by unfold Addr.add; split <;> simp_all
    rw [e, Nat.zero_add, hX.cell k] at this
    exact this
/-- a row of another type stands, whatever is stored into a box -/
theorem own_st {B k n : Nat} {e T : TypeId} {v : Value} {xs : List Value} {w : World} {b : Nat} {cs : Array Value} (h : w.ownsRow B e k v n xs) (hb : Bx b cs T w) (hT : T ≠ e) (i : Nat) (u : Value) : (w.setCell ⟨b, i, none⟩ u).ownsRow B e k v n xs := by
  refine h.kept (grown_set w ⟨b, i, none⟩ u) ?_
  cases hv : v.ownBlock with
  | none => exact .inl rfl
  | some g2 =>
    refine .inr (fun q => ?_)
    have hq : g2 = b := by simpa using q
    rcases own_form h with ⟨rfl, _⟩ | ⟨g, cap, rfl, _, _⟩
    · simp [Value.ownBlock] at hv
    · have hgg : g = g2 := by simpa [Value.ownBlock] using hv
      exact own_other h hb hT (hgg.trans hq)
theorem lin_mem {s q : List UInt8} (h : q ∈ linS s) : q.length ≤ s.length := splX_mem_len 10 s q (chop_mem h)
theorem lin_len (s : List UInt8) : (linS s).length ≤ s.length + 1 := Nat.le_trans (chop_len _) (splX_len 10 s)
theorem parC_lin (s : List UInt8) : parC s = parL (linS s) := rfl
theorem parL_n {p q : List UInt8} {t : List (List UInt8)} (h : (parP p).2 = true) (h2 : ([115, 108, 111, 116, 115, 32] : List UInt8).isPrefixOf q = true → (parseS (q.drop 6)).2 ≠ 0) : parL (p :: q :: t) = (cd0, 2, 5) := parL_s h (fun x => h2 x.1 x.2)

set_option maxRecDepth 100000 in
set_option maxHeartbeats 32000000 in
theorem RParse16_any (s : List UInt8) (w : World) (hs : s.length ≤ 90000) :
    Calls Tryz.prog 18 #[.string (bs s)] w fun e w' => ∃ pa pc ia ic, e = .returned (.tuple #[.agg #[.slice pa (parC s).1.p.length pc, .int .i64 (parC s).1.sl, .slice ia (parC s).1.l.length ic], .int .i64 (parC s).2.1, .int .i64 (parC s).2.2]) ∧ CellsAt w' (.slice pa (parC s).1.p.length pc) (parC s).1.p.length (intsL (parC s).1.p) ∧ CellsAt w' (.slice ia (parC s).1.l.length ic) (parC s).1.l.length (insLs (parC s).1.l) ∧ Below w.heap.size w w' := by
  obtain ⟨L, hL⟩ : ∃ L, linS s = L := ⟨_, rfl⟩
  have hll := lin_len s
  have hlm : ∀ q ∈ linS s, q.length ≤ 90000 := fun q hq => Nat.le_trans (lin_mem hq) hs
  rw [hL] at hll hlm
  obtain ⟨⟨RC, RN, RE⟩, hR⟩ : ∃ R, parL L = R := ⟨_, rfl⟩
  rw [parC_lin, hL, hR]
  have HL := Lib.hid hL; have HR := Lib.hid hR; have HML := Lib.hid hlm; clear hL hR hlm
  have hll : L.length ≤ 90001 := by omega
  obtain ⟨v0, hW0, hb0, hr0⟩ := boxes1 w #[.slice none 0 0, .int .i64 0, .slice none 0 0] 25
  have HW := Lib.hid hW0; have HB := Lib.hid hb0; have HRB := Lib.hid hr0; clear hW0 hb0 hr0
  go_enter Tryz.func18, Tryz.ntmps18
  go_upto_region 1 with (fail)
  rw [HW.out]
  clear HW
  go_wp2_with fail
  refine (Rlines_any s (by omega) _).mono ?_
  rw [HL.out]
  rintro er w1 ⟨lv, rfl, hlo, hb1⟩
  have HRB := Lib.hid (HRB.out.call hb1); have HB := Lib.hid (btrans HB.out HB.out.size hb1); clear hb1
  have HLO := Lib.hid hlo; clear hlo
  rcases L with _ | ⟨p, C2⟩
  · obtain ⟨la, lc, rfl⟩ := own_sl HLO.out
    have t0 : (((([] : List (List UInt8)).length : Nat) : Int) == 0) = true := rfl
    simp only [List.length_nil] at t0 ⊢
    have hF : (cd0, (1 : Int), (5 : Int)) = (RC, RN, RE) := ((rfl : parL [] = (cd0, 1, 5))).symm.trans HR.out
    have hf1 : RC = cd0 := (congrArg Prod.fst hF).symm
    have hf2 : RN = 1 := (congrArg (fun x => x.2.1) hF).symm
    have hf3 : RE = 5 := (congrArg (fun x => x.2.2) hF).symm
    have HF1 := Lib.hid hf1; have HF2 := Lib.hid hf2; have HF3 := Lib.hid hf3; clear hF hf1 hf2 hf3
    have r0 : w1.cell? ⟨w.heap.size, 0, none⟩ = some (.slice none 0 0) := HRB.out.cell 0
    have r1 : w1.cell? ⟨w.heap.size, 1, none⟩ = some (.int .i64 0) := HRB.out.cell 1
    have r2 : w1.cell? ⟨w.heap.size, 2, none⟩ = some (.slice none 0 0) := HRB.out.cell 2
    have f0 := HRB.out.free 0
    have f1 := HRB.out.free 1
    have f2 := HRB.out.free 2
    have HK := Lib.hid (HRB.out.sets3 (.slice none 0 0) (.int .i64 0) (.slice none 0 0))
    go_wp2
    have k0 := HK.out.cell 0
    have k1 := HK.out.cell 1
    have k2 := HK.out.cell 2
    simp only [List.getElem?_toArray, List.getElem?_cons_zero, List.getElem?_cons_succ] at k0 k1 k2
    refine bodyPost_ret (v := .tuple #[.agg #[.slice none 0 0, .int .i64 0, .slice none 0 0], .int .i64 (1), .int .i64 (5)]) (by simp [results, Tryz.results18, go_sem, k0, k1, k2] <;> rfl) rfl ⟨none, 0, none, 0, ?_⟩
    refine ⟨by rw [HF1.out, HF2.out, HF3.out] <;> rfl, by rw [HF1.out]; exact ⟨none, 0, rfl, fun h => absurd rfl h⟩, by rw [HF1.out]; exact ⟨none, 0, rfl, fun h => absurd rfl h⟩, below_sets3 HB.out w.heap.size (Nat.le_refl _) _ _ _⟩
  obtain ⟨lb, lcap, cs, rfl, hlb, hlc, hY, hcs⟩ := row_box HLO.out (by simp)
  have HY := Lib.hid hY; have HCS := Lib.hid hcs; clear hY hcs HLO
  skip
  have t0 : (((C2.length : Int) + 1) == 0) = false := by rw [beq_eq_false_iff_ne]; omega
  have p0 : w1.cell? ⟨lb, 0, none⟩ = some (.string (bs p)) := (HY.out.cell 0).trans (HCS.out 0 (by simp))
  simp only [List.length_cons] at hll hlc ⊢
  have hpos : (0 : Int) < (C2.length : Int) + 1 := by omega
  have hpl := HML.out p (by simp)
  obtain ⟨⟨P, pk⟩, hpp⟩ : ∃ R, parP p = R := ⟨_, rfl⟩
  have HPP := Lib.hid hpp; clear hpp
  go_wp2_with fail
  refine (Rparams_any p (by omega) _).mono ?_
  rw [HPP.out]
  rintro er w3 ⟨pv, rfl, hop, hpn, hb3⟩
  simp only at hop hpn
  clear p0
  have HOP := Lib.hid hop; have HRB := Lib.hid (HRB.out.call hb3); have HY := Lib.hid (HY.out.call hb3); have HB := Lib.hid (btrans HB.out HB.out.size hb3); clear hb3 hop
  obtain ⟨pa, pc, rfl⟩ := own_sl HOP.out
  cases pk with
  | false =>
    have hF : (cd0, (1 : Int), (5 : Int)) = (RC, RN, RE) := (parL_p (by rw [HPP.out])).symm.trans HR.out
    have hf1 : RC = cd0 := (congrArg Prod.fst hF).symm
    have hf2 : RN = 1 := (congrArg (fun x => x.2.1) hF).symm
    have hf3 : RE = 5 := (congrArg (fun x => x.2.2) hF).symm
    have HF1 := Lib.hid hf1; have HF2 := Lib.hid hf2; have HF3 := Lib.hid hf3; clear hF hf1 hf2 hf3
    have r0 : w3.cell? ⟨w.heap.size, 0, none⟩ = some (.slice none 0 0) := HRB.out.cell 0
    have r1 : w3.cell? ⟨w.heap.size, 1, none⟩ = some (.int .i64 0) := HRB.out.cell 1
    have r2 : w3.cell? ⟨w.heap.size, 2, none⟩ = some (.slice none 0 0) := HRB.out.cell 2
    have f0 := HRB.out.free 0
    have f1 := HRB.out.free 1
    have f2 := HRB.out.free 2
    have HK := Lib.hid (HRB.out.sets3 (.slice none 0 0) (.int .i64 0) (.slice none 0 0))
    go_wp2
    have k0 := HK.out.cell 0
    have k1 := HK.out.cell 1
    have k2 := HK.out.cell 2
    simp only [List.getElem?_toArray, List.getElem?_cons_zero, List.getElem?_cons_succ] at k0 k1 k2
    refine bodyPost_ret (v := .tuple #[.agg #[.slice none 0 0, .int .i64 0, .slice none 0 0], .int .i64 (1), .int .i64 (5)]) (by simp [results, Tryz.results18, go_sem, k0, k1, k2] <;> rfl) rfl ⟨none, 0, none, 0, ?_⟩
    refine ⟨by rw [HF1.out, HF2.out, HF3.out] <;> rfl, by rw [HF1.out]; exact ⟨none, 0, rfl, fun h => absurd rfl h⟩, by rw [HF1.out]; exact ⟨none, 0, rfl, fun h => absurd rfl h⟩, below_sets3 HB.out w.heap.size (Nat.le_refl _) _ _ _⟩
  | true =>
    rcases C2 with _ | ⟨q, t⟩
    · have t1 : (((([] : List (List UInt8)).length : Int) + 1) == 1) = true := rfl
      simp only [List.length_nil] at t0 t1 hll hlc ⊢
      have hF : (cd0, (2 : Int), (5 : Int)) = (RC, RN, RE) := (parL_1 (by rw [HPP.out])).symm.trans HR.out
      have hf1 : RC = cd0 := (congrArg Prod.fst hF).symm
      have hf2 : RN = 2 := (congrArg (fun x => x.2.1) hF).symm
      have hf3 : RE = 5 := (congrArg (fun x => x.2.2) hF).symm
      have HF1 := Lib.hid hf1; have HF2 := Lib.hid hf2; have HF3 := Lib.hid hf3; clear hF hf1 hf2 hf3
      have r0 : w3.cell? ⟨w.heap.size, 0, none⟩ = some (.slice none 0 0) := HRB.out.cell 0
      have r1 : w3.cell? ⟨w.heap.size, 1, none⟩ = some (.int .i64 0) := HRB.out.cell 1
      have r2 : w3.cell? ⟨w.heap.size, 2, none⟩ = some (.slice none 0 0) := HRB.out.cell 2
      have f0 := HRB.out.free 0
      have f1 := HRB.out.free 1
      have f2 := HRB.out.free 2
      have HK := Lib.hid (HRB.out.sets3 (.slice none 0 0) (.int .i64 0) (.slice none 0 0))
      go_wp2
      have k0 := HK.out.cell 0
      have k1 := HK.out.cell 1
      have k2 := HK.out.cell 2
      simp only [List.getElem?_toArray, List.getElem?_cons_zero, List.getElem?_cons_succ] at k0 k1 k2
      refine bodyPost_ret (v := .tuple #[.agg #[.slice none 0 0, .int .i64 0, .slice none 0 0], .int .i64 (2), .int .i64 (5)]) (by simp [results, Tryz.results18, go_sem, k0, k1, k2] <;> rfl) rfl ⟨none, 0, none, 0, ?_⟩
      refine ⟨by rw [HF1.out, HF2.out, HF3.out] <;> rfl, by rw [HF1.out]; exact ⟨none, 0, rfl, fun h => absurd rfl h⟩, by rw [HF1.out]; exact ⟨none, 0, rfl, fun h => absurd rfl h⟩, below_sets3 HB.out w.heap.size (Nat.le_refl _) _ _ _⟩
    have t1 : (((t.length : Int) + 1 + 1) == 1) = false := by rw [beq_eq_false_iff_ne]; omega
    have p1 : w3.cell? ⟨lb, 1, none⟩ = some (.string (bs q)) := (HY.out.cell 1).trans (HCS.out 1 (by simp))
    simp only [List.length_cons] at t0 hll hlc ⊢
    have hpos1 : (1 : Int) < (t.length : Int) + 1 + 1 := by omega
    have hql := HML.out q (by simp)
    by_cases h6 : q.length < 6
    · have h6' : (q.length : Int) < 6 := by omega
      have HQN := Lib.hid (show [115, 108, 111, 116, 115, 32].isPrefixOf q = true → (parseS (q.drop 6)).2 ≠ 0 from fun h => absurd (congrArg List.length (pre6.1 h)) (by rw [List.length_take]; show min 6 _ ≠ 6; omega))
      have hF : (cd0, (2 : Int), (5 : Int)) = (RC, RN, RE) := (parL_n (by rw [HPP.out]) HQN.out).symm.trans HR.out
      have hf1 : RC = cd0 := (congrArg Prod.fst hF).symm
      have hf2 : RN = 2 := (congrArg (fun x => x.2.1) hF).symm
      have hf3 : RE = 5 := (congrArg (fun x => x.2.2) hF).symm
      have HF1 := Lib.hid hf1; have HF2 := Lib.hid hf2; have HF3 := Lib.hid hf3; clear hF hf1 hf2 hf3
      have r0 : w3.cell? ⟨w.heap.size, 0, none⟩ = some (.slice none 0 0) := HRB.out.cell 0
      have r1 : w3.cell? ⟨w.heap.size, 1, none⟩ = some (.int .i64 0) := HRB.out.cell 1
      have r2 : w3.cell? ⟨w.heap.size, 2, none⟩ = some (.slice none 0 0) := HRB.out.cell 2
      have f0 := HRB.out.free 0
      have f1 := HRB.out.free 1
      have f2 := HRB.out.free 2
      have HK := Lib.hid (HRB.out.sets3 (.slice none 0 0) (.int .i64 0) (.slice none 0 0))
      go_wp2
      have k0 := HK.out.cell 0
      have k1 := HK.out.cell 1
      have k2 := HK.out.cell 2
      simp only [List.getElem?_toArray, List.getElem?_cons_zero, List.getElem?_cons_succ] at k0 k1 k2
      refine bodyPost_ret (v := .tuple #[.agg #[.slice none 0 0, .int .i64 0, .slice none 0 0], .int .i64 (2), .int .i64 (5)]) (by simp [results, Tryz.results18, go_sem, k0, k1, k2] <;> rfl) rfl ⟨none, 0, none, 0, ?_⟩
      refine ⟨by rw [HF1.out, HF2.out, HF3.out] <;> rfl, by rw [HF1.out]; exact ⟨none, 0, rfl, fun h => absurd rfl h⟩, by rw [HF1.out]; exact ⟨none, 0, rfl, fun h => absurd rfl h⟩, below_sets3 HB.out w.heap.size (Nat.le_refl _) _ _ _⟩
    have h6' : ¬ (q.length : Int) < 6 := by omega
    have h60 : (6 : Int) ≤ (q.length : Int) := by omega
    have h61 : 6 ≤ q.length := by omega
    obtain ⟨q6, hq6⟩ : ∃ t, q.take 6 = t := ⟨_, rfl⟩
    have HQ6 := Lib.hid hq6
    by_cases hsl : q.take 6 = [115, 108, 111, 116, 115, 32]
    rotate_left
    · have t2 : (q.take 6 == [115, 108, 111, 116, 115, 32]) = false := by rw [beq_eq_false_iff_ne]; exact hsl
      have HQN := Lib.hid (show [115, 108, 111, 116, 115, 32].isPrefixOf q = true → (parseS (q.drop 6)).2 ≠ 0 from fun h => absurd (pre6.1 h) hsl)
      clear hsl hq6
      have hF : (cd0, (2 : Int), (5 : Int)) = (RC, RN, RE) := (parL_n (by rw [HPP.out]) HQN.out).symm.trans HR.out
      have hf1 : RC = cd0 := (congrArg Prod.fst hF).symm
      have hf2 : RN = 2 := (congrArg (fun x => x.2.1) hF).symm
      have hf3 : RE = 5 := (congrArg (fun x => x.2.2) hF).symm
      have HF1 := Lib.hid hf1; have HF2 := Lib.hid hf2; have HF3 := Lib.hid hf3; clear hF hf1 hf2 hf3
      have r0 : w3.cell? ⟨w.heap.size, 0, none⟩ = some (.slice none 0 0) := HRB.out.cell 0
      have r1 : w3.cell? ⟨w.heap.size, 1, none⟩ = some (.int .i64 0) := HRB.out.cell 1
      have r2 : w3.cell? ⟨w.heap.size, 2, none⟩ = some (.slice none 0 0) := HRB.out.cell 2
      have f0 := HRB.out.free 0
      have f1 := HRB.out.free 1
      have f2 := HRB.out.free 2
      have HK := Lib.hid (HRB.out.sets3 (.slice none 0 0) (.int .i64 0) (.slice none 0 0))
      go_wp2
      have k0 := HK.out.cell 0
      have k1 := HK.out.cell 1
      have k2 := HK.out.cell 2
      simp only [List.getElem?_toArray, List.getElem?_cons_zero, List.getElem?_cons_succ] at k0 k1 k2
      refine bodyPost_ret (v := .tuple #[.agg #[.slice none 0 0, .int .i64 0, .slice none 0 0], .int .i64 (2), .int .i64 (5)]) (by simp [results, Tryz.results18, go_sem, k0, k1, k2] <;> rfl) rfl ⟨none, 0, none, 0, ?_⟩
      refine ⟨by rw [HF1.out, HF2.out, HF3.out] <;> rfl, by rw [HF1.out]; exact ⟨none, 0, rfl, fun h => absurd rfl h⟩, by rw [HF1.out]; exact ⟨none, 0, rfl, fun h => absurd rfl h⟩, below_sets3 HB.out w.heap.size (Nat.le_refl _) _ _ _⟩
    have t2 : (q.take 6 == [115, 108, 111, 116, 115, 32]) = true := by rw [hsl]; rfl
    have HIB := Lib.hid (pre6.2 hsl)
    clear hsl hq6
    obtain ⟨wd, hwd⟩ : ∃ r, q.drop 6 = r := ⟨_, rfl⟩
    have hwl : wd.length ≤ 90000 := by rw [← hwd, List.length_drop]; omega
    have HWD := Lib.hid hwd
    obtain ⟨⟨N, g⟩, hN⟩ : ∃ r, numR 1 [] wd true = r := ⟨_, rfl⟩
    have HN := Lib.hid hN; clear hN
    go_wp2_with fail
    (try rw [hwd])
    clear hwd
    refine (Rnumbers_any wd 1 (by decide) (by omega) _).mono ?_
    rw [HN.out]
    rintro er w5 ⟨nv, rfl, hno, hb5⟩
    simp only at hno
    have HNO := Lib.hid hno
    clear hno p1 t2
    have HOP := Lib.hid (own_below HOP.out hb5); have HRB := Lib.hid (HRB.out.call hb5); have HY := Lib.hid (HY.out.call hb5); have HB := Lib.hid (btrans HB.out HB.out.size hb5); clear hb5
    cases g with
    | false =>
      have HQN := Lib.hid (show [115, 108, 111, 116, 115, 32].isPrefixOf q = true → (parseS (q.drop 6)).2 ≠ 0 from fun _ => by rw [HWD.out]; exact (num1_rp HN.out).2 rfl)
      have hF : (cd0, (2 : Int), (5 : Int)) = (RC, RN, RE) := (parL_n (by rw [HPP.out]) HQN.out).symm.trans HR.out
      have hf1 : RC = cd0 := (congrArg Prod.fst hF).symm
      have hf2 : RN = 2 := (congrArg (fun x => x.2.1) hF).symm
      have hf3 : RE = 5 := (congrArg (fun x => x.2.2) hF).symm
      have HF1 := Lib.hid hf1; have HF2 := Lib.hid hf2; have HF3 := Lib.hid hf3; clear hF hf1 hf2 hf3
      have r0 : w5.cell? ⟨w.heap.size, 0, none⟩ = some (.slice none 0 0) := HRB.out.cell 0
      have r1 : w5.cell? ⟨w.heap.size, 1, none⟩ = some (.int .i64 0) := HRB.out.cell 1
      have r2 : w5.cell? ⟨w.heap.size, 2, none⟩ = some (.slice none 0 0) := HRB.out.cell 2
      have f0 := HRB.out.free 0
      have f1 := HRB.out.free 1
      have f2 := HRB.out.free 2
      have HK := Lib.hid (HRB.out.sets3 (.slice none 0 0) (.int .i64 0) (.slice none 0 0))
      go_wp2
      have k0 := HK.out.cell 0
      have k1 := HK.out.cell 1
      have k2 := HK.out.cell 2
      simp only [List.getElem?_toArray, List.getElem?_cons_zero, List.getElem?_cons_succ] at k0 k1 k2
      refine bodyPost_ret (v := .tuple #[.agg #[.slice none 0 0, .int .i64 0, .slice none 0 0], .int .i64 (2), .int .i64 (5)]) (by simp [results, Tryz.results18, go_sem, k0, k1, k2] <;> rfl) rfl ⟨none, 0, none, 0, ?_⟩
      refine ⟨by rw [HF1.out, HF2.out, HF3.out] <;> rfl, by rw [HF1.out]; exact ⟨none, 0, rfl, fun h => absurd rfl h⟩, by rw [HF1.out]; exact ⟨none, 0, rfl, fun h => absurd rfl h⟩, below_sets3 HB.out w.heap.size (Nat.le_refl _) _ _ _⟩
    | true =>
      obtain ⟨⟨sv, se⟩, hse⟩ : ∃ r, parseS wd = r := ⟨_, rfl⟩
      have hn1 := (num1_rp HN.out).1 rfl
      rw [hse] at hn1
      obtain ⟨hn1, hn2⟩ := hn1
      simp only at hn1 hn2
      subst hn1 hn2
      have HSE := Lib.hid (show parseS (q.drop 6) = (sv, 0) by rw [HWD.out, hse]); clear hse
      obtain ⟨nb, nc, rfl, hnc, _, hcl⟩ := num_row (HNO.out rfl) (by simp)
      have p2 : w5.cell? ⟨nb, 0, none⟩ = some (.int .i64 sv) := hcl 0 (by simp)
      clear hcl HNO
      simp only [List.length_cons, List.length_nil] at hnc ⊢
      have hrb := HRB.out.lt
      have hlbl := HY.out.lt
      have hal := (Below.refl w5.heap.size w5).alloc (Nat.le_refl _) (.cells #[.slice pa P.length pc, .int .i64 sv, .slice none 0 0] 25)
      have HCB := Lib.hid (Bx.new w5 #[.slice pa P.length pc, .int .i64 sv, .slice none 0 0] 25); have HRB := Lib.hid (HRB.out.call hal); have HY := Lib.hid (HY.out.call hal); have HOP := Lib.hid (own_below HOP.out hal); have HB := Lib.hid (btrans HB.out HB.out.size hal); clear hal
      obtain ⟨cb, hcb⟩ : ∃ b, w5.heap.size = b := ⟨_, rfl⟩
      go_upto_region 13 with (fail)
      generalize hW : w5.alloc (.cells #[.slice pa P.length pc, .int .i64 sv, .slice none 0 0] 25) = v5 at HCB HRB HY HOP HB ⊢
      clear hW p2
      rw [hcb] at HCB hrb hlbl
      (try rw [hcb])
      clear hcb
      obtain ⟨⟨D, g⟩, hg⟩ : ∃ R, linG [] 0 t = R := ⟨_, rfl⟩
      have HQ0 := Lib.hid (show linG [] 0 (t.drop 0) = (D, g) from hg); have HG := Lib.hid hg; clear hg
      have HZ := Lib.hid (own_nil v5 (cb + 1) 39 5)
      have HA0 := Lib.hid (show ∀ x ∈ ([] : List Ins), x.s.length ≤ 100000 from fun x hx => by simp at hx)
      have hPl : P.length ≤ 90000 := by omega
      clear t0 t1 hpos hpos1 hpl hql hwl hpn h6 h6' h60 h61
      go_wp2
      go_loopw [10] (fun i wr => ∃ (k : Nat) (A : List Ins) (iv : Value), k ≤ t.length ∧ i = .int .i64 ((k : Int) + 2) ∧ A.length = k ∧ Hid (linG A k (t.drop k) = (D, g)) ∧ Hid (∀ x ∈ A, x.s.length ≤ 100000) ∧ Hid (Bx cb #[.slice pa P.length pc, .int .i64 sv, iv] 25 wr) ∧ Hid (Bx w.heap.size #[.slice none 0 0, .int .i64 0, .slice none 0 0] 25 wr) ∧ Hid (Bx lb cs 9 wr) ∧ Hid (wr.ownsRow w1.heap.size 3 1 (.slice pa P.length pc) P.length (intsL P)) ∧ Hid (wr.ownsRow (cb + 1) 39 5 iv A.length (insLs A)) ∧ Below w.heap.size w wr) (fun i _ => t.length + 2 - (intOf i).toNat)
      case atStart => exact ⟨0, [], _, Nat.zero_le _, rfl, rfl, HQ0, HA0, HCB, HRB, HY, HOP, HZ, HB.out⟩
      case round =>
        clear HQ0 HA0 HCB HRB HY HOP HZ HB
        obtain ⟨k, A, iv, hk, rfl, hAk, HQ, HA, HCB, HRB, HY, HOP, HO, hB2⟩ := hrel
        have HB := Lib.hid hB2; clear hB2
        have hAl : A.length ≤ 90000 := by omega
        have HAK := Lib.hid hAk; clear hAk
        by_cases hlt : k < t.length
        · have hlt' : (k : Int) + 2 < (t.length : Int) + 1 + 1 := by omega
          have hlt0 : (0 : Int) ≤ (k : Int) + 2 := by omega
          have hw1 : IntKind.i64.wrap ((k : Int) + 2 + 1) = (k : Int) + 3 := by rw [IntKind.wrap_i64]; omega
          have hw3 : IntKind.i64.wrap ((k : Int) + 2 - 2) = (k : Int) := by rw [IntKind.wrap_i64]; omega
          have hnn : ((k : Int) + 2).toNat = k + 2 := by omega
          have p2 : wr.cell? ⟨lb, k + 2, none⟩ = some (.string (bs t[k])) := (HY.out.cell (k + 2)).trans (HCS.out (k + 2) (by simp only [List.length_cons]; omega))
          obtain ⟨ln, hln⟩ : ∃ x, t[k] = x := ⟨_, rfl⟩
          have hlnl := HML.out t[k] (List.mem_cons_of_mem _ (List.mem_cons_of_mem _ (List.getElem_mem hlt)))
          rw [hln] at p2 hlnl
          have HLN := Lib.hid hln; clear hln
          obtain ⟨R2, hR2⟩ : ∃ r, insP k ln = r := ⟨_, rfl⟩
          have HR2 := Lib.hid hR2; clear hR2
          go_wp2_with fail
          refine (Rinstr_any k ln _ (by omega) (by omega)).mono ?_
          rw [HR2.out]
          rintro er w6 ⟨⟨xop, xa, xb, xn, xs⟩, rfl, hXX, hb6⟩
          simp only [insV]
          clear p2
          have HXX := Lib.hid hXX; have HCB := Lib.hid (HCB.out.call hb6); have HRB := Lib.hid (HRB.out.call hb6); have HY := Lib.hid (HY.out.call hb6); have HOP := Lib.hid (own_below HOP.out hb6); have HO := Lib.hid (own_below HO.out hb6); have HB := Lib.hid (btrans HB.out HB.out.size hb6); clear hb6 hXX
          have hal := (Below.refl w6.heap.size w6).alloc (Nat.le_refl _) (.cells #[.int .i64 xop, .int .i64 xa, .int .i64 xb, .int .i64 xn, .string (bs xs)] 39)
          have HX := Lib.hid (Bx.new w6 #[.int .i64 xop, .int .i64 xa, .int .i64 xb, .int .i64 xn, .string (bs xs)] 39)
          have HCB := Lib.hid (HCB.out.call hal); have HRB := Lib.hid (HRB.out.call hal); have HY := Lib.hid (HY.out.call hal); have HOP := Lib.hid (own_below HOP.out hal); have HO := Lib.hid (own_below HO.out hal); have HB := Lib.hid (btrans HB.out HB.out.size hal); clear hal
          go_upto_region 17 with (fail)
          generalize hW : w6.alloc (.cells #[.int .i64 xop, .int .i64 xa, .int .i64 xb, .int .i64 xn, .string (bs xs)] 39) = v6 at HX HCB HRB HY HOP HO HB ⊢
          clear hW
          cases R2 with
          | none =>
            simp only [Option.isSome_none]
            have hgk : g = some k := (congrArg Prod.snd ((linG_no (A := A) hlt (by rw [HLN.out]; exact HR2.out)).symm.trans HQ.out)).symm
            have HGK := Lib.hid hgk; clear hgk
            have hF : (cd0, ((k : Int) + 3 : Int), (5 : Int)) = (RC, RN, RE) := (parL_l (by rw [HPP.out]) HIB.out (by rw [HSE.out]) (by rw [HG.out]; exact HGK.out)).symm.trans HR.out
            have hf1 : RC = cd0 := (congrArg Prod.fst hF).symm
            have hf2 : RN = (k : Int) + 3 := (congrArg (fun x => x.2.1) hF).symm
            have hf3 : RE = 5 := (congrArg (fun x => x.2.2) hF).symm
            have HF1 := Lib.hid hf1; have HF2 := Lib.hid hf2; have HF3 := Lib.hid hf3; clear hF hf1 hf2 hf3
            have r0 : v6.cell? ⟨w.heap.size, 0, none⟩ = some (.slice none 0 0) := HRB.out.cell 0
            have r1 : v6.cell? ⟨w.heap.size, 1, none⟩ = some (.int .i64 0) := HRB.out.cell 1
            have r2 : v6.cell? ⟨w.heap.size, 2, none⟩ = some (.slice none 0 0) := HRB.out.cell 2
            have f0 := HRB.out.free 0
            have f1 := HRB.out.free 1
            have f2 := HRB.out.free 2
            have HK := Lib.hid (HRB.out.sets3 (.slice none 0 0) (.int .i64 0) (.slice none 0 0))
            go_wp2
            have k0 := HK.out.cell 0
            have k1 := HK.out.cell 1
            have k2 := HK.out.cell 2
            simp only [List.getElem?_toArray, List.getElem?_cons_zero, List.getElem?_cons_succ] at k0 k1 k2
            refine bodyPost_ret (v := .tuple #[.agg #[.slice none 0 0, .int .i64 0, .slice none 0 0], .int .i64 ((k : Int) + 3), .int .i64 (5)]) (by simp [results, Tryz.results18, go_sem, k0, k1, k2] <;> rfl) rfl ⟨none, 0, none, 0, ?_⟩
            refine ⟨by rw [HF1.out, HF2.out, HF3.out] <;> rfl, by rw [HF1.out]; exact ⟨none, 0, rfl, fun h => absurd rfl h⟩, by rw [HF1.out]; exact ⟨none, 0, rfl, fun h => absurd rfl h⟩, below_sets3 HB.out w.heap.size (Nat.le_refl _) _ _ _⟩
          | some y =>
            simp only [Option.isSome_some]
            have hxy := HXX.out y rfl
            have HN2 := Lib.hid ((linG_go (A := A) hlt (by rw [HLN.out]; exact HR2.out)).symm.trans HQ.out)
            have HYL := Lib.hid (insP_len (by omega) HR2.out)
            have HA2 := Lib.hid (show ∀ x ∈ A ++ [y], x.s.length ≤ 100000 from fun x hx => by
              rcases List.mem_append.1 hx with hx | hx
              · exact HA.out x hx
              · rw [List.mem_singleton] at hx; rw [hx]; exact HYL.out)
            have HXY := Lib.hid hxy; clear hxy
            obtain ⟨x0, x1, x2, x3, x4⟩ := HX.out.c5
            obtain ⟨c0, c1, c2⟩ := HCB.out.c3
            have hcv := HCB.out.lt
            go_wp2_with (at_builtin; refine wpList_append_ins rfl _ _ rfl (cb + 1) _ A ⟨xop, xa, xb, xn, xs⟩ HO.out rfl rfl (by omega) w w.heap.size HB.out (by omega) (by omega) ?_; intro v5 w7 hown5 hb5 hg5; obtain ⟨va, vc, rfl⟩ := own_sl hown5; have HCB := Lib.hid (HCB.out.grown hg5 HO.out (by decide)); have HRB := Lib.hid (HRB.out.grown hg5 HO.out (by decide)); have HY := Lib.hid (HY.out.grown hg5 HO.out (by decide)); have HOP := Lib.hid (own_grown HOP.out hg5 HO.out (by decide)); have HB := Lib.hid hb5; have HO := Lib.hid hown5; clear hg5 hb5 hown5 c0 c1 c2 x0 x1 x2 x3 x4; have c0 : w7.cell? ⟨cb, 0, none⟩ = some (.slice pa P.length pc) := HCB.out.cell 0; have c1 : w7.cell? ⟨cb, 1, none⟩ = some (.int .i64 sv) := HCB.out.cell 1; have c2 : w7.cell? ⟨cb, 2, none⟩ = some iv := HCB.out.cell 2; have z2 := HCB.out.free 2)
            refine ⟨?_, ?measure⟩
            · (repeat apply Exists.intro)
              refine ⟨?rel, rfl⟩
              exact ⟨k + 1, A ++ [y], _, by omega, by go_num, by rw [List.length_append, HAK.out]; rfl, HN2, HA2, Lib.hid (HCB.out.st3_2 _), Lib.hid (HRB.out.other (by omega) _), Lib.hid (HY.out.other (by omega) _), Lib.hid (own_st HOP.out HCB.out (by decide) 2 _), Lib.hid (by rw [← HXY.out]; have h := own_set HO.out cb 2 (by omega) (.slice va (A.length + 1) vc); rw [List.length_append] at h ⊢; exact h), below_set HB.out cb 2 (by omega) _⟩
            · simp [intOf]; omega
        · have hlt' : ¬ (k : Int) + 2 < (t.length : Int) + 1 + 1 := by omega
          have hT2 : (A, none) = (D, g) := (linG_end (A := A) hlt).symm.trans HQ.out
          have h1 : D = A := (congrArg Prod.fst hT2).symm
          have h2 : g = none := (congrArg Prod.snd hT2).symm
          have HGA := Lib.hid (show linG [] 0 t = (A, none) by rw [HG.out, h1, h2])
          clear hT2 h1 h2 HQ
          obtain ⟨ia, ic, rfl⟩ := own_sl HO.out
          obtain ⟨V, hV⟩ : ∃ V, valC ⟨P, sv, A⟩ = V := ⟨_, rfl⟩
          have HV := Lib.hid hV; clear hV
          obtain ⟨c0, c1, c2⟩ := HCB.out.c3
          go_wp2_with fail
          refine (RValidate_any pa ia pc ic P sv A _ (own_intAt HOP.out) (own_insAt HO.out) (by omega) (fun x hx => (by have := HA.out x hx; omega))).mono ?_
          rw [HV.out]
          rintro er w8 ⟨rfl, hb8⟩
          clear c0 c1 c2
          have HCB := Lib.hid (HCB.out.call hb8); have HRB := Lib.hid (HRB.out.call hb8); have HOP := Lib.hid (own_below HOP.out hb8); have HO := Lib.hid (own_below HO.out hb8); have HB := Lib.hid (btrans HB.out HB.out.size hb8); clear hb8
          have HPV := Lib.hid (parL_v (t := t) HPP.out HIB.out HSE.out HGA.out HV.out)
          by_cases e0 : V = 0
          rotate_left
          · have t0 : (V != 0) = true := by rw [bne_iff_ne]; exact e0
            have HPV := Lib.hid (HPV.out.trans (if_neg e0))
            clear e0
            have hF : (cd0, (0 : Int), (V : Int)) = (RC, RN, RE) := (HPV.out).symm.trans HR.out
            have hf1 : RC = cd0 := (congrArg Prod.fst hF).symm
            have hf2 : RN = 0 := (congrArg (fun x => x.2.1) hF).symm
            have hf3 : RE = V := (congrArg (fun x => x.2.2) hF).symm
            have HF1 := Lib.hid hf1; have HF2 := Lib.hid hf2; have HF3 := Lib.hid hf3; clear hF hf1 hf2 hf3
            have r0 : w8.cell? ⟨w.heap.size, 0, none⟩ = some (.slice none 0 0) := HRB.out.cell 0
            have r1 : w8.cell? ⟨w.heap.size, 1, none⟩ = some (.int .i64 0) := HRB.out.cell 1
            have r2 : w8.cell? ⟨w.heap.size, 2, none⟩ = some (.slice none 0 0) := HRB.out.cell 2
            have f0 := HRB.out.free 0
            have f1 := HRB.out.free 1
            have f2 := HRB.out.free 2
            have HK := Lib.hid (HRB.out.sets3 (.slice none 0 0) (.int .i64 0) (.slice none 0 0))
            go_wp2
            have k0 := HK.out.cell 0
            have k1 := HK.out.cell 1
            have k2 := HK.out.cell 2
            simp only [List.getElem?_toArray, List.getElem?_cons_zero, List.getElem?_cons_succ] at k0 k1 k2
            refine bodyPost_ret (v := .tuple #[.agg #[.slice none 0 0, .int .i64 0, .slice none 0 0], .int .i64 (0), .int .i64 (V)]) (by simp [results, Tryz.results18, go_sem, k0, k1, k2] <;> rfl) rfl ⟨none, 0, none, 0, ?_⟩
            refine ⟨by rw [HF1.out, HF2.out, HF3.out] <;> rfl, by rw [HF1.out]; exact ⟨none, 0, rfl, fun h => absurd rfl h⟩, by rw [HF1.out]; exact ⟨none, 0, rfl, fun h => absurd rfl h⟩, below_sets3 HB.out w.heap.size (Nat.le_refl _) _ _ _⟩
          have t0 : (V != 0) = false := by rw [e0]; rfl
          have HPV := Lib.hid (HPV.out.trans (if_pos e0))
          clear e0
          obtain ⟨c0, c1, c2⟩ := HCB.out.c3
          have hF : ((⟨P, sv, A⟩ : Cd), (0 : Int), (0 : Int)) = (RC, RN, RE) := (HPV.out).symm.trans HR.out
          have hf1 : RC = (⟨P, sv, A⟩ : Cd) := (congrArg Prod.fst hF).symm
          have hf2 : RN = 0 := (congrArg (fun x => x.2.1) hF).symm
          have hf3 : RE = 0 := (congrArg (fun x => x.2.2) hF).symm
          have HF1 := Lib.hid hf1; have HF2 := Lib.hid hf2; have HF3 := Lib.hid hf3; clear hF hf1 hf2 hf3
          have r0 : w8.cell? ⟨w.heap.size, 0, none⟩ = some (.slice none 0 0) := HRB.out.cell 0
          have r1 : w8.cell? ⟨w.heap.size, 1, none⟩ = some (.int .i64 0) := HRB.out.cell 1
          have r2 : w8.cell? ⟨w.heap.size, 2, none⟩ = some (.slice none 0 0) := HRB.out.cell 2
          have f0 := HRB.out.free 0
          have f1 := HRB.out.free 1
          have f2 := HRB.out.free 2
          have HK := Lib.hid (HRB.out.sets3 (.slice pa P.length pc) (.int .i64 sv) (.slice ia A.length ic))
          go_wp2
          have k0 := HK.out.cell 0
          have k1 := HK.out.cell 1
          have k2 := HK.out.cell 2
          simp only [List.getElem?_toArray, List.getElem?_cons_zero, List.getElem?_cons_succ] at k0 k1 k2
          refine bodyPost_ret (v := .tuple #[.agg #[.slice pa P.length pc, .int .i64 sv, .slice ia A.length ic], .int .i64 (0), .int .i64 (0)]) (by simp [results, Tryz.results18, go_sem, k0, k1, k2] <;> rfl) rfl ⟨pa, pc, ia, ic, ?_⟩
          refine ⟨by rw [HF1.out, HF2.out, HF3.out] <;> rfl, by rw [HF1.out]; exact own_intAt (own_st (own_st (own_st HOP.out HRB.out (by decide) 0 _) (HRB.out.set 0 _) (by decide) 1 _) ((HRB.out.set 0 _).set 1 _) (by decide) 2 _), by rw [HF1.out]; exact own_insAt (own_set (own_set (own_set HO.out w.heap.size 0 (by omega) _) w.heap.size 1 (by omega) _) w.heap.size 2 (by omega) _), below_sets3 HB.out w.heap.size (Nat.le_refl _) _ _ _⟩
end Go.Proofs.YtkmmdkklpbafdaaGreatDoor

namespace Go.Proofs.YtkmmdkklpbafdaaGreatDoor
open Go.RowKit

theorem cd_len {s : List UInt8} {P : List Int} {sl n e : Int} {l : List Ins} (h : parC s = (⟨P, sl, l⟩, n, e)) : P.length ≤ 100000 ∧ l.length ≤ 100000 := by
  by_cases e0 : e = 0
  · subst e0
    obtain ⟨h1, hsl, _, hpl, _⟩ := valC_parts (par_valid h).1
    simp only at h1 hsl hpl
    omega
  · have := par_err h e0
    have h1 : P = [] := congrArg Cd.p this
    have h2 : l = [] := congrArg Cd.l this
    rw [h1, h2]; simp

set_option maxRecDepth 100000 in
set_option maxHeartbeats 16000000 in
theorem parsesWalk16 (s : List UInt8) (_ : s.length ≤ 140737488351232) (w : World) (hB : LaidB w) :
    Calls Tryz.prog 5 #[.string (bs s)] w fun e w' => e = .returned (.bool true) ∧ Below w.heap.size w w' := by
  have HLB := Lib.hid hB; clear hB
  have HB := Lib.hid (Below.refl w.heap.size w)
  by_cases h15 : (1500 : Int) < (s.length : Int)
  · go_enter Tryz.func5, Tryz.ntmps5
    go_wp2_with fail
    refine (lives16 _ (HLB.out.below HB.out)).mono ?_
    rintro er wl1 ⟨rfl, hbl⟩
    have HB := Lib.hid (btrans HB.out HB.out.size hbl)
    go_wp2
    go_ret
    exact ⟨rfl, HB.out⟩
  have hs15 : s.length ≤ 1500 := by omega
  obtain ⟨⟨⟨P, sl, l⟩, n, e⟩, hp⟩ : ∃ r, parC s = r := ⟨_, rfl⟩
  obtain ⟨hpl, hll⟩ := cd_len hp
  have HP := Lib.hid hp; clear hp
  go_enter Tryz.func5, Tryz.ntmps5
  go_wp2_with fail
  refine (CParse_any s _ (by omega) (HLB.out.below HB.out)).mono ?_
  rw [HP.out]
  rintro er w1 ⟨pa, pc, ia, ic, rfl, hq1, hq2, hb1⟩
  simp only at hq1 hq2
  have HB := Lib.hid (btrans HB.out HB.out.size hb1); clear hb1
  have hal := (Below.refl w1.heap.size w1).alloc (Nat.le_refl _) (.cells #[.slice pa P.length pc, .int .i64 sl, .slice ia l.length ic] 25)
  have HC := Lib.hid (Bx.new w1 #[.slice pa P.length pc, .int .i64 sl, .slice ia l.length ic] 25)
  have HPA := Lib.hid (hq1.below hal); have HIA := Lib.hid (hq2.below hal); have HB := Lib.hid (btrans HB.out HB.out.size hal); clear hq1 hq2 hal
  go_upto_region 4 with (fail)
  generalize hW : w1.alloc (.cells #[.slice pa P.length pc, .int .i64 sl, .slice ia l.length ic] 25) = v1 at HC HPA HIA HB ⊢
  clear hW
  go_wp2_with fail
  refine (RParse16_any s _ (by omega)).mono ?_
  rw [HP.out]
  rintro er w4 ⟨qa, qc, ja, jc, rfl, hq1, hq2, hb4⟩
  simp only at hq1 hq2
  have HC := Lib.hid (HC.out.call hb4); have HPA := Lib.hid (HPA.out.below hb4); have HIA := Lib.hid (HIA.out.below hb4); have HB := Lib.hid (btrans HB.out HB.out.size hb4); clear hb4
  have hb5 := (Below.refl w4.heap.size w4).alloc (Nat.le_refl _) (.cells #[.slice qa P.length qc, .int .i64 sl, .slice ja l.length jc] 25)
  have HD := Lib.hid (Bx.new w4 #[.slice qa P.length qc, .int .i64 sl, .slice ja l.length jc] 25)
  have HQ1 := Lib.hid (hq1.below hb5); have HQ2 := Lib.hid (hq2.below hb5); clear hq1 hq2
  have HC := Lib.hid (HC.out.call hb5); have HPA := Lib.hid (HPA.out.below hb5); have HIA := Lib.hid (HIA.out.below hb5); have HB := Lib.hid (btrans HB.out HB.out.size hb5); clear hb5
  go_upto_region 5 with (fail)
  generalize hW : w4.alloc (.cells #[.slice qa P.length qc, .int .i64 sl, .slice ja l.length jc] 25) = v4 at HD HQ1 HQ2 HC HPA HIA HB ⊢
  clear hW
  obtain ⟨c0, c1, c2⟩ := HC.out.c3
  obtain ⟨d0, d1, d2⟩ := HD.out.c3
  have tn : (n == n) = true := beq_self_eq_true n
  have te : (e == e) = true := beq_self_eq_true e
  go_wp2_with fail
  refine (REqual_any pa ia qa ja pc ic qc jc P P sl sl l l _ HPA.out HIA.out HQ1.out HQ2.out (by omega) (by omega)).mono ?_
  rw [decide_eq_true rfl]
  rintro er w6 ⟨rfl, hb7⟩
  clear c0 c1 c2 d0 d1 d2
  have HB := Lib.hid (btrans HB.out HB.out.size hb7); clear hb7
  go_wp2_with fail
  refine (lives16 _ (HLB.out.below HB.out)).mono ?_
  rintro er wl3 ⟨rfl, hbl⟩
  have HB := Lib.hid (btrans HB.out HB.out.size hbl)
  go_wp2
  go_ret
  exact ⟨rfl, HB.out⟩
end Go.Proofs.YtkmmdkklpbafdaaGreatDoor

