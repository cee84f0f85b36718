/- What Parse of layer 1 (num) returns. The library's error value is as the program's start lays it (Laid). -/
import Derived.Test.YtkmmdkklpbafdaaGreatDoorNumParse
namespace Go.Proofs.YtkmmdkklpbafdaaGreatDoor
open Go.RowKit

theorem bytesWorld_below' (w : World) (t : ByteArray) : Below w.heap.size w (Lib.bytesWorld w 5 t) := Lib.bytesWorld_below _ _ _
theorem below_or {w w' : World} (h : w' = w ∨ ∃ t, w' = Lib.bytesWorld w 5 t) : Below w.heap.size w w' := by
  rcases h with rfl | ⟨t, rfl⟩
  · exact Below.refl _ _
  · exact bytesWorld_below' _ _
theorem PIok (l : List UInt8) (w : World) (hl : l.length ≤ 9223372036854775806) (v : Int) (h : Lib.parseIntB 64 l = .ok v) :
    Calls Tryz.prog 68 #[.string (bs l), .int .i64 10, .int .i64 64] w fun e w' => e = .returned (.tuple #[.int .i64 v, .nilIface]) ∧ Below w.heap.size w w' :=
  (Tryz.strconv_ParseInt_10_at64_ok (bs l) (by rw [bs_size]; exact hl) v (by rw [toList_bs]; exact h) w).mono fun _ _ h => ⟨h.1, below_or h.2⟩
def IfaceErr (w : World) (e : Ending) (w' : World) : Prop := ∃ v t p, e = .returned (.tuple #[.int .i64 v, .iface t (.pointer (some p))]) ∧ Below w.heap.size w w'
theorem PIrange (l : List UInt8) (w : World) (hl : l.length ≤ 281474976710656) (h : Lib.parseIntB 64 l = .range) (hL : Laid w) :
    Calls Tryz.prog 68 #[.string (bs l), .int .i64 10, .int .i64 64] w (IfaceErr w) := by
  obtain ⟨_, tp, p, hv⟩ := hL
  exact (Tryz.strconv_ParseInt_10_at64_range_var (bs l) (by rw [bs_size]; exact hl) (by rw [toList_bs]; exact h) tp p w hv).mono fun _ _ ⟨N, h1, _, _, h4⟩ => ⟨_, _, _, h1, h4⟩

theorem not_canon_at {r : List UInt8} (k : Nat) (hk : k < r.length) (h : ¬ (48 ≤ r[k].toNat ∧ r[k].toNat ≤ 57)) : canon r = false :=
  canon_bad k hk (by rw [Bool.eq_false_iff]; intro h2; exact h ((isDig_iff _).1 h2))
theorem head_eq {r : List UInt8} (h : 0 < r.length) : r.head? = some r[0] := by
  cases r with
  | nil => simp at h
  | cons c t => rfl
theorem canon_zero {r : List UInt8} (hall : r.all isDig = true) (h0 : 0 < r.length) (h48 : r[0] = 48) (h1 : 1 < r.length) : canon r = false := by
  rw [canon_mk hall (by intro h; rw [h] at h0; simp at h0), head_eq h0, h48]
  have : (r.length == 1) = false := by rw [beq_eq_false_iff_ne]; omega
  rw [this]; rfl
theorem canon_one {r : List UInt8} (hall : r.all isDig = true) (h1 : r.length = 1) : canon r = true := by
  rw [canon_mk hall (by intro h; rw [h] at h1; simp at h1), h1]; simp
theorem canon_head {r : List UInt8} (hall : r.all isDig = true) (h0 : 0 < r.length) (h48 : r[0] ≠ 48) : canon r = true := by
  rw [canon_mk hall (by intro h; rw [h] at h0; simp at h0), head_eq h0]; simp [h48]
theorem byte_eq {c : UInt8} {n : Nat} (hn : n < 256) : ((c.toNat : Int) == (n : Int)) = true ↔ c = UInt8.ofNat n := by
  rw [beq_iff_eq, ← UInt8.toNat_inj, UInt8.toNat_ofNat']
  omega
theorem is48 {c : UInt8} (h : c = 48) : ((c.toNat : Int) == 48) = true := by rw [h]; rfl
set_option maxRecDepth 100000 in
theorem not48 {c : UInt8} (h : c ≠ 48) : ((c.toNat : Int) == 48) = false := by
  rw [beq_eq_false_iff_ne]
  intro e
  apply h
  rw [← UInt8.toNat_inj]
  have : (48 : UInt8).toNat = 48 := rfl
  omega
theorem one_48 {r : List UInt8} (h1 : r.length = 1) (h : r[0] = 48) : r = [48] := by
  match r, h1 with
  | [c], _ => simp at h; rw [h]

set_option maxRecDepth 100000 in
set_option maxHeartbeats 4000000 in
theorem Parse_neg (r : List UInt8) (w : World) (hl : r.length + 1 ≤ 281474976710656) (hL : Laid w) :
    Calls Tryz.prog 37 #[.string (bs (45 :: r))] w fun e w' => e = .returned (.tuple #[.int .i64 (parseS (45 :: r)).1, .int .i64 (parseS (45 :: r)).2]) ∧ Below w.heap.size w w' := by
  have hll : (45 :: r).length ≤ 281474976710656 := by simpa using hl
  go_enter Tryz.func37, Tryz.ntmps37
  go_wp2
  go_step3
  go_wp2
  go_step3
  go_wp2
  go_loop [6] (fun n => ∃ k : Nat, k ≤ r.length ∧ n = .int .i64 k ∧ Hid ((r.take k).all isDig = true)) (fun n => r.length - (intOf n).toNat)
  case atStart => exact ⟨0, Nat.zero_le _, rfl, Lib.hid rfl⟩
  case round =>
    obtain ⟨k, hk, rfl, HA⟩ := hrel
    by_cases hlt : k < r.length
    · have hlt' : (k : Int) < (r.length : Int) := by omega
      by_cases hd : 48 ≤ r[k].toNat ∧ r[k].toNat ≤ 57
      · obtain ⟨d1, d2⟩ := hd
        have e1 : (48 : Int) ≤ (r[k].toNat : Int) := by omega
        have e2 : (r[k].toNat : Int) ≤ 57 := by omega
        have HA2 : Hid ((r.take (k + 1)).all isDig = true) := Lib.hid (by
          rw [ltake_snoc r k hlt, List.all_append, HA.out]
          have : isDig r[k] = true := (isDig_iff _).2 ⟨d1, d2⟩
          simp [this])
        go_wp2
        go_round
        case rel => exact ⟨k + 1, by omega, by go_num, HA2⟩
        case measure => simp [intOf]; omega
      · have hcf := not_canon_at k hlt hd
        have HF := Lib.hid (show parseS (45 :: r) = (0, 5) from parse_bad (by first | (rw [good_neg r, hcf]; done) | (rw [good_neg r, hcf]; rfl) | (rw [good_neg r, hcf]; simp)))
        have hd' : (r[k].toNat : Int) < 48 ∨ (57 : Int) < (r[k].toNat : Int) := by omega
        clear hcf hd
        by_cases hk0 : k = 0
        · have t0 : ((k : Int) == 0) = true := by rw [hk0]; rfl
          clear hk0
          rcases hd' with e1 | e1
          all_goals
            (try have e2 : (48 : Int) ≤ (r[k].toNat : Int) := by omega)
            go_wp2
            go_ret2
            exact ⟨by rw [HF.out]; rfl, Below.refl _ _⟩
        · have t0 : ((k : Int) == 0) = false := by rw [beq_eq_false_iff_ne]; omega
          clear hk0
          rcases hd' with e1 | e1
          all_goals
            (try have e2 : (48 : Int) ≤ (r[k].toNat : Int) := by omega)
            go_wp2
            go_ret2
            exact ⟨by rw [HF.out]; rfl, Below.refl _ _⟩
    · have hkl : k = r.length := by omega
      have hall := HA.out
      rw [ltake_all r hlt] at hall
      have hnl : ¬ (k : Int) < (r.length : Int) := by omega
      by_cases hk0 : k = 0
      · have t0 : ((k : Int) == 0) = true := by rw [hk0]; rfl
        have hr0 : r = [] := List.eq_nil_of_length_eq_zero (by omega)
        have HF := Lib.hid (show parseS (45 :: r) = (0, 5) from parse_bad (by first | (rw [good_neg r, hr0]; done) | (rw [good_neg r, hr0]; rfl) | (rw [good_neg r, hr0]; simp [canon_nil])))
        clear hk0 hr0 hkl hall
        go_wp2
        go_ret2
        exact ⟨by rw [HF.out]; rfl, Below.refl _ _⟩
      · have t0 : ((k : Int) == 0) = false := by rw [beq_eq_false_iff_ne]; omega
        have hpos : 0 < r.length := by omega
        have hpos' : (0 : Int) < (r.length : Int) := by omega
        by_cases h48 : r[0] = 48
        · have t1 := is48 h48
          by_cases h1 : 1 < r.length
          · have HF := Lib.hid (show parseS (45 :: r) = (0, 5) from parse_bad (by first | (rw [good_neg r, canon_zero hall hpos h48 h1]; done) | (rw [good_neg r, canon_zero hall hpos h48 h1]; rfl)))
            have t2 : (1 : Int) < (k : Int) := by omega
            clear hk0 hkl hall h48
            go_wp2
            go_ret2
            exact ⟨by rw [HF.out]; rfl, Below.refl _ _⟩
          · have t2 : ¬ (1 : Int) < (k : Int) := by omega
            have hr1 : r.length = 1 := by omega
            have HF := Lib.hid (show parseS (45 :: r) = (0, 5) from parse_bad (by rw [good_neg, one_48 hr1 h48]; simp))
            clear hk0 hkl hall h48
            go_wp2
            go_ret2
            exact ⟨by rw [HF.out]; rfl, Below.refl _ _⟩
        · have t1 := not48 h48
          have hcn := canon_head hall hpos h48
          have hgood : good (45 :: r) = true := by rw [good_neg, hcn]; exact show (true && !(r == [48])) = true by rw [show (r == [48]) = false by (rw [beq_eq_false_iff_ne]; intro h; apply h48; simp [h])]; rfl
          have hpi := parseInt_good hgood
          have hps := parse_tail hgood
          clear hk0 hkl hall h48 hcn
          by_cases hfit : fits (sval (45 :: r)) = true
          · rw [if_pos hfit] at hpi
            have HP := Lib.hid hpi
            have HF := Lib.hid (parse_fit hgood hfit)
            clear hpi hps hgood hfit
            go_wp2_with (go_at_call 68; refine (PIok _ _ (by omega) _ HP.out).mono ?_; rintro e w1 ⟨rfl, hb1⟩)
            (try rw [Exit.noGoto_ret])
            go_ret2
            exact ⟨by rw [HF.out]; rfl, hb1⟩
          · have hfit' : fits (sval (45 :: r)) = false := by simpa using hfit
            rw [if_neg hfit] at hpi
            have HP := Lib.hid hpi
            have HF := Lib.hid (parse_over hgood hfit')
            clear hpi hps hgood hfit hfit'
            go_wp2_with (go_at_call 68; refine (PIrange _ _ (by omega) HP.out hL).mono ?_; rintro e w1 ⟨v1, t1, p1, rfl, hb1⟩)
            (try rw [Exit.noGoto_ret])
            go_ret2
            exact ⟨by rw [HF.out]; rfl, hb1⟩

set_option maxRecDepth 100000 in
set_option maxHeartbeats 4000000 in
theorem Parse_pos (r : List UInt8) (w : World) (hl : r.length ≤ 281474976710656) (hL : Laid w) (h0 : 0 < r.length) (h45 : r[0] ≠ 45) :
    Calls Tryz.prog 37 #[.string (bs r)] w fun e w' => e = .returned (.tuple #[.int .i64 (parseS r).1, .int .i64 (parseS r).2]) ∧ Below w.heap.size w w' := by
  have hm : minus r = false := by unfold minus; rw [head_eq h0]; simp [h45]
  have hgd := good_of' hm
  have hg0 : ((r[0].toNat : Int) == 45) = false := by
    rw [beq_eq_false_iff_ne]
    intro e
    apply h45
    rw [← UInt8.toNat_inj]
    have h45' : (45 : UInt8).toNat = 45 := rfl
    omega
  have hp0 : (0 : Int) < (r.length : Int) := by omega
  have HGD := Lib.hid hgd
  clear hm hgd h45
  go_enter Tryz.func37, Tryz.ntmps37
  go_wp2
  go_step3
  go_wp2
  go_step3
  go_wp2
  go_loop [6] (fun n => ∃ k : Nat, k ≤ r.length ∧ n = .int .i64 k ∧ Hid ((r.take k).all isDig = true)) (fun n => r.length - (intOf n).toNat)
  case atStart => exact ⟨0, Nat.zero_le _, rfl, Lib.hid rfl⟩
  case round =>
    obtain ⟨k, hk, rfl, HA⟩ := hrel
    by_cases hlt : k < r.length
    · have hlt' : (k : Int) < (r.length : Int) := by omega
      by_cases hd : 48 ≤ r[k].toNat ∧ r[k].toNat ≤ 57
      · obtain ⟨d1, d2⟩ := hd
        have e1 : (48 : Int) ≤ (r[k].toNat : Int) := by omega
        have e2 : (r[k].toNat : Int) ≤ 57 := by omega
        have HA2 : Hid ((r.take (k + 1)).all isDig = true) := Lib.hid (by
          rw [ltake_snoc r k hlt, List.all_append, HA.out]
          have : isDig r[k] = true := (isDig_iff _).2 ⟨d1, d2⟩
          simp [this])
        go_wp2
        go_round
        case rel => exact ⟨k + 1, by omega, by go_num, HA2⟩
        case measure => simp [intOf]; omega
      · have hcf := not_canon_at k hlt hd
        have HF := Lib.hid (show parseS r = (0, 5) from parse_bad (by first | (rw [HGD.out, hcf]; done) | (rw [HGD.out, hcf]; rfl) | (rw [HGD.out, hcf]; simp)))
        have hd' : (r[k].toNat : Int) < 48 ∨ (57 : Int) < (r[k].toNat : Int) := by omega
        clear hcf hd
        by_cases hk0 : k = 0
        · have t0 : ((k : Int) == 0) = true := by rw [hk0]; rfl
          clear hk0
          rcases hd' with e1 | e1
          all_goals
            (try have e2 : (48 : Int) ≤ (r[k].toNat : Int) := by omega)
            go_wp2
            go_ret2
            exact ⟨by rw [HF.out]; rfl, Below.refl _ _⟩
        · have t0 : ((k : Int) == 0) = false := by rw [beq_eq_false_iff_ne]; omega
          clear hk0
          rcases hd' with e1 | e1
          all_goals
            (try have e2 : (48 : Int) ≤ (r[k].toNat : Int) := by omega)
            go_wp2
            go_ret2
            exact ⟨by rw [HF.out]; rfl, Below.refl _ _⟩
    · have hkl : k = r.length := by omega
      have hall := HA.out
      rw [ltake_all r hlt] at hall
      have hnl : ¬ (k : Int) < (r.length : Int) := by omega
      by_cases hk0 : k = 0
      · have t0 : ((k : Int) == 0) = true := by rw [hk0]; rfl
        have hr0 : r = [] := List.eq_nil_of_length_eq_zero (by omega)
        have HF := Lib.hid (show parseS r = (0, 5) from parse_bad (by first | (rw [HGD.out, hr0]; done) | (rw [HGD.out, hr0]; rfl) | (rw [HGD.out, hr0]; simp [canon_nil])))
        clear hk0 hr0 hkl hall
        go_wp2
        go_ret2
        exact ⟨by rw [HF.out]; rfl, Below.refl _ _⟩
      · have t0 : ((k : Int) == 0) = false := by rw [beq_eq_false_iff_ne]; omega
        have hpos : 0 < r.length := by omega
        have hpos' : (0 : Int) < (r.length : Int) := by omega
        by_cases h48 : r[0] = 48
        · have t1 := is48 h48
          by_cases h1 : 1 < r.length
          · have HF := Lib.hid (show parseS r = (0, 5) from parse_bad (by first | (rw [HGD.out, canon_zero hall hpos h48 h1]; done) | (rw [HGD.out, canon_zero hall hpos h48 h1]; rfl)))
            have t2 : (1 : Int) < (k : Int) := by omega
            clear hk0 hkl hall h48
            go_wp2
            go_ret2
            exact ⟨by rw [HF.out]; rfl, Below.refl _ _⟩
          · have t2 : ¬ (1 : Int) < (k : Int) := by omega
            have hr1 : r.length = 1 := by omega
            have hcn := canon_one hall hr1
            have hgood : good r = true := by rw [HGD.out, hcn]
            have hpi := parseInt_good hgood
            have hps := parse_tail hgood
            clear hk0 hkl hall h48 hcn hr1
            by_cases hfit : fits (sval r) = true
            · rw [if_pos hfit] at hpi
              have HP := Lib.hid hpi
              have HF := Lib.hid (parse_fit hgood hfit)
              clear hpi hps hgood hfit
              go_wp2_with (go_at_call 68; refine (PIok _ _ (by omega) _ HP.out).mono ?_; rintro e w1 ⟨rfl, hb1⟩)
              (try rw [Exit.noGoto_ret])
              go_ret2
              exact ⟨by rw [HF.out]; rfl, hb1⟩
            · have hfit' : fits (sval r) = false := by simpa using hfit
              rw [if_neg hfit] at hpi
              have HP := Lib.hid hpi
              have HF := Lib.hid (parse_over hgood hfit')
              clear hpi hps hgood hfit hfit'
              go_wp2_with (go_at_call 68; refine (PIrange _ _ (by omega) HP.out hL).mono ?_; rintro e w1 ⟨v1, t1, p1, rfl, hb1⟩)
              (try rw [Exit.noGoto_ret])
              go_ret2
              exact ⟨by rw [HF.out]; rfl, hb1⟩
        · have t1 := not48 h48
          have hcn := canon_head hall hpos h48
          have hgood : good r = true := by rw [HGD.out, hcn]
          have hpi := parseInt_good hgood
          have hps := parse_tail hgood
          clear hk0 hkl hall h48 hcn
          by_cases hfit : fits (sval r) = true
          · rw [if_pos hfit] at hpi
            have HP := Lib.hid hpi
            have HF := Lib.hid (parse_fit hgood hfit)
            clear hpi hps hgood hfit
            go_wp2_with (go_at_call 68; refine (PIok _ _ (by omega) _ HP.out).mono ?_; rintro e w1 ⟨rfl, hb1⟩)
            (try rw [Exit.noGoto_ret])
            go_ret2
            exact ⟨by rw [HF.out]; rfl, hb1⟩
          · have hfit' : fits (sval r) = false := by simpa using hfit
            rw [if_neg hfit] at hpi
            have HP := Lib.hid hpi
            have HF := Lib.hid (parse_over hgood hfit')
            clear hpi hps hgood hfit hfit'
            go_wp2_with (go_at_call 68; refine (PIrange _ _ (by omega) HP.out hL).mono ?_; rintro e w1 ⟨v1, t1, p1, rfl, hb1⟩)
            (try rw [Exit.noGoto_ret])
            go_ret2
            exact ⟨by rw [HF.out]; rfl, hb1⟩

set_option maxRecDepth 100000 in
set_option maxHeartbeats 2000000 in
theorem Parse_any (l : List UInt8) (w : World) (hl : l.length ≤ 281474976710656) (hL : Laid w) :
    Calls Tryz.prog 37 #[.string (bs l)] w fun e w' => e = .returned (.tuple #[.int .i64 (parseS l).1, .int .i64 (parseS l).2]) ∧ Below w.heap.size w w' := by
  cases l with
  | nil =>
    rw [parse_bad (show good [] = false from rfl)]
    go_enter Tryz.func37, Tryz.ntmps37
    go_wp2
    go_step3
    go_wp2
    go_step3
    go_wp2
    go_loop [6] (fun n => n = .int .i64 0) (fun _ => 0)
    case atStart => rfl
    case round =>
      subst hrel
      go_wp2
      go_ret2
      exact ⟨rfl, Below.refl _ _⟩
  | cons c r =>
    by_cases h : c = 45
    · subst h; exact Parse_neg r w (by simpa using hl) hL
    · exact Parse_pos (c :: r) w hl hL (by simp) (by simpa using h)
end Go.Proofs.YtkmmdkklpbafdaaGreatDoor
