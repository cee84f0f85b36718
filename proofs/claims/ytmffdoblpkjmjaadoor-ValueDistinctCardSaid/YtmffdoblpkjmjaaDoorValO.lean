/- The walks of layer 2's TakeInt, TakeCount, TakeText and of layer 5's Decode. No conditions. -/
import Derived.Test.YtmffdoblpkjmjaaDoorValH
namespace Go.Proofs.YtmffdoblpkjmjaaDoor
open Go.RowKit

theorem and_one (u : Nat) (h : u < 18446744073709551616) : bits .and .u64 (u : Int) 1 = ((u % 2 : Nat) : Int) := by
  have h1 : (BitVec.ofInt 64 (u : Int)).toNat = u := by
    rw [BitVec.ofInt_natCast, BitVec.toNat_ofNat]; exact Nat.mod_eq_of_lt (by omega)
  have h2 : (BitVec.ofInt 64 1).toNat = 1 := rfl
  show IntKind.u64.wrap ((BitVec.ofInt 64 (u : Int) &&& BitVec.ofInt 64 1).toNat : Int) = _
  rw [BitVec.toNat_and, h1, h2, Nat.and_one_is_mod, u64_eq9]; omega
theorem xor_zero64 (m : Nat) (h : m < 9223372036854775808) : bits .xor .i64 (m : Int) 0 = (m : Int) := by
  have h1 : (BitVec.ofInt 64 (m : Int)).toNat = m := by
    rw [BitVec.ofInt_natCast, BitVec.toNat_ofNat]; exact Nat.mod_eq_of_lt (by omega)
  have h2 : (BitVec.ofInt 64 0).toNat = 0 := rfl
  show IntKind.i64.wrap ((BitVec.ofInt 64 (m : Int) ^^^ BitVec.ofInt 64 0).toNat : Int) = _
  rw [BitVec.toNat_xor, h1, h2, Nat.xor_zero, IntKind.wrap_i64]; omega
theorem xor_neg64 (m : Nat) (h : m < 9223372036854775808) : bits .xor .i64 (m : Int) (-1) = -(m : Int) - 1 := by
  have h1 : (BitVec.ofInt 64 (m : Int)).toNat = m := by
    rw [BitVec.ofInt_natCast, BitVec.toNat_ofNat]; exact Nat.mod_eq_of_lt (by omega)
  have h2 : (BitVec.ofInt 64 (-1)).toNat = 18446744073709551615 := by decide
  show IntKind.i64.wrap ((BitVec.ofInt 64 (m : Int) ^^^ BitVec.ofInt 64 (-1)).toNat : Int) = _
  rw [BitVec.toNat_xor, h1, h2, xor_ones _ (by omega), IntKind.wrap_i64]; omega
theorem zag_bits (u : Nat) (h : u < 18446744073709551616) : bits .xor .i64 ((u : Int) / 2) (wrap64 (-(wrap64 (bits .and .u64 (u : Int) 1)))) = zag u := by
  rw [and_one u h]
  have e0 : (u : Int) / 2 = ((u / 2 : Nat) : Int) := by omega
  rw [e0]
  unfold zag
  by_cases h2 : u % 2 = 1
  · rw [if_pos h2, h2]
    rw [show wrap64 (-(wrap64 ((1 : Nat) : Int))) = -1 by unfold wrap64; omega]
    exact xor_neg64 _ (by omega)
  · rw [if_neg h2, show u % 2 = 0 by omega]
    rw [show wrap64 (-(wrap64 ((0 : Nat) : Int))) = 0 by unfold wrap64; omega]
    exact xor_zero64 _ (by omega)
theorem cut_eq (l : List UInt8) (a b : Nat) : (l.take (a + b)).drop a = (l.drop a).take b := by
  rw [List.drop_take]; congr 1; omega
/-- a count taken off bytes -/
def cntS (s : List UInt8) (at_ most : Int) : Nat × Int × Int :=
  if (takeS s at_).2.2 = 0 then
    (if most < 0 ∨ most < ((takeS s at_).1 : Int) then (0, 0, 2)
     else if (s.length : Int) - (takeS s at_).2.1 < ((takeS s at_).1 : Int) then (0, 0, 6)
     else ((takeS s at_).1, (takeS s at_).2.1, 0))
  else (0, 0, (takeS s at_).2.2)
theorem text_cnt (s : List UInt8) (at_ most : Int) : takeT s at_ most = if (cntS s at_ most).2.2 = 0 then ((s.drop (cntS s at_ most).2.1.toNat).take (cntS s at_ most).1, (cntS s at_ most).2.1 + ((cntS s at_ most).1 : Int), 0) else ([], 0, (cntS s at_ most).2.2) := by
  unfold takeT cntS
  by_cases h : (takeS s at_).2.2 = 0
  · rw [if_pos h, if_pos h]
    by_cases h1 : most < 0 ∨ most < ((takeS s at_).1 : Int)
    · rw [if_pos h1, if_pos h1]; rfl
    · rw [if_neg h1, if_neg h1]
      by_cases h2 : (s.length : Int) - (takeS s at_).2.1 < ((takeS s at_).1 : Int)
      · rw [if_pos h2, if_pos h2]; rfl
      · rw [if_neg h2, if_neg h2]; rfl
  · rw [if_neg h, if_neg h]; exact (if_neg h).symm
theorem cnt_bounds (s : List UInt8) (at_ most : Int) : (cntS s at_ most).1 < 18446744073709551616 ∧ 0 ≤ (cntS s at_ most).2.1 ∧ (cntS s at_ most).2.1 ≤ (s.length : Int) ∧ ((cntS s at_ most).2.2 = 0 → (cntS s at_ most).2.1 + ((cntS s at_ most).1 : Int) ≤ (s.length : Int)) := by
  obtain ⟨h1, h2, h3, -⟩ := takeS_bounds s at_
  unfold cntS
  split
  · split
    · simp
    · split
      · simp
      · exact ⟨h1, h2, h3, fun _ => by simp only; omega⟩
  · rename_i h; exact ⟨by simp, by simp, by simp, fun e => absurd e h⟩
theorem text_len (s : List UInt8) (at_ most : Int) : (takeT s at_ most).1.length ≤ s.length := by
  unfold takeT
  split
  · split
    · simp
    · split
      · simp
      · simp only [List.length_take, List.length_drop]; omega
  · simp
section
variable {l : List UInt8} {n : Int} {u : Nat} {nx er : Int}
theorem dec_err (h : takeS l n = (u, nx, er)) (he : er ≠ 0) : decV l n = (v00, 0, er) := by unfold decV; rw [h]; exact if_neg he
theorem dec_nil (h : takeS l n = (u, nx, 0)) (hu : u = 0) : decV l n = (v00, nx, 0) := by unfold decV; rw [h, if_pos rfl, if_pos hu]
theorem dec_int {k nd e2 : Int} (h : takeS l n = (u, nx, 0)) (hu : u = 1) (h2 : takeI l nx = (k, nd, e2)) (he : e2 = 0) : decV l n = (⟨1, k, []⟩, nd, 0) := by
  unfold decV; rw [h, if_pos rfl]; simp only; rw [if_neg (by omega), if_pos hu, h2]; exact if_pos he
theorem dec_ierr {k nd e2 : Int} (h : takeS l n = (u, nx, 0)) (hu : u = 1) (h2 : takeI l nx = (k, nd, e2)) (he : e2 ≠ 0) : decV l n = (v00, 0, e2) := by
  unfold decV; rw [h, if_pos rfl]; simp only; rw [if_neg (by omega), if_pos hu, h2]; exact if_neg he
theorem dec_bad (h : takeS l n = (u, nx, 0)) (h0 : ¬ u = 0) (h1 : ¬ u = 1) (h2 : ¬ u = 2) : decV l n = (v00, 0, 5) := by
  unfold decV; rw [h, if_pos rfl, if_neg h0, if_neg h1, if_neg h2]
theorem dec_serr {t : List UInt8} {nd e2 : Int} (h : takeS l n = (u, nx, 0)) (hu : u = 2) (h2 : takeT l nx 64 = (t, nd, e2)) (he : e2 ≠ 0) : decV l n = (v00, 0, e2) := by
  unfold decV; rw [h, if_pos rfl]; simp only; rw [if_neg (by omega), if_neg (by omega), if_pos hu, h2]; exact if_neg he
theorem dec_str {t : List UInt8} {nd e2 : Int} (h : takeS l n = (u, nx, 0)) (hu : u = 2) (h2 : takeT l nx 64 = (t, nd, e2)) (he : e2 = 0) (hp : plB t = true) : decV l n = (⟨2, 0, t⟩, nd, 0) := by
  unfold decV; rw [h, if_pos rfl]; simp only; rw [if_neg (by omega), if_neg (by omega), if_pos hu, h2, if_pos he]; exact if_pos hp
theorem dec_spl {t : List UInt8} {nd e2 : Int} (h : takeS l n = (u, nx, 0)) (hu : u = 2) (h2 : takeT l nx 64 = (t, nd, e2)) (he : e2 = 0) (hp : plB t = false) : decV l n = (v00, 0, 5) := by
  unfold decV; rw [h, if_pos rfl]; simp only; rw [if_neg (by omega), if_neg (by omega), if_pos hu, h2, if_pos he]; exact if_neg (by rw [hp]; simp)
end

set_option maxRecDepth 100000 in
set_option maxHeartbeats 4000000 in
theorem WTakeInt_any (l : List UInt8) (n : Int) (w : World) (hl : l.length ≤ 1000000) :
    Calls Tryd.prog 51 #[.string (bs l), .int .i64 n] w fun e w' => e = .returned (.tuple #[.int .i64 (takeI l n).1, .int .i64 (takeI l n).2.1, .int .i64 (takeI l n).2.2]) ∧ w = w' := by
  obtain ⟨⟨u, nx0, er⟩, ht⟩ : ∃ r, takeS l n = r := ⟨_, rfl⟩
  have hb := takeS_bounds l n
  rw [ht] at hb
  obtain ⟨hb1, hb2, hb3, hb4, hb5, -⟩ := hb
  simp only at hb1 hb2 hb3 hb4 hb5
  obtain ⟨nx, rfl⟩ : ∃ k : Nat, nx0 = k := ⟨nx0.toNat, by omega⟩
  by_cases he : er = 0
  · have hr : takeI l n = (zag u, (nx : Int), 0) := by unfold takeI; rw [ht, he]; rfl
    have te : (er != 0) = false := by rw [he]; rfl
    rw [hr]
    have HT := Lib.hid ht; clear ht hr he
    have HZ := Lib.hid (zag_bits u hb1)
    go_enter Tryd.func51, Tryd.ntmps51
    go_wp2_with fail
    refine (TakeUint_any l n _ (by omega)).mono ?_
    rw [HT.out]
    simp only [takeV]
    rintro eq w1 ⟨rfl, rfl⟩
    go_wp2
    go_ret3
    exact ⟨by rw [← HZ.out]; rfl, rfl⟩
  · have hr : takeI l n = (0, 0, er) := by unfold takeI; rw [ht]; exact if_neg he
    have te : (er != 0) = true := by rw [bne_iff_ne]; exact he
    rw [hr]
    have HT := Lib.hid ht; have HE := Lib.hid he; clear ht hr he
    go_enter Tryd.func51, Tryd.ntmps51
    go_wp2_with fail
    refine (TakeUint_any l n _ (by omega)).mono ?_
    rw [HT.out]
    simp only [takeV]
    rintro eq w1 ⟨rfl, rfl⟩
    go_wp2
    go_ret3
    exact ⟨rfl, rfl⟩
set_option maxRecDepth 100000 in
set_option maxHeartbeats 4000000 in
theorem WTakeCount_any (l : List UInt8) (n : Int) (m : Int) (w : World) (hl : l.length ≤ 1000000) (hm : m ≤ 1000000) :
    Calls Tryd.prog 68 #[.string (bs l), .int .i64 n, .int .i64 m] w fun e w' => e = .returned (.tuple #[.int .i64 ((cntS l n m).1 : Int), .int .i64 (cntS l n m).2.1, .int .i64 (cntS l n m).2.2]) ∧ w = w' := by
  obtain ⟨⟨u, nx0, er⟩, ht⟩ : ∃ r, takeS l n = r := ⟨_, rfl⟩
  have hb := takeS_bounds l n
  rw [ht] at hb
  obtain ⟨hb1, hb2, hb3, hb4, hb5, -⟩ := hb
  simp only at hb1 hb2 hb3 hb4 hb5
  obtain ⟨nx, rfl⟩ : ∃ k : Nat, nx0 = k := ⟨nx0.toNat, by omega⟩
  by_cases he : er = 0
  rotate_left
  · have hr : cntS l n m = (0, 0, er) := by unfold cntS; rw [ht]; exact if_neg he
    have te : (er != 0) = true := by rw [bne_iff_ne]; exact he
    rw [hr]
    have HT := Lib.hid ht; have HE := Lib.hid he; clear ht hr he
    go_enter Tryd.func68, Tryd.ntmps68
    go_wp2_with fail
    refine (TakeUint_any l n _ (by omega)).mono ?_
    rw [HT.out]
    simp only [takeV]
    rintro eq w1 ⟨rfl, rfl⟩
    go_wp2
    go_ret3
    exact ⟨rfl, rfl⟩
  have te : (er != 0) = false := by rw [he]; rfl
  have hw1 : IntKind.i64.wrap ((l.length : Int) - (nx : Int)) = (l.length : Int) - (nx : Int) := by rw [IntKind.wrap_i64]; omega
  have hw2 : IntKind.u64.wrap ((l.length : Int) - (nx : Int)) = (l.length : Int) - (nx : Int) := by rw [u64_eq9]; omega
  by_cases hm0 : m < 0
  · have hr : cntS l n m = (0, 0, 2) := by unfold cntS; rw [ht, he, if_pos rfl, if_pos (Or.inl hm0)]
    rw [hr]
    have HT := Lib.hid ht; have HE := Lib.hid he; clear ht hr he
    go_enter Tryd.func68, Tryd.ntmps68
    go_wp2_with fail
    refine (TakeUint_any l n _ (by omega)).mono ?_
    rw [HT.out]
    simp only [takeV]
    rintro eq w1 ⟨rfl, rfl⟩
    go_wp2
    go_ret3
    exact ⟨rfl, rfl⟩
  have hw3 : IntKind.u64.wrap m = m := by rw [u64_eq9]; omega
  by_cases hm1 : m < (u : Int)
  · have hr : cntS l n m = (0, 0, 2) := by unfold cntS; rw [ht, he, if_pos rfl, if_pos (Or.inr hm1)]
    rw [hr]
    have HT := Lib.hid ht; have HE := Lib.hid he; clear ht hr he
    go_enter Tryd.func68, Tryd.ntmps68
    go_wp2_with fail
    refine (TakeUint_any l n _ (by omega)).mono ?_
    rw [HT.out]
    simp only [takeV]
    rintro eq w1 ⟨rfl, rfl⟩
    go_wp2
    go_ret3
    exact ⟨rfl, rfl⟩
  by_cases hm2 : (l.length : Int) - (nx : Int) < (u : Int)
  · have hr : cntS l n m = (0, 0, 6) := by unfold cntS; rw [ht, he, if_pos rfl, if_neg (by rintro (h | h) <;> contradiction), if_pos hm2]
    rw [hr]
    have HT := Lib.hid ht; have HE := Lib.hid he; clear ht hr he
    go_enter Tryd.func68, Tryd.ntmps68
    go_wp2_with fail
    refine (TakeUint_any l n _ (by omega)).mono ?_
    rw [HT.out]
    simp only [takeV]
    rintro eq w1 ⟨rfl, rfl⟩
    go_wp2
    go_ret3
    exact ⟨rfl, rfl⟩
  have hw4 : IntKind.i64.wrap (u : Int) = (u : Int) := by rw [IntKind.wrap_i64]; omega
  have hr : cntS l n m = (u, (nx : Int), 0) := by unfold cntS; rw [ht, he, if_pos rfl, if_neg (by rintro (h | h) <;> contradiction), if_neg hm2]
  rw [hr]
  have HT := Lib.hid ht; have HE := Lib.hid he; clear ht hr he
  go_enter Tryd.func68, Tryd.ntmps68
  go_wp2_with fail
  refine (TakeUint_any l n _ (by omega)).mono ?_
  rw [HT.out]
  simp only [takeV]
  rintro eq w1 ⟨rfl, rfl⟩
  go_wp2
  go_ret3
  exact ⟨rfl, rfl⟩
set_option maxRecDepth 100000 in
set_option maxHeartbeats 4000000 in
theorem WTakeText_any (l : List UInt8) (n : Int) (m : Int) (w : World) (hl : l.length ≤ 1000000) (hm : m ≤ 1000000) :
    Calls Tryd.prog 52 #[.string (bs l), .int .i64 n, .int .i64 m] w fun e w' => e = .returned (.tuple #[.string (bs (takeT l n m).1), .int .i64 (takeT l n m).2.1, .int .i64 (takeT l n m).2.2]) ∧ w = w' := by
  rw [text_cnt]
  obtain ⟨⟨u, nx0, er⟩, ht⟩ : ∃ r, cntS l n m = r := ⟨_, rfl⟩
  have hb := cnt_bounds l n m
  rw [ht] at hb ⊢
  obtain ⟨hb1, hb2, hb3, hb4⟩ := hb
  simp only at hb1 hb2 hb3 hb4 ⊢
  obtain ⟨nx, rfl⟩ : ∃ k : Nat, nx0 = k := ⟨nx0.toNat, by omega⟩
  by_cases he : er = 0
  · have te : (er != 0) = false := by rw [he]; rfl
    rw [if_pos he]
    have hw5 : IntKind.i64.wrap ((nx : Int) + (u : Int)) = ((nx + u : Nat) : Int) := by rw [IntKind.wrap_i64]; omega
    have hl1 : nx ≤ nx + u := by omega
    have hl2 : ((nx + u : Nat) : Int) ≤ (l.length : Int) := by omega
    have HS := Lib.hid (cut_eq l nx u)
    have h5 := hb4 he
    have HT := Lib.hid ht; have HE := Lib.hid he; clear ht he
    go_enter Tryd.func52, Tryd.ntmps52
    go_wp2_with fail
    refine (WTakeCount_any l n m _ hl hm).mono ?_
    rw [HT.out]
    rintro eq w1 ⟨rfl, rfl⟩
    go_wp2
    go_ret3
    exact ⟨by simp [bs, HS.out], rfl⟩
  · have te : (er != 0) = true := by rw [bne_iff_ne]; exact he
    rw [if_neg he]
    have HT := Lib.hid ht; have HE := Lib.hid he; clear ht he
    go_enter Tryd.func52, Tryd.ntmps52
    go_wp2_with fail
    refine (WTakeCount_any l n m _ hl hm).mono ?_
    rw [HT.out]
    rintro eq w1 ⟨rfl, rfl⟩
    go_wp2
    go_ret3
    exact ⟨rfl, rfl⟩
set_option maxRecDepth 100000 in
set_option maxHeartbeats 8000000 in
theorem VDecode_any (l : List UInt8) (n : Int) (hl : l.length ≤ 1000000) (w : World) :
    Calls Tryd.prog 26 #[.string (bs l), .int .i64 n] w fun e w' => e = .returned (.tuple #[.agg (vV (decV l n).1), .int .i64 (decV l n).2.1, .int .i64 (decV l n).2.2]) ∧ Below w.heap.size w w' := by
  obtain ⟨⟨u, nx, er⟩, ht⟩ : ∃ r, takeS l n = r := ⟨_, rfl⟩
  have hb := takeS_bounds l n
  rw [ht] at hb
  obtain ⟨hb1, hb2, hb3, hb4, hb5, -⟩ := hb
  simp only at hb1 hb2 hb3 hb4 hb5
  by_cases he : er = 0
  rotate_left
  · have te : (er != 0) = true := by rw [bne_iff_ne]; exact he
    have hr : decV l n = (v00, 0, er) := dec_err ht he
    rw [hr]; clear hr
    simp only [vV, v00]
    have HT := Lib.hid ht; have HE := Lib.hid he; clear ht he
    have HR := Lib.hid (Bx.new w #[.int .i64 0, .int .i64 0, .string ⟨#[]⟩] 23); have HB := Lib.hid ((Below.refl w.heap.size w).alloc (Nat.le_refl _) (.cells #[.int .i64 0, .int .i64 0, .string ⟨#[]⟩] 23))
    go_enter Tryd.func26, Tryd.ntmps26
    go_upto_region 1 with (fail)
    generalize hW : w.alloc (.cells #[.int .i64 0, .int .i64 0, .string ⟨#[]⟩] 23) = v0 at HR HB ⊢
    clear hW
    go_wp2_with fail
    refine (TakeUint_any l n _ (by omega)).mono ?_
    rw [HT.out]
    simp only [takeV]
    rintro er1 w1 ⟨rfl, rfl⟩
    have r0 : v0.cell? ⟨w.heap.size, 0, none⟩ = some (.int .i64 0) := HR.out.cell 0
    have r1 : v0.cell? ⟨w.heap.size, 1, none⟩ = some (.int .i64 0) := HR.out.cell 1
    have r2 : v0.cell? ⟨w.heap.size, 2, none⟩ = some (.string ⟨#[]⟩) := HR.out.cell 2
    have f0 := HR.out.free 0
    have f1 := HR.out.free 1
    have f2 := HR.out.free 2
    have HK := Lib.hid (HR.out.sets3 (.int .i64 0) (.int .i64 0) (.string ⟨#[]⟩))
    go_wp2
    have k0 := HK.out.cell 0
    have k1 := HK.out.cell 1
    have k2 := HK.out.cell 2
    simp only [List.getElem?_toArray, List.getElem?_cons_zero, List.getElem?_cons_succ] at k0 k1 k2
    refine bodyPost_ret (v := .tuple #[.agg #[.int .i64 0, .int .i64 0, .string (bs [])], .int .i64 0, .int .i64 er]) (by simp [results, Tryd.results26, go_sem, k0, k1, k2] <;> rfl) rfl ⟨rfl, ?_⟩
    exact below_sets3 HB.out w.heap.size (Nat.le_refl _) _ _ _
  have te : (er != 0) = false := by rw [he]; rfl
  subst he
  by_cases hu : u = 0
  · have t0 : ((u : Int) == 0) = true := by rw [hu]; rfl
    have hr : decV l n = (v00, nx, 0) := dec_nil ht hu
    rw [hr]; clear hr
    simp only [vV, v00]
    have HT := Lib.hid ht; have HU := Lib.hid hu; clear ht hu
    have HR := Lib.hid (Bx.new w #[.int .i64 0, .int .i64 0, .string ⟨#[]⟩] 23); have HB := Lib.hid ((Below.refl w.heap.size w).alloc (Nat.le_refl _) (.cells #[.int .i64 0, .int .i64 0, .string ⟨#[]⟩] 23))
    go_enter Tryd.func26, Tryd.ntmps26
    go_upto_region 1 with (fail)
    generalize hW : w.alloc (.cells #[.int .i64 0, .int .i64 0, .string ⟨#[]⟩] 23) = v0 at HR HB ⊢
    clear hW
    go_wp2_with fail
    refine (TakeUint_any l n _ (by omega)).mono ?_
    rw [HT.out]
    simp only [takeV]
    rintro er1 w1 ⟨rfl, rfl⟩
    have r0 : v0.cell? ⟨w.heap.size, 0, none⟩ = some (.int .i64 0) := HR.out.cell 0
    have r1 : v0.cell? ⟨w.heap.size, 1, none⟩ = some (.int .i64 0) := HR.out.cell 1
    have r2 : v0.cell? ⟨w.heap.size, 2, none⟩ = some (.string ⟨#[]⟩) := HR.out.cell 2
    have f0 := HR.out.free 0
    have f1 := HR.out.free 1
    have f2 := HR.out.free 2
    have HK := Lib.hid (HR.out.sets3 (.int .i64 0) (.int .i64 0) (.string ⟨#[]⟩))
    go_wp2
    have k0 := HK.out.cell 0
    have k1 := HK.out.cell 1
    have k2 := HK.out.cell 2
    simp only [List.getElem?_toArray, List.getElem?_cons_zero, List.getElem?_cons_succ] at k0 k1 k2
    refine bodyPost_ret (v := .tuple #[.agg #[.int .i64 0, .int .i64 0, .string (bs [])], .int .i64 nx, .int .i64 0]) (by simp [results, Tryd.results26, go_sem, k0, k1, k2] <;> rfl) rfl ⟨rfl, ?_⟩
    exact below_sets3 HB.out w.heap.size (Nat.le_refl _) _ _ _
  have t0 : ((u : Int) == 0) = false := by rw [beq_eq_false_iff_ne]; omega
  have h0 := hu; clear hu
  by_cases hu : u = 1
  · have t1 : ((u : Int) == 1) = true := by rw [hu]; rfl
    obtain ⟨⟨k, nd, e2⟩, h2⟩ : ∃ r, takeI l nx = r := ⟨_, rfl⟩
    by_cases he : e2 = 0
    · have te2 : (e2 != 0) = false := by rw [he]; rfl
      have hr : decV l n = (⟨1, k, []⟩, nd, 0) := dec_int ht hu h2 he
      rw [hr]; clear hr
      simp only [vV]
      have HT := Lib.hid ht; have HU := Lib.hid hu; have H2 := Lib.hid h2; have HE := Lib.hid he; clear ht hu h2 he h0
      have HR := Lib.hid (Bx.new w #[.int .i64 0, .int .i64 0, .string ⟨#[]⟩] 23); have HB := Lib.hid ((Below.refl w.heap.size w).alloc (Nat.le_refl _) (.cells #[.int .i64 0, .int .i64 0, .string ⟨#[]⟩] 23))
      go_enter Tryd.func26, Tryd.ntmps26
      go_upto_region 1 with (fail)
      generalize hW : w.alloc (.cells #[.int .i64 0, .int .i64 0, .string ⟨#[]⟩] 23) = v0 at HR HB ⊢
      clear hW
      go_wp2_with fail
      refine (TakeUint_any l n _ (by omega)).mono ?_
      rw [HT.out]
      simp only [takeV]
      rintro er1 w1 ⟨rfl, rfl⟩
      go_wp2_with fail
      refine (WTakeInt_any l nx _ hl).mono ?_
      rw [H2.out]
      rintro er2 w2 ⟨rfl, rfl⟩
      go_wp2_with fail
      refine (VInt_any k _).mono ?_
      simp only [vV, intV5]
      rintro er3 w3 ⟨rfl, hb9⟩
      have HR := Lib.hid (HR.out.call hb9); have HB := Lib.hid (btrans HB.out HB.out.size hb9); clear hb9
      have r0 : w3.cell? ⟨w.heap.size, 0, none⟩ = some (.int .i64 0) := HR.out.cell 0
      have r1 : w3.cell? ⟨w.heap.size, 1, none⟩ = some (.int .i64 0) := HR.out.cell 1
      have r2 : w3.cell? ⟨w.heap.size, 2, none⟩ = some (.string ⟨#[]⟩) := HR.out.cell 2
      have f0 := HR.out.free 0
      have f1 := HR.out.free 1
      have f2 := HR.out.free 2
      have HK := Lib.hid (HR.out.sets3 (.int .i64 1) (.int .i64 k) (.string (bs [])))
      go_wp2
      have k0 := HK.out.cell 0
      have k1 := HK.out.cell 1
      have k2 := HK.out.cell 2
      simp only [List.getElem?_toArray, List.getElem?_cons_zero, List.getElem?_cons_succ] at k0 k1 k2
      refine bodyPost_ret (v := .tuple #[.agg #[.int .i64 1, .int .i64 k, .string (bs [])], .int .i64 nd, .int .i64 0]) (by simp [results, Tryd.results26, go_sem, k0, k1, k2] <;> rfl) rfl ⟨rfl, ?_⟩
      exact below_sets3 HB.out w.heap.size (Nat.le_refl _) _ _ _
    · have te2 : (e2 != 0) = true := by rw [bne_iff_ne]; exact he
      have hr : decV l n = (v00, 0, e2) := dec_ierr ht hu h2 he
      rw [hr]; clear hr
      simp only [vV, v00]
      have HT := Lib.hid ht; have HU := Lib.hid hu; have H2 := Lib.hid h2; have HE := Lib.hid he; clear ht hu h2 he h0
      have HR := Lib.hid (Bx.new w #[.int .i64 0, .int .i64 0, .string ⟨#[]⟩] 23); have HB := Lib.hid ((Below.refl w.heap.size w).alloc (Nat.le_refl _) (.cells #[.int .i64 0, .int .i64 0, .string ⟨#[]⟩] 23))
      go_enter Tryd.func26, Tryd.ntmps26
      go_upto_region 1 with (fail)
      generalize hW : w.alloc (.cells #[.int .i64 0, .int .i64 0, .string ⟨#[]⟩] 23) = v0 at HR HB ⊢
      clear hW
      go_wp2_with fail
      refine (TakeUint_any l n _ (by omega)).mono ?_
      rw [HT.out]
      simp only [takeV]
      rintro er1 w1 ⟨rfl, rfl⟩
      go_wp2_with fail
      refine (WTakeInt_any l nx _ hl).mono ?_
      rw [H2.out]
      rintro er2 w2 ⟨rfl, rfl⟩
      have r0 : v0.cell? ⟨w.heap.size, 0, none⟩ = some (.int .i64 0) := HR.out.cell 0
      have r1 : v0.cell? ⟨w.heap.size, 1, none⟩ = some (.int .i64 0) := HR.out.cell 1
      have r2 : v0.cell? ⟨w.heap.size, 2, none⟩ = some (.string ⟨#[]⟩) := HR.out.cell 2
      have f0 := HR.out.free 0
      have f1 := HR.out.free 1
      have f2 := HR.out.free 2
      have HK := Lib.hid (HR.out.sets3 (.int .i64 0) (.int .i64 0) (.string ⟨#[]⟩))
      go_wp2
      have k0 := HK.out.cell 0
      have k1 := HK.out.cell 1
      have k2 := HK.out.cell 2
      simp only [List.getElem?_toArray, List.getElem?_cons_zero, List.getElem?_cons_succ] at k0 k1 k2
      refine bodyPost_ret (v := .tuple #[.agg #[.int .i64 0, .int .i64 0, .string (bs [])], .int .i64 0, .int .i64 e2]) (by simp [results, Tryd.results26, go_sem, k0, k1, k2] <;> rfl) rfl ⟨rfl, ?_⟩
      exact below_sets3 HB.out w.heap.size (Nat.le_refl _) _ _ _
  have t1 : ((u : Int) == 1) = false := by rw [beq_eq_false_iff_ne]; omega
  have h1 := hu; clear hu
  by_cases hu : u = 2
  rotate_left
  · have t2 : ((u : Int) == 2) = false := by rw [beq_eq_false_iff_ne]; omega
    have hr : decV l n = (v00, 0, 5) := dec_bad ht h0 h1 hu
    rw [hr]; clear hr
    simp only [vV, v00]
    have HT := Lib.hid ht; have HU := Lib.hid hu; clear ht hu h0 h1
    have HR := Lib.hid (Bx.new w #[.int .i64 0, .int .i64 0, .string ⟨#[]⟩] 23); have HB := Lib.hid ((Below.refl w.heap.size w).alloc (Nat.le_refl _) (.cells #[.int .i64 0, .int .i64 0, .string ⟨#[]⟩] 23))
    go_enter Tryd.func26, Tryd.ntmps26
    go_upto_region 1 with (fail)
    generalize hW : w.alloc (.cells #[.int .i64 0, .int .i64 0, .string ⟨#[]⟩] 23) = v0 at HR HB ⊢
    clear hW
    go_wp2_with fail
    refine (TakeUint_any l n _ (by omega)).mono ?_
    rw [HT.out]
    simp only [takeV]
    rintro er1 w1 ⟨rfl, rfl⟩
    have r0 : v0.cell? ⟨w.heap.size, 0, none⟩ = some (.int .i64 0) := HR.out.cell 0
    have r1 : v0.cell? ⟨w.heap.size, 1, none⟩ = some (.int .i64 0) := HR.out.cell 1
    have r2 : v0.cell? ⟨w.heap.size, 2, none⟩ = some (.string ⟨#[]⟩) := HR.out.cell 2
    have f0 := HR.out.free 0
    have f1 := HR.out.free 1
    have f2 := HR.out.free 2
    have HK := Lib.hid (HR.out.sets3 (.int .i64 0) (.int .i64 0) (.string ⟨#[]⟩))
    go_wp2
    have k0 := HK.out.cell 0
    have k1 := HK.out.cell 1
    have k2 := HK.out.cell 2
    simp only [List.getElem?_toArray, List.getElem?_cons_zero, List.getElem?_cons_succ] at k0 k1 k2
    refine bodyPost_ret (v := .tuple #[.agg #[.int .i64 0, .int .i64 0, .string (bs [])], .int .i64 0, .int .i64 5]) (by simp [results, Tryd.results26, go_sem, k0, k1, k2] <;> rfl) rfl ⟨rfl, ?_⟩
    exact below_sets3 HB.out w.heap.size (Nat.le_refl _) _ _ _
  have t2 : ((u : Int) == 2) = true := by rw [hu]; rfl
  obtain ⟨⟨t, nd, e2⟩, h2⟩ : ∃ r, takeT l nx 64 = r := ⟨_, rfl⟩
  have htl : t.length ≤ l.length := by have := text_len l nx 64; rw [h2] at this; exact this
  by_cases he : e2 = 0
  rotate_left
  · have te2 : (e2 != 0) = true := by rw [bne_iff_ne]; exact he
    have te3 : (e2 == 0) = false := by rw [beq_eq_false_iff_ne]; exact he
    have hr : decV l n = (v00, 0, e2) := dec_serr ht hu h2 he
    rw [hr]; clear hr
    simp only [vV, v00]
    have HT := Lib.hid ht; have HU := Lib.hid hu; have H2 := Lib.hid h2; have HE := Lib.hid he; clear ht hu h2 he h0 h1
    have HR := Lib.hid (Bx.new w #[.int .i64 0, .int .i64 0, .string ⟨#[]⟩] 23); have HB := Lib.hid ((Below.refl w.heap.size w).alloc (Nat.le_refl _) (.cells #[.int .i64 0, .int .i64 0, .string ⟨#[]⟩] 23))
    go_enter Tryd.func26, Tryd.ntmps26
    go_upto_region 1 with (fail)
    generalize hW : w.alloc (.cells #[.int .i64 0, .int .i64 0, .string ⟨#[]⟩] 23) = v0 at HR HB ⊢
    clear hW
    go_wp2_with fail
    refine (TakeUint_any l n _ (by omega)).mono ?_
    rw [HT.out]
    simp only [takeV]
    rintro er1 w1 ⟨rfl, rfl⟩
    go_wp2_with fail
    refine (WTakeText_any l nx 64 _ hl (by omega)).mono ?_
    rw [H2.out]
    rintro er2 w2 ⟨rfl, rfl⟩
    have r0 : v0.cell? ⟨w.heap.size, 0, none⟩ = some (.int .i64 0) := HR.out.cell 0
    have r1 : v0.cell? ⟨w.heap.size, 1, none⟩ = some (.int .i64 0) := HR.out.cell 1
    have r2 : v0.cell? ⟨w.heap.size, 2, none⟩ = some (.string ⟨#[]⟩) := HR.out.cell 2
    have f0 := HR.out.free 0
    have f1 := HR.out.free 1
    have f2 := HR.out.free 2
    have HK := Lib.hid (HR.out.sets3 (.int .i64 0) (.int .i64 0) (.string ⟨#[]⟩))
    go_wp2
    have k0 := HK.out.cell 0
    have k1 := HK.out.cell 1
    have k2 := HK.out.cell 2
    simp only [List.getElem?_toArray, List.getElem?_cons_zero, List.getElem?_cons_succ] at k0 k1 k2
    refine bodyPost_ret (v := .tuple #[.agg #[.int .i64 0, .int .i64 0, .string (bs [])], .int .i64 0, .int .i64 e2]) (by simp [results, Tryd.results26, go_sem, k0, k1, k2] <;> rfl) rfl ⟨rfl, ?_⟩
    exact below_sets3 HB.out w.heap.size (Nat.le_refl _) _ _ _
  have te2 : (e2 != 0) = false := by rw [he]; rfl
  have te3 : (e2 == 0) = true := by rw [he]; rfl
  cases hp : plB t with
  | true =>
    have hr : decV l n = (⟨2, 0, t⟩, nd, 0) := dec_str ht hu h2 he hp
    rw [hr]; clear hr
    simp only [vV]
    have HP := Lib.hid hp; clear hp
    have HT := Lib.hid ht; have HU := Lib.hid hu; have H2 := Lib.hid h2; have HE := Lib.hid he; clear ht hu h2 he h0 h1
    have HR := Lib.hid (Bx.new w #[.int .i64 0, .int .i64 0, .string ⟨#[]⟩] 23); have HB := Lib.hid ((Below.refl w.heap.size w).alloc (Nat.le_refl _) (.cells #[.int .i64 0, .int .i64 0, .string ⟨#[]⟩] 23))
    go_enter Tryd.func26, Tryd.ntmps26
    go_upto_region 1 with (fail)
    generalize hW : w.alloc (.cells #[.int .i64 0, .int .i64 0, .string ⟨#[]⟩] 23) = v0 at HR HB ⊢
    clear hW
    go_wp2_with fail
    refine (TakeUint_any l n _ (by omega)).mono ?_
    rw [HT.out]
    simp only [takeV]
    rintro er1 w1 ⟨rfl, rfl⟩
    go_wp2_with fail
    refine (WTakeText_any l nx 64 _ hl (by omega)).mono ?_
    rw [H2.out]
    rintro er2 w2 ⟨rfl, rfl⟩
    go_wp2_with fail
    refine (plain_any t _ (by omega)).mono ?_
    rw [HP.out]
    rintro er3 w3 ⟨rfl, rfl⟩
    have r0 : v0.cell? ⟨w.heap.size, 0, none⟩ = some (.int .i64 0) := HR.out.cell 0
    have r1 : v0.cell? ⟨w.heap.size, 1, none⟩ = some (.int .i64 0) := HR.out.cell 1
    have r2 : v0.cell? ⟨w.heap.size, 2, none⟩ = some (.string ⟨#[]⟩) := HR.out.cell 2
    have f0 := HR.out.free 0
    have f1 := HR.out.free 1
    have f2 := HR.out.free 2
    have HK := Lib.hid (HR.out.sets3 (.int .i64 2) (.int .i64 0) (.string (bs t)))
    go_wp2
    have k0 := HK.out.cell 0
    have k1 := HK.out.cell 1
    have k2 := HK.out.cell 2
    simp only [List.getElem?_toArray, List.getElem?_cons_zero, List.getElem?_cons_succ] at k0 k1 k2
    refine bodyPost_ret (v := .tuple #[.agg #[.int .i64 2, .int .i64 0, .string (bs t)], .int .i64 nd, .int .i64 0]) (by simp [results, Tryd.results26, go_sem, k0, k1, k2] <;> rfl) rfl ⟨rfl, ?_⟩
    exact below_sets3 HB.out w.heap.size (Nat.le_refl _) _ _ _
  | false =>
    have hr : decV l n = (v00, 0, 5) := dec_spl ht hu h2 he hp
    rw [hr]; clear hr
    simp only [vV, v00]
    have HP := Lib.hid hp; clear hp
    have HT := Lib.hid ht; have HU := Lib.hid hu; have H2 := Lib.hid h2; have HE := Lib.hid he; clear ht hu h2 he h0 h1
    have HR := Lib.hid (Bx.new w #[.int .i64 0, .int .i64 0, .string ⟨#[]⟩] 23); have HB := Lib.hid ((Below.refl w.heap.size w).alloc (Nat.le_refl _) (.cells #[.int .i64 0, .int .i64 0, .string ⟨#[]⟩] 23))
    go_enter Tryd.func26, Tryd.ntmps26
    go_upto_region 1 with (fail)
    generalize hW : w.alloc (.cells #[.int .i64 0, .int .i64 0, .string ⟨#[]⟩] 23) = v0 at HR HB ⊢
    clear hW
    go_wp2_with fail
    refine (TakeUint_any l n _ (by omega)).mono ?_
    rw [HT.out]
    simp only [takeV]
    rintro er1 w1 ⟨rfl, rfl⟩
    go_wp2_with fail
    refine (WTakeText_any l nx 64 _ hl (by omega)).mono ?_
    rw [H2.out]
    rintro er2 w2 ⟨rfl, rfl⟩
    go_wp2_with fail
    refine (plain_any t _ (by omega)).mono ?_
    rw [HP.out]
    rintro er3 w3 ⟨rfl, rfl⟩
    have r0 : v0.cell? ⟨w.heap.size, 0, none⟩ = some (.int .i64 0) := HR.out.cell 0
    have r1 : v0.cell? ⟨w.heap.size, 1, none⟩ = some (.int .i64 0) := HR.out.cell 1
    have r2 : v0.cell? ⟨w.heap.size, 2, none⟩ = some (.string ⟨#[]⟩) := HR.out.cell 2
    have f0 := HR.out.free 0
    have f1 := HR.out.free 1
    have f2 := HR.out.free 2
    have HK := Lib.hid (HR.out.sets3 (.int .i64 0) (.int .i64 0) (.string ⟨#[]⟩))
    go_wp2
    have k0 := HK.out.cell 0
    have k1 := HK.out.cell 1
    have k2 := HK.out.cell 2
    simp only [List.getElem?_toArray, List.getElem?_cons_zero, List.getElem?_cons_succ] at k0 k1 k2
    refine bodyPost_ret (v := .tuple #[.agg #[.int .i64 0, .int .i64 0, .string (bs [])], .int .i64 0, .int .i64 5]) (by simp [results, Tryd.results26, go_sem, k0, k1, k2] <;> rfl) rfl ⟨rfl, ?_⟩
    exact below_sets3 HB.out w.heap.size (Nat.le_refl _) _ _ _
end Go.Proofs.YtmffdoblpkjmjaaDoor
