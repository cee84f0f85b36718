/- The walks of the reference's Unfold, TakeInt, TakeText and Decode. No conditions. -/
import Derived.Test.YtmffdoblpkjmjaaDoorValO
namespace Go.Proofs.YtmffdoblpkjmjaaDoor
open Go.RowKit

set_option maxRecDepth 100000 in
set_option maxHeartbeats 4000000 in
theorem RUnfold_any (u : Nat) (hu : u < 18446744073709551616) (w : World) :
    Calls Tryd.prog 69 #[.int .u64 (u : Int)] w fun e w' => e = .returned (.int .i64 (zag u)) ∧ w = w' := by
  have e0 : IntKind.i64.wrap ((u : Int) / 2) = (u : Int) / 2 := by rw [IntKind.wrap_i64]; omega
  have e1 : IntKind.i64.wrap (-((u : Int) / 2)) = -((u : Int) / 2) := by rw [IntKind.wrap_i64]; omega
  by_cases h : u % 2 = 1
  · have t : ((u : Int) % 2 == 1) = true := by rw [beq_iff_eq]; omega
    have e2 : IntKind.i64.wrap (-((u : Int) / 2) - 1) = zag u := by rw [IntKind.wrap_i64]; unfold zag; rw [if_pos h]; omega
    go_enter Tryd.func69, Tryd.ntmps69
    go_wp2
    go_ret
    exact ⟨rfl, rfl⟩
  · have t : ((u : Int) % 2 == 1) = false := by rw [beq_eq_false_iff_ne]; omega
    have e2 : (u : Int) / 2 = zag u := by unfold zag; rw [if_neg h]; omega
    have E2 := Lib.hid e2; clear e2
    go_enter Tryd.func69, Tryd.ntmps69
    go_wp2
    go_ret
    exact ⟨by rw [← E2.out]; rfl, rfl⟩
set_option maxRecDepth 100000 in
set_option maxHeartbeats 4000000 in
theorem RTakeInt_any (l : List UInt8) (n : Int) (w : World) (hl : l.length ≤ 1000000) :
    Calls Tryd.prog 54 #[.string (bs l), .int .i64 n] w fun e w' => e = .returned (.tuple #[.int .i64 (takeI l n).1, .int .i64 (takeI l n).2.1, .int .i64 (takeI l n).2.2]) ∧ w = w' := by
  obtain ⟨⟨u, nx0, er⟩, ht⟩ : ∃ r, takeS l n = r := ⟨_, rfl⟩
  have hb := takeS_bounds l n
  rw [ht] at hb
  obtain ⟨hb1, hb2, hb3, hb4, hb5, -⟩ := hb
  simp only at hb1 hb2 hb3 hb4 hb5
  obtain ⟨nx, rfl⟩ : ∃ k : Nat, nx0 = k := ⟨nx0.toNat, by omega⟩
  by_cases he : er = 0
  · have hr : takeI l n = (zag u, (nx : Int), 0) := by unfold takeI; rw [ht, he]; rfl
    have te : (er != 0) = false := by rw [he]; rfl
    rw [hr]
    have HT := Lib.hid ht; clear ht hr he
    go_enter Tryd.func54, Tryd.ntmps54
    go_wp2_with fail
    refine (RTakeUint_any l n _ (by omega)).mono ?_
    rw [HT.out]
    simp only [takeV]
    rintro eq w1 ⟨rfl, rfl⟩
    go_wp2_with fail
    refine (RUnfold_any u hb1 _).mono ?_
    rintro eq w1 ⟨rfl, rfl⟩
    go_wp2
    go_ret3
    exact ⟨rfl, rfl⟩
  · have hr : takeI l n = (0, 0, er) := by unfold takeI; rw [ht]; exact if_neg he
    have te : (er != 0) = true := by rw [bne_iff_ne]; exact he
    rw [hr]
    have HT := Lib.hid ht; have HE := Lib.hid he; clear ht hr he
    go_enter Tryd.func54, Tryd.ntmps54
    go_wp2_with fail
    refine (RTakeUint_any l n _ (by omega)).mono ?_
    rw [HT.out]
    simp only [takeV]
    rintro eq w1 ⟨rfl, rfl⟩
    go_wp2
    go_ret3
    exact ⟨rfl, rfl⟩
set_option maxRecDepth 100000 in
set_option maxHeartbeats 4000000 in
theorem RTakeText_any (l : List UInt8) (n : Int) (m : Int) (w : World) (hl : l.length ≤ 1000000) (hm : m ≤ 1000000) :
    Calls Tryd.prog 55 #[.string (bs l), .int .i64 n, .int .i64 m] w fun e w' => e = .returned (.tuple #[.string (bs (takeT l n m).1), .int .i64 (takeT l n m).2.1, .int .i64 (takeT l n m).2.2]) ∧ w = w' := by
  obtain ⟨⟨u, nx0, er⟩, ht⟩ : ∃ r, takeS l n = r := ⟨_, rfl⟩
  have hb := takeS_bounds l n
  rw [ht] at hb
  obtain ⟨hb1, hb2, hb3, hb4, hb5, -⟩ := hb
  simp only at hb1 hb2 hb3 hb4 hb5
  obtain ⟨nx, rfl⟩ : ∃ k : Nat, nx0 = k := ⟨nx0.toNat, by omega⟩
  by_cases he : er = 0
  rotate_left
  · have hr : takeT l n m = ([], 0, er) := by unfold takeT; rw [ht]; exact if_neg he
    have te : (er != 0) = true := by rw [bne_iff_ne]; exact he
    rw [hr]
    have HT := Lib.hid ht; have HE := Lib.hid he; clear ht hr he
    go_enter Tryd.func55, Tryd.ntmps55
    go_wp2_with fail
    refine (RTakeUint_any l n _ (by omega)).mono ?_
    rw [HT.out]
    simp only [takeV]
    rintro eq w1 ⟨rfl, rfl⟩
    go_wp2
    go_ret3
    exact ⟨rfl, rfl⟩
  have te : (er != 0) = false := by rw [he]; rfl
  have hw1 : IntKind.i64.wrap ((l.length : Int) - (nx : Int)) = (l.length : Int) - (nx : Int) := by rw [IntKind.wrap_i64]; omega
  have hw2 : IntKind.u64.wrap ((l.length : Int) - (nx : Int)) = (l.length : Int) - (nx : Int) := by rw [u64_eq9]; omega
  by_cases hm0 : m < 0
  · have hr : takeT l n m = ([], 0, 2) := by unfold takeT; rw [ht, he, if_pos rfl, if_pos (Or.inl hm0)]
    rw [hr]
    have HT := Lib.hid ht; have HE := Lib.hid he; clear ht hr he
    go_enter Tryd.func55, Tryd.ntmps55
    go_wp2_with fail
    refine (RTakeUint_any l n _ (by omega)).mono ?_
    rw [HT.out]
    simp only [takeV]
    rintro eq w1 ⟨rfl, rfl⟩
    go_wp2
    go_ret3
    exact ⟨rfl, rfl⟩
  have hw3 : IntKind.u64.wrap m = m := by rw [u64_eq9]; omega
  by_cases hm1 : m < (u : Int)
  · have hr : takeT l n m = ([], 0, 2) := by unfold takeT; rw [ht, he, if_pos rfl, if_pos (Or.inr hm1)]
    rw [hr]
    have HT := Lib.hid ht; have HE := Lib.hid he; clear ht hr he
    go_enter Tryd.func55, Tryd.ntmps55
    go_wp2_with fail
    refine (RTakeUint_any l n _ (by omega)).mono ?_
    rw [HT.out]
    simp only [takeV]
    rintro eq w1 ⟨rfl, rfl⟩
    go_wp2
    go_ret3
    exact ⟨rfl, rfl⟩
  by_cases hm2 : (l.length : Int) - (nx : Int) < (u : Int)
  · have hr : takeT l n m = ([], 0, 6) := by unfold takeT; rw [ht, he, if_pos rfl, if_neg (by rintro (h | h) <;> contradiction), if_pos hm2]
    rw [hr]
    have HT := Lib.hid ht; have HE := Lib.hid he; clear ht hr he
    go_enter Tryd.func55, Tryd.ntmps55
    go_wp2_with fail
    refine (RTakeUint_any l n _ (by omega)).mono ?_
    rw [HT.out]
    simp only [takeV]
    rintro eq w1 ⟨rfl, rfl⟩
    go_wp2
    go_ret3
    exact ⟨rfl, rfl⟩
  have hw4 : IntKind.i64.wrap (u : Int) = (u : Int) := by rw [IntKind.wrap_i64]; omega
  have hr : takeT l n m = ((l.drop nx).take u, ((nx + u : Nat) : Int), 0) := by unfold takeT; rw [ht, he, if_pos rfl, if_neg (by rintro (h | h) <;> contradiction), if_neg hm2]; simp
  rw [hr]
  have hw5 : IntKind.i64.wrap ((nx : Int) + (u : Int)) = ((nx + u : Nat) : Int) := by rw [IntKind.wrap_i64]; omega
  have hl1 : nx ≤ nx + u := by omega
  have hl2 : ((nx + u : Nat) : Int) ≤ (l.length : Int) := by omega
  have HS := Lib.hid (cut_eq l nx u)
  have HT := Lib.hid ht; have HE := Lib.hid he; clear ht hr he
  go_enter Tryd.func55, Tryd.ntmps55
  go_wp2_with fail
  refine (RTakeUint_any l n _ (by omega)).mono ?_
  rw [HT.out]
  simp only [takeV]
  rintro eq w1 ⟨rfl, rfl⟩
  go_wp2
  go_ret3
  exact ⟨by simp [bs, HS.out], rfl⟩
set_option maxRecDepth 100000 in
set_option maxHeartbeats 8000000 in
theorem RVDecode_any (l : List UInt8) (n : Int) (hl : l.length ≤ 1000000) (w : World) :
    Calls Tryd.prog 27 #[.string (bs l), .int .i64 n] w fun e w' => e = .returned (.tuple #[.agg (vV (decV l n).1), .int .i64 (decV l n).2.1, .int .i64 (decV l n).2.2]) ∧ Below w.heap.size w w' := by
  obtain ⟨⟨u, nx, er⟩, ht⟩ : ∃ r, takeS l n = r := ⟨_, rfl⟩
  have hb := takeS_bounds l n
  rw [ht] at hb
  obtain ⟨hb1, hb2, hb3, hb4, hb5, -⟩ := hb
  simp only at hb1 hb2 hb3 hb4 hb5
  by_cases he : er = 0
  rotate_left
  · have te : (er != 0) = true := by rw [bne_iff_ne]; exact he
    have hr : decV l n = (v00, 0, er) := dec_err ht he
    rw [hr]; clear hr
    simp only [vV, v00]
    have HT := Lib.hid ht; have HE := Lib.hid he; clear ht he
    have HR := Lib.hid (Bx.new w #[.int .i64 0, .int .i64 0, .string ⟨#[]⟩] 23); have HB := Lib.hid ((Below.refl w.heap.size w).alloc (Nat.le_refl _) (.cells #[.int .i64 0, .int .i64 0, .string ⟨#[]⟩] 23))
    go_enter Tryd.func27, Tryd.ntmps27
    go_upto_region 1 with (fail)
    generalize hW : w.alloc (.cells #[.int .i64 0, .int .i64 0, .string ⟨#[]⟩] 23) = v0 at HR HB ⊢
    clear hW
    go_wp2_with fail
    refine (RTakeUint_any l n _ (by omega)).mono ?_
    rw [HT.out]
    simp only [takeV]
    rintro er1 w1 ⟨rfl, rfl⟩
    have r0 : v0.cell? ⟨w.heap.size, 0, none⟩ = some (.int .i64 0) := HR.out.cell 0
    have r1 : v0.cell? ⟨w.heap.size, 1, none⟩ = some (.int .i64 0) := HR.out.cell 1
    have r2 : v0.cell? ⟨w.heap.size, 2, none⟩ = some (.string ⟨#[]⟩) := HR.out.cell 2
    have f0 := HR.out.free 0
    have f1 := HR.out.free 1
    have f2 := HR.out.free 2
    have HK := Lib.hid (HR.out.sets3 (.int .i64 0) (.int .i64 0) (.string ⟨#[]⟩))
    go_wp2
    have k0 := HK.out.cell 0
    have k1 := HK.out.cell 1
    have k2 := HK.out.cell 2
    simp only [List.getElem?_toArray, List.getElem?_cons_zero, List.getElem?_cons_succ] at k0 k1 k2
    refine bodyPost_ret (v := .tuple #[.agg #[.int .i64 0, .int .i64 0, .string (bs [])], .int .i64 0, .int .i64 er]) (by simp [results, Tryd.results27, go_sem, k0, k1, k2] <;> rfl) rfl ⟨rfl, ?_⟩
    exact below_sets3 HB.out w.heap.size (Nat.le_refl _) _ _ _
  have te : (er != 0) = false := by rw [he]; rfl
  subst he
  by_cases hu : u = 0
  · have t0 : ((u : Int) == 0) = true := by rw [hu]; rfl
    have hr : decV l n = (v00, nx, 0) := dec_nil ht hu
    rw [hr]; clear hr
    simp only [vV, v00]
    have HT := Lib.hid ht; have HU := Lib.hid hu; clear ht hu
    have HR := Lib.hid (Bx.new w #[.int .i64 0, .int .i64 0, .string ⟨#[]⟩] 23); have HB := Lib.hid ((Below.refl w.heap.size w).alloc (Nat.le_refl _) (.cells #[.int .i64 0, .int .i64 0, .string ⟨#[]⟩] 23))
    go_enter Tryd.func27, Tryd.ntmps27
    go_upto_region 1 with (fail)
    generalize hW : w.alloc (.cells #[.int .i64 0, .int .i64 0, .string ⟨#[]⟩] 23) = v0 at HR HB ⊢
    clear hW
    go_wp2_with fail
    refine (RTakeUint_any l n _ (by omega)).mono ?_
    rw [HT.out]
    simp only [takeV]
    rintro er1 w1 ⟨rfl, rfl⟩
    have r0 : v0.cell? ⟨w.heap.size, 0, none⟩ = some (.int .i64 0) := HR.out.cell 0
    have r1 : v0.cell? ⟨w.heap.size, 1, none⟩ = some (.int .i64 0) := HR.out.cell 1
    have r2 : v0.cell? ⟨w.heap.size, 2, none⟩ = some (.string ⟨#[]⟩) := HR.out.cell 2
    have f0 := HR.out.free 0
    have f1 := HR.out.free 1
    have f2 := HR.out.free 2
    have HK := Lib.hid (HR.out.sets3 (.int .i64 0) (.int .i64 0) (.string ⟨#[]⟩))
    go_wp2
    have k0 := HK.out.cell 0
    have k1 := HK.out.cell 1
    have k2 := HK.out.cell 2
    simp only [List.getElem?_toArray, List.getElem?_cons_zero, List.getElem?_cons_succ] at k0 k1 k2
    refine bodyPost_ret (v := .tuple #[.agg #[.int .i64 0, .int .i64 0, .string (bs [])], .int .i64 nx, .int .i64 0]) (by simp [results, Tryd.results27, go_sem, k0, k1, k2] <;> rfl) rfl ⟨rfl, ?_⟩
    exact below_sets3 HB.out w.heap.size (Nat.le_refl _) _ _ _
  have t0 : ((u : Int) == 0) = false := by rw [beq_eq_false_iff_ne]; omega
  have h0 := hu; clear hu
  by_cases hu : u = 1
  · have t1 : ((u : Int) == 1) = true := by rw [hu]; rfl
    obtain ⟨⟨k, nd, e2⟩, h2⟩ : ∃ r, takeI l nx = r := ⟨_, rfl⟩
    by_cases he : e2 = 0
    · have te2 : (e2 != 0) = false := by rw [he]; rfl
      have hr : decV l n = (⟨1, k, []⟩, nd, 0) := dec_int ht hu h2 he
      rw [hr]; clear hr
      simp only [vV]
      have HT := Lib.hid ht; have HU := Lib.hid hu; have H2 := Lib.hid h2; have HE := Lib.hid he; clear ht hu h2 he h0
      have HR := Lib.hid (Bx.new w #[.int .i64 0, .int .i64 0, .string ⟨#[]⟩] 23); have HB := Lib.hid ((Below.refl w.heap.size w).alloc (Nat.le_refl _) (.cells #[.int .i64 0, .int .i64 0, .string ⟨#[]⟩] 23))
      go_enter Tryd.func27, Tryd.ntmps27
      go_upto_region 1 with (fail)
      generalize hW : w.alloc (.cells #[.int .i64 0, .int .i64 0, .string ⟨#[]⟩] 23) = v0 at HR HB ⊢
      clear hW
      go_wp2_with fail
      refine (RTakeUint_any l n _ (by omega)).mono ?_
      rw [HT.out]
      simp only [takeV]
      rintro er1 w1 ⟨rfl, rfl⟩
      go_wp2_with fail
      refine (RTakeInt_any l nx _ hl).mono ?_
      rw [H2.out]
      rintro er2 w2 ⟨rfl, rfl⟩
      go_wp2_with fail
      refine (RVInt_any k _).mono ?_
      simp only [vV, intV5]
      rintro er3 w3 ⟨rfl, hb9⟩
      have HR := Lib.hid (HR.out.call hb9); have HB := Lib.hid (btrans HB.out HB.out.size hb9); clear hb9
      have r0 : w3.cell? ⟨w.heap.size, 0, none⟩ = some (.int .i64 0) := HR.out.cell 0
      have r1 : w3.cell? ⟨w.heap.size, 1, none⟩ = some (.int .i64 0) := HR.out.cell 1
      have r2 : w3.cell? ⟨w.heap.size, 2, none⟩ = some (.string ⟨#[]⟩) := HR.out.cell 2
      have f0 := HR.out.free 0
      have f1 := HR.out.free 1
      have f2 := HR.out.free 2
      have HK := Lib.hid (HR.out.sets3 (.int .i64 1) (.int .i64 k) (.string (bs [])))
      go_wp2
      have k0 := HK.out.cell 0
      have k1 := HK.out.cell 1
      have k2 := HK.out.cell 2
      simp only [List.getElem?_toArray, List.getElem?_cons_zero, List.getElem?_cons_succ] at k0 k1 k2
      refine bodyPost_ret (v := .tuple #[.agg #[.int .i64 1, .int .i64 k, .string (bs [])], .int .i64 nd, .int .i64 0]) (by simp [results, Tryd.results27, go_sem, k0, k1, k2] <;> rfl) rfl ⟨rfl, ?_⟩
      exact below_sets3 HB.out w.heap.size (Nat.le_refl _) _ _ _
    · have te2 : (e2 != 0) = true := by rw [bne_iff_ne]; exact he
      have hr : decV l n = (v00, 0, e2) := dec_ierr ht hu h2 he
      rw [hr]; clear hr
      simp only [vV, v00]
      have HT := Lib.hid ht; have HU := Lib.hid hu; have H2 := Lib.hid h2; have HE := Lib.hid he; clear ht hu h2 he h0
      have HR := Lib.hid (Bx.new w #[.int .i64 0, .int .i64 0, .string ⟨#[]⟩] 23); have HB := Lib.hid ((Below.refl w.heap.size w).alloc (Nat.le_refl _) (.cells #[.int .i64 0, .int .i64 0, .string ⟨#[]⟩] 23))
      go_enter Tryd.func27, Tryd.ntmps27
      go_upto_region 1 with (fail)
      generalize hW : w.alloc (.cells #[.int .i64 0, .int .i64 0, .string ⟨#[]⟩] 23) = v0 at HR HB ⊢
      clear hW
      go_wp2_with fail
      refine (RTakeUint_any l n _ (by omega)).mono ?_
      rw [HT.out]
      simp only [takeV]
      rintro er1 w1 ⟨rfl, rfl⟩
      go_wp2_with fail
      refine (RTakeInt_any l nx _ hl).mono ?_
      rw [H2.out]
      rintro er2 w2 ⟨rfl, rfl⟩
      have r0 : v0.cell? ⟨w.heap.size, 0, none⟩ = some (.int .i64 0) := HR.out.cell 0
      have r1 : v0.cell? ⟨w.heap.size, 1, none⟩ = some (.int .i64 0) := HR.out.cell 1
      have r2 : v0.cell? ⟨w.heap.size, 2, none⟩ = some (.string ⟨#[]⟩) := HR.out.cell 2
      have f0 := HR.out.free 0
      have f1 := HR.out.free 1
      have f2 := HR.out.free 2
      have HK := Lib.hid (HR.out.sets3 (.int .i64 0) (.int .i64 0) (.string ⟨#[]⟩))
      go_wp2
      have k0 := HK.out.cell 0
      have k1 := HK.out.cell 1
      have k2 := HK.out.cell 2
      simp only [List.getElem?_toArray, List.getElem?_cons_zero, List.getElem?_cons_succ] at k0 k1 k2
      refine bodyPost_ret (v := .tuple #[.agg #[.int .i64 0, .int .i64 0, .string (bs [])], .int .i64 0, .int .i64 e2]) (by simp [results, Tryd.results27, go_sem, k0, k1, k2] <;> rfl) rfl ⟨rfl, ?_⟩
      exact below_sets3 HB.out w.heap.size (Nat.le_refl _) _ _ _
  have t1 : ((u : Int) == 1) = false := by rw [beq_eq_false_iff_ne]; omega
  have h1 := hu; clear hu
  by_cases hu : u = 2
  rotate_left
  · have s2 : ((u : Int) != 2) = true := by rw [bne_iff_ne]; omega
    have hr : decV l n = (v00, 0, 5) := dec_bad ht h0 h1 hu
    rw [hr]; clear hr
    simp only [vV, v00]
    have HT := Lib.hid ht; have HU := Lib.hid hu; clear ht hu h0 h1
    have HR := Lib.hid (Bx.new w #[.int .i64 0, .int .i64 0, .string ⟨#[]⟩] 23); have HB := Lib.hid ((Below.refl w.heap.size w).alloc (Nat.le_refl _) (.cells #[.int .i64 0, .int .i64 0, .string ⟨#[]⟩] 23))
    go_enter Tryd.func27, Tryd.ntmps27
    go_upto_region 1 with (fail)
    generalize hW : w.alloc (.cells #[.int .i64 0, .int .i64 0, .string ⟨#[]⟩] 23) = v0 at HR HB ⊢
    clear hW
    go_wp2_with fail
    refine (RTakeUint_any l n _ (by omega)).mono ?_
    rw [HT.out]
    simp only [takeV]
    rintro er1 w1 ⟨rfl, rfl⟩
    have r0 : v0.cell? ⟨w.heap.size, 0, none⟩ = some (.int .i64 0) := HR.out.cell 0
    have r1 : v0.cell? ⟨w.heap.size, 1, none⟩ = some (.int .i64 0) := HR.out.cell 1
    have r2 : v0.cell? ⟨w.heap.size, 2, none⟩ = some (.string ⟨#[]⟩) := HR.out.cell 2
    have f0 := HR.out.free 0
    have f1 := HR.out.free 1
    have f2 := HR.out.free 2
    have HK := Lib.hid (HR.out.sets3 (.int .i64 0) (.int .i64 0) (.string ⟨#[]⟩))
    go_wp2
    have k0 := HK.out.cell 0
    have k1 := HK.out.cell 1
    have k2 := HK.out.cell 2
    simp only [List.getElem?_toArray, List.getElem?_cons_zero, List.getElem?_cons_succ] at k0 k1 k2
    refine bodyPost_ret (v := .tuple #[.agg #[.int .i64 0, .int .i64 0, .string (bs [])], .int .i64 0, .int .i64 5]) (by simp [results, Tryd.results27, go_sem, k0, k1, k2] <;> rfl) rfl ⟨rfl, ?_⟩
    exact below_sets3 HB.out w.heap.size (Nat.le_refl _) _ _ _
  have s2 : ((u : Int) != 2) = false := by rw [hu]; rfl
  obtain ⟨⟨t, nd, e2⟩, h2⟩ : ∃ r, takeT l nx 64 = r := ⟨_, rfl⟩
  have htl : t.length ≤ l.length := by have := text_len l nx 64; rw [h2] at this; exact this
  by_cases he : e2 = 0
  rotate_left
  · have te2 : (e2 != 0) = true := by rw [bne_iff_ne]; exact he
    have te3 : (e2 == 0) = false := by rw [beq_eq_false_iff_ne]; exact he
    have hr : decV l n = (v00, 0, e2) := dec_serr ht hu h2 he
    rw [hr]; clear hr
    simp only [vV, v00]
    have HT := Lib.hid ht; have HU := Lib.hid hu; have H2 := Lib.hid h2; have HE := Lib.hid he; clear ht hu h2 he h0 h1
    have HR := Lib.hid (Bx.new w #[.int .i64 0, .int .i64 0, .string ⟨#[]⟩] 23); have HB := Lib.hid ((Below.refl w.heap.size w).alloc (Nat.le_refl _) (.cells #[.int .i64 0, .int .i64 0, .string ⟨#[]⟩] 23))
    go_enter Tryd.func27, Tryd.ntmps27
    go_upto_region 1 with (fail)
    generalize hW : w.alloc (.cells #[.int .i64 0, .int .i64 0, .string ⟨#[]⟩] 23) = v0 at HR HB ⊢
    clear hW
    go_wp2_with fail
    refine (RTakeUint_any l n _ (by omega)).mono ?_
    rw [HT.out]
    simp only [takeV]
    rintro er1 w1 ⟨rfl, rfl⟩
    go_wp2_with fail
    refine (RTakeText_any l nx 64 _ hl (by omega)).mono ?_
    rw [H2.out]
    rintro er2 w2 ⟨rfl, rfl⟩
    have r0 : v0.cell? ⟨w.heap.size, 0, none⟩ = some (.int .i64 0) := HR.out.cell 0
    have r1 : v0.cell? ⟨w.heap.size, 1, none⟩ = some (.int .i64 0) := HR.out.cell 1
    have r2 : v0.cell? ⟨w.heap.size, 2, none⟩ = some (.string ⟨#[]⟩) := HR.out.cell 2
    have f0 := HR.out.free 0
    have f1 := HR.out.free 1
    have f2 := HR.out.free 2
    have HK := Lib.hid (HR.out.sets3 (.int .i64 0) (.int .i64 0) (.string ⟨#[]⟩))
    go_wp2
    have k0 := HK.out.cell 0
    have k1 := HK.out.cell 1
    have k2 := HK.out.cell 2
    simp only [List.getElem?_toArray, List.getElem?_cons_zero, List.getElem?_cons_succ] at k0 k1 k2
    refine bodyPost_ret (v := .tuple #[.agg #[.int .i64 0, .int .i64 0, .string (bs [])], .int .i64 0, .int .i64 e2]) (by simp [results, Tryd.results27, go_sem, k0, k1, k2] <;> rfl) rfl ⟨rfl, ?_⟩
    exact below_sets3 HB.out w.heap.size (Nat.le_refl _) _ _ _
  have te2 : (e2 != 0) = false := by rw [he]; rfl
  have te3 : (e2 == 0) = true := by rw [he]; rfl
  cases hp : plB t with
  | true =>
    have hr : decV l n = (⟨2, 0, t⟩, nd, 0) := dec_str ht hu h2 he hp
    rw [hr]; clear hr
    simp only [vV]
    have HP := Lib.hid hp; clear hp
    have HT := Lib.hid ht; have HU := Lib.hid hu; have H2 := Lib.hid h2; have HE := Lib.hid he; clear ht hu h2 he h0 h1
    have HR := Lib.hid (Bx.new w #[.int .i64 0, .int .i64 0, .string ⟨#[]⟩] 23); have HB := Lib.hid ((Below.refl w.heap.size w).alloc (Nat.le_refl _) (.cells #[.int .i64 0, .int .i64 0, .string ⟨#[]⟩] 23))
    go_enter Tryd.func27, Tryd.ntmps27
    go_upto_region 1 with (fail)
    generalize hW : w.alloc (.cells #[.int .i64 0, .int .i64 0, .string ⟨#[]⟩] 23) = v0 at HR HB ⊢
    clear hW
    go_wp2_with fail
    refine (RTakeUint_any l n _ (by omega)).mono ?_
    rw [HT.out]
    simp only [takeV]
    rintro er1 w1 ⟨rfl, rfl⟩
    go_wp2_with fail
    refine (RTakeText_any l nx 64 _ hl (by omega)).mono ?_
    rw [H2.out]
    rintro er2 w2 ⟨rfl, rfl⟩
    go_wp2_with fail
    refine (RPlain_any t _ (by omega)).mono ?_
    rw [HP.out]
    rintro er3 w3 ⟨rfl, rfl⟩
    have r0 : v0.cell? ⟨w.heap.size, 0, none⟩ = some (.int .i64 0) := HR.out.cell 0
    have r1 : v0.cell? ⟨w.heap.size, 1, none⟩ = some (.int .i64 0) := HR.out.cell 1
    have r2 : v0.cell? ⟨w.heap.size, 2, none⟩ = some (.string ⟨#[]⟩) := HR.out.cell 2
    have f0 := HR.out.free 0
    have f1 := HR.out.free 1
    have f2 := HR.out.free 2
    have HK := Lib.hid (HR.out.sets3 (.int .i64 2) (.int .i64 0) (.string (bs t)))
    go_wp2
    have k0 := HK.out.cell 0
    have k1 := HK.out.cell 1
    have k2 := HK.out.cell 2
    simp only [List.getElem?_toArray, List.getElem?_cons_zero, List.getElem?_cons_succ] at k0 k1 k2
    refine bodyPost_ret (v := .tuple #[.agg #[.int .i64 2, .int .i64 0, .string (bs t)], .int .i64 nd, .int .i64 0]) (by simp [results, Tryd.results27, go_sem, k0, k1, k2] <;> rfl) rfl ⟨rfl, ?_⟩
    exact below_sets3 HB.out w.heap.size (Nat.le_refl _) _ _ _
  | false =>
    have hr : decV l n = (v00, 0, 5) := dec_spl ht hu h2 he hp
    rw [hr]; clear hr
    simp only [vV, v00]
    have HP := Lib.hid hp; clear hp
    have HT := Lib.hid ht; have HU := Lib.hid hu; have H2 := Lib.hid h2; have HE := Lib.hid he; clear ht hu h2 he h0 h1
    have HR := Lib.hid (Bx.new w #[.int .i64 0, .int .i64 0, .string ⟨#[]⟩] 23); have HB := Lib.hid ((Below.refl w.heap.size w).alloc (Nat.le_refl _) (.cells #[.int .i64 0, .int .i64 0, .string ⟨#[]⟩] 23))
    go_enter Tryd.func27, Tryd.ntmps27
    go_upto_region 1 with (fail)
    generalize hW : w.alloc (.cells #[.int .i64 0, .int .i64 0, .string ⟨#[]⟩] 23) = v0 at HR HB ⊢
    clear hW
    go_wp2_with fail
    refine (RTakeUint_any l n _ (by omega)).mono ?_
    rw [HT.out]
    simp only [takeV]
    rintro er1 w1 ⟨rfl, rfl⟩
    go_wp2_with fail
    refine (RTakeText_any l nx 64 _ hl (by omega)).mono ?_
    rw [H2.out]
    rintro er2 w2 ⟨rfl, rfl⟩
    go_wp2_with fail
    refine (RPlain_any t _ (by omega)).mono ?_
    rw [HP.out]
    rintro er3 w3 ⟨rfl, rfl⟩
    have r0 : v0.cell? ⟨w.heap.size, 0, none⟩ = some (.int .i64 0) := HR.out.cell 0
    have r1 : v0.cell? ⟨w.heap.size, 1, none⟩ = some (.int .i64 0) := HR.out.cell 1
    have r2 : v0.cell? ⟨w.heap.size, 2, none⟩ = some (.string ⟨#[]⟩) := HR.out.cell 2
    have f0 := HR.out.free 0
    have f1 := HR.out.free 1
    have f2 := HR.out.free 2
    have HK := Lib.hid (HR.out.sets3 (.int .i64 0) (.int .i64 0) (.string ⟨#[]⟩))
    go_wp2
    have k0 := HK.out.cell 0
    have k1 := HK.out.cell 1
    have k2 := HK.out.cell 2
    simp only [List.getElem?_toArray, List.getElem?_cons_zero, List.getElem?_cons_succ] at k0 k1 k2
    refine bodyPost_ret (v := .tuple #[.agg #[.int .i64 0, .int .i64 0, .string (bs [])], .int .i64 0, .int .i64 5]) (by simp [results, Tryd.results27, go_sem, k0, k1, k2] <;> rfl) rfl ⟨rfl, ?_⟩
    exact below_sets3 HB.out w.heap.size (Nat.le_refl _) _ _ _
end Go.Proofs.YtmffdoblpkjmjaaDoor
