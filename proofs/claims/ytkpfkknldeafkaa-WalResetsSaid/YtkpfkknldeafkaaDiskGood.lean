/- Plain facts on disks that no fuse stops (layer 44): what is read is what was written last. No conditions. -/
import Derived.Test.YtkpfkknldeafkaaDiskLaw1
namespace Go.Proofs.Ytkpfkknldeafkaa
open Go.RowKit

/-- a valid disk of 16 sectors, without a fuse, alive, of which Read returns sectors filled with the bytes of want -/
structure Good (d : Dk) (want : List UInt8) : Prop where
  v : validB d = true
  n : d.S.length = 16
  f : d.fuse = 0
  a : d.dead = false
  m : want.length = 16
  r : ∀ k : Nat, k < 16 → lastW (d.S.getD k []) d.P k = List.replicate 64 (want.getD k 0)

set_option maxRecDepth 100000 in
theorem good_start : Good d16 (List.replicate 16 0) := by
  refine ⟨by decide +kernel, by decide +kernel, rfl, rfl, by decide, fun k hk => ?_⟩
  have h1 : d16.S.getD k [] = B64 := by
    show (List.replicate 16 B64).getD k [] = B64
    rw [List.getD_eq_getElem?_getD, List.getElem?_replicate, if_pos hk]; rfl
  have h2 : (List.replicate 16 (0 : UInt8)).getD k 0 = 0 := by
    rw [List.getD_eq_getElem?_getD, List.getElem?_replicate, if_pos hk]; rfl
  rw [h1, h2]; rfl
set_option maxRecDepth 100000 in
theorem perform_get : ∀ (P : List (Int × List UInt8)) (S : List (List UInt8)) (k : Nat), k < S.length → (∀ x ∈ P, 0 ≤ x.1 ∧ x.1 < (S.length : Int)) → (perform S P).getD k [] = lastW (S.getD k []) P k
  | [], _, _, _, _ => rfl
  | x :: r, S, k, hk, hP => by
    have hx := hP x (by simp)
    have e1 : perform S (x :: r) = perform (S.set x.1.toNat x.2) r := rfl
    have e2 : lastW (S.getD k []) (x :: r) k = lastW (if x.1 = (k : Int) then x.2 else S.getD k []) r k := rfl
    rw [e1, e2, perform_get r (S.set x.1.toNat x.2) k (by simpa using hk) (by intro y hy; have := hP y (by simp [hy]); simpa using this)]
    congr 1
    rw [List.getD_eq_getElem?_getD, List.getElem?_set]
    by_cases h : x.1 = (k : Int)
    · rw [if_pos h, if_pos (by omega), if_pos (by omega)]; rfl
    · rw [if_neg h, if_neg (by omega), List.getD_eq_getElem?_getD]
theorem lastW_nil (s : List UInt8) (k : Int) : lastW s [] k = s := rfl
theorem good_nums {d : Dk} {want : List UInt8} (h : Good d want) : numsB d = true ∧ (∀ s ∈ d.S, s.length = 64) ∧ ∀ x ∈ d.P, 0 ≤ x.1 ∧ x.1 < (d.S.length : Int) ∧ x.2.length = 64 := (validB_iff d).1 h.v
theorem good_has {d : Dk} {want : List UInt8} (h : Good d want) {k : Nat} (hk : k < 16) : hasB d k = true := by
  unfold hasB; rw [h.n]; simp; omega
theorem good_read {d : Dk} {want : List UInt8} (h : Good d want) {k : Nat} (hk : k < 16) : readS d k = (List.replicate 64 (want.getD k 0), 0) := by
  unfold readS; rw [if_pos ⟨h.v, good_has h hk⟩, h.a, if_neg (by decide), ← h.r k hk]; rfl
theorem good_out {d : Dk} {want : List UInt8} (h : Good d want) {n : Int} (hn : 16 ≤ n) (c : UInt8) : doS d n c = (d, 1) := by
  unfold doS writeS
  rw [if_neg (by omega), if_neg]
  intro h2
  have := h2.2.1
  unfold hasB at this; rw [h.n] at this; simp at this; omega
set_option maxRecDepth 100000 in
theorem good_write {d : Dk} {want : List UInt8} (h : Good d want) {m : Nat} (hm : m < 16) (c : UInt8) :
    ∃ d2, doS d m c = (d2, 0) ∧ Good d2 (want.set m c) ∧ d2.P.length = d.P.length + 1 := by
  obtain ⟨h1, h2, h3⟩ := good_nums h
  obtain ⟨n1, n2, n3, n4, n5, n6⟩ := (numsB_iff d).1 h1
  refine ⟨addW m (List.replicate 64 c) { d with ops := min (d.ops + 1) 1099511627776, fuse := max (d.fuse - 1) 0 }, ?_, ⟨?_, h.n, by rw [show (addW (m : Int) (List.replicate 64 c) { d with ops := min (d.ops + 1) 1099511627776, fuse := max (d.fuse - 1) 0 }).fuse = max (d.fuse - 1) 0 from rfl, h.f]; rfl, h.a, by rw [List.length_set]; exact h.m, fun k hk => ?_⟩, by simp [addW]⟩
  · unfold doS writeS
    rw [if_neg (by omega), if_pos ⟨h.v, good_has h hm, by simp⟩, if_neg (by rw [h.a]; decide)]
    unfold happenS; rw [if_neg (by rw [h.f]; decide)]
  · rw [validB_iff]
    refine ⟨?_, h2, ?_⟩
    · rw [numsB_iff]
      have e1 : (addW (m : Int) (List.replicate 64 c) { d with ops := min (d.ops + 1) 1099511627776, fuse := max (d.fuse - 1) 0 }).fuse = max (d.fuse - 1) 0 := rfl
      have e2 : (addW (m : Int) (List.replicate 64 c) { d with ops := min (d.ops + 1) 1099511627776, fuse := max (d.fuse - 1) 0 }).ops = min (d.ops + 1) 1099511627776 := rfl
      have e3 : (addW (m : Int) (List.replicate 64 c) { d with ops := min (d.ops + 1) 1099511627776, fuse := max (d.fuse - 1) 0 }).S = d.S := rfl
      rw [e1, e2, e3]
      omega
    · intro x hx
      rcases List.mem_append.1 hx with hx | hx
      · exact h3 x hx
      · rw [List.mem_singleton.1 hx]
        show 0 ≤ (m : Int) ∧ (m : Int) < (d.S.length : Int) ∧ (List.replicate 64 c).length = 64
        rw [h.n, List.length_replicate]; omega
  · show lastW (d.S.getD k []) (d.P ++ [((m : Int), List.replicate 64 c)]) k = _
    rw [lastW_snoc, h.r k hk, List.getD_eq_getElem?_getD, List.getD_eq_getElem?_getD, List.getElem?_set]
    by_cases hkm : m = k
    · subst hkm
      rw [if_pos rfl, if_pos rfl, if_pos (by rw [h.m]; exact hk)]; rfl
    · rw [if_neg (by simp only; omega), if_neg hkm]
set_option maxRecDepth 100000 in
theorem good_sync {d : Dk} {want : List UInt8} (h : Good d want) :
    ∃ d2, syncS d = (d2, 0) ∧ Good d2 want ∧ d2.P = [] := by
  obtain ⟨h1, h2, h3⟩ := good_nums h
  obtain ⟨n1, n2, n3, n4, n5, n6⟩ := (numsB_iff d).1 h1
  have hlen := perform_len d.S d.P
  have h64 : ∀ s ∈ perform d.S d.P, s.length = 64 := by
    have : ∀ (P : List (Int × List UInt8)) (S : List (List UInt8)), (∀ x ∈ P, x.2.length = 64) → (∀ s ∈ S, s.length = 64) → ∀ s ∈ perform S P, s.length = 64 := by
      intro P
      induction P with
      | nil => intro S _ hS; exact hS
      | cons x r ih =>
        intro S hP hS
        refine ih (S.set x.1.toNat x.2) (fun y hy => hP y (by simp [hy])) ?_
        intro s hs
        rcases List.mem_or_eq_of_mem_set hs with h | h
        · exact hS s h
        · rw [h]; exact hP x (by simp)
    exact this d.P d.S (fun x hx => (h3 x hx).2.2) h2
  refine ⟨syncD { d with ops := min (d.ops + 1) 1099511627776, fuse := max (d.fuse - 1) 0 }, ?_, ⟨?_, by rw [← h.n]; exact hlen, by rw [show (syncD { d with ops := min (d.ops + 1) 1099511627776, fuse := max (d.fuse - 1) 0 }).fuse = max (d.fuse - 1) 0 from rfl, h.f]; rfl, h.a, h.m, fun k hk => ?_⟩, rfl⟩
  · unfold syncS
    rw [if_pos h.v, if_neg (by rw [h.a]; decide)]
    unfold happenS; rw [if_neg (by rw [h.f]; decide)]
  · rw [validB_iff]
    refine ⟨?_, h64, ?_⟩
    · rw [numsB_iff]
      have e1 : (syncD { d with ops := min (d.ops + 1) 1099511627776, fuse := max (d.fuse - 1) 0 }).fuse = max (d.fuse - 1) 0 := rfl
      have e2 : (syncD { d with ops := min (d.ops + 1) 1099511627776, fuse := max (d.fuse - 1) 0 }).ops = min (d.ops + 1) 1099511627776 := rfl
      have e3 : (syncD { d with ops := min (d.ops + 1) 1099511627776, fuse := max (d.fuse - 1) 0 }).S = perform d.S d.P := rfl
      rw [e1, e2, e3, hlen]
      omega
    · intro x hx
      exact absurd hx (by simp [syncD])
  · show lastW ((perform d.S d.P).getD k []) [] k = _
    rw [lastW_nil, perform_get d.P d.S k (by rw [h.n]; exact hk) (fun x hx => ⟨(h3 x hx).1, (h3 x hx).2.1⟩), h.r k hk]
theorem good_do_sync {d : Dk} {want : List UInt8} (h : Good d want) {n : Int} (hn : n < 0) (c : UInt8) : ∃ d2, doS d n c = (d2, 0) ∧ Good d2 want ∧ d2.P = [] := by
  unfold doS; rw [if_pos hn]; exact good_sync h
set_option maxRecDepth 100000 in
theorem good_crash {d : Dk} {want : List UInt8} (h : Good d want) (hP : d.P = []) (kb : List Bool) (tear : Int) : Good (crashD d kb tear) want := by
  obtain ⟨h1, h2, h3⟩ := good_nums h
  obtain ⟨n1, n2, n3, n4, n5, n6⟩ := (numsB_iff d).1 h1
  have e : crashD d kb tear = { d with P := [], fuse := 0, dead := false } := by
    rw [crash_on kb tear h.v]
    obtain ⟨S, P, fu, op, de⟩ := d
    simp only at hP
    subst hP
    rfl
  rw [e]
  refine ⟨?_, h.n, rfl, rfl, h.m, fun k hk => ?_⟩
  · rw [validB_iff]
    refine ⟨?_, h2, fun x hx => absurd hx (by simp)⟩
    rw [numsB_iff]; simp only; omega
  · have := h.r k hk; rw [hP] at this; exact this
end Go.Proofs.Ytkpfkknldeafkaa
