/- Plain facts on disks with a fuse (layer 44): what an operation does to a disk with a fuse of n behind a number of operations. No conditions. -/
import Derived.Test.YtnghdolpmmdknaaDiskCrL
namespace Go.Proofs.Ytnghdolpmmdknaa
open Go.RowKit

/-- a valid disk of 16 sectors, behind done operations with a fuse of n -/
structure Fz (n done : Nat) (d : Dk) : Prop where
  v : validB d = true
  s : d.S.length = 16
  o : d.ops = ((if n = 0 then done else min done n : Nat) : Int)
  a : d.dead = decide (0 < n ∧ n ≤ done)
  f : d.fuse = ((n - done : Nat) : Int)
theorem fz_start (n : Nat) (hn : n < 256) : Fz n 0 (fuseS d16 n) := by
  have hv : validB d16 = true := by decide +kernel
  have hS : d16.S.length = 16 := by decide +kernel
  obtain ⟨h1, h2, h3⟩ := (validB_iff d16).1 hv
  obtain ⟨n1, n2, n3, n4, n5, n6⟩ := (numsB_iff d16).1 h1
  unfold fuseS
  rw [if_pos hv]
  refine ⟨?_, hS, ?_, ?_, ?_⟩
  · rw [validB_iff]
    refine ⟨?_, h2, h3⟩
    rw [numsB_iff]; simp only; omega
  · show d16.ops = _
    rw [show d16.ops = 0 from rfl]; split <;> simp
  · show d16.dead = _
    rw [show d16.dead = false from rfl]; symm; rw [decide_eq_false_iff_not]; omega
  · show min (max (n : Int) 0) 1099511627776 = _; omega
theorem fz_happen {n done : Nat} {d : Dk} (h : Fz n done d) (hd : done < 2000000) (hn : n < 256) (hl : ¬ (0 < n ∧ n ≤ done)) (f : Dk → Dk)
    (hf : ∀ x : Dk, validB x = true → x.S.length = 16 → x.P.length = d.P.length → validB (f x) = true ∧ (f x).S.length = 16 ∧ (f x).ops = x.ops ∧ (f x).dead = x.dead ∧ (f x).fuse = x.fuse ∧ (f x).P.length ≤ x.P.length + 1) :
    ∃ d2 er, happenS d f = (d2, er) ∧ Fz n (done + 1) d2 ∧ er = (if 0 < n ∧ n ≤ done + 1 then 18 else 0) ∧ d2.P.length ≤ d.P.length + 1 := by
  obtain ⟨h1, h2, h3⟩ := (validB_iff d).1 h.v
  obtain ⟨n1, n2, n3, n4, n5, n6⟩ := (numsB_iff d).1 h1
  have ho := h.o
  have hfu := h.f
  unfold happenS
  by_cases hb : n = done + 1
  · have hfz : d.fuse = 1 := by rw [hfu]; omega
    rw [if_pos hfz]
    have ho1 : d.ops = (done : Int) := by rw [ho, if_neg (by omega)]; omega
    refine ⟨_, _, rfl, ⟨?_, h.s, ?_, ?_, ?_⟩, by rw [if_pos (by omega)], by simp⟩
    · rw [validB_iff]; refine ⟨?_, h2, h3⟩; rw [numsB_iff]; simp only; omega
    · show min (d.ops + 1) 1099511627776 = _; rw [ho1, if_neg (by omega)]; omega
    · show true = _; symm; rw [decide_eq_true_iff]; omega
    · show (0 : Int) = _; omega
  · have hfz : ¬ d.fuse = 1 := by rw [hfu]; omega
    rw [if_neg hfz]
    have ho1 : d.ops = (done : Int) := by
      rw [ho]; split
      · rfl
      · omega
    obtain ⟨x, hx⟩ : ∃ x : Dk, x = { d with ops := min (d.ops + 1) 1099511627776, fuse := max (d.fuse - 1) 0 } := ⟨_, rfl⟩
    rw [← hx]
    have x1 : x.S = d.S := by rw [hx]
    have x2 : x.P = d.P := by rw [hx]
    have x3 : x.ops = min (d.ops + 1) 1099511627776 := by rw [hx]
    have x4 : x.fuse = max (d.fuse - 1) 0 := by rw [hx]
    have x5 : x.dead = d.dead := by rw [hx]
    clear hx
    have hv : validB x = true := by
      rw [validB_iff, x1, x2]; refine ⟨?_, h2, h3⟩; rw [numsB_iff, x1, x3, x4]; omega
    obtain ⟨g1, g2, g3, g4, g5, g6⟩ := hf x hv (by rw [x1]; exact h.s) (by rw [x2])
    refine ⟨f x, 0, rfl, ⟨g1, g2, ?_, ?_, ?_⟩, by rw [if_neg (by omega)], by rw [x2] at g6; exact g6⟩
    · have hm : min ((done : Int) + 1) 1099511627776 = (done : Int) + 1 := Int.min_eq_left (by omega)
      rw [g3, x3, ho1, hm]
      clear hm hfu ho ho1 n5 n6 n3 n4
      split
      · rfl
      · rw [Nat.min_eq_left (by omega)]; rfl
    · rw [g4, x5, h.a, decide_eq_false hl]; symm; rw [decide_eq_false_iff_not]; omega
    · rw [g5, x4, hfu]; omega
theorem fz_sync {x : Dk} (hv : validB x = true) (hs : x.S.length = 16) : validB (syncD x) = true ∧ (syncD x).S.length = 16 ∧ (syncD x).ops = x.ops ∧ (syncD x).dead = x.dead ∧ (syncD x).fuse = x.fuse ∧ (syncD x).P.length ≤ x.P.length + 1 := by
  obtain ⟨h1, h2, h3⟩ := (validB_iff x).1 hv
  obtain ⟨n1, n2, n3, n4, n5, n6⟩ := (numsB_iff x).1 h1
  have hlen := perform_len x.S x.P
  have h64 : ∀ s ∈ perform x.S x.P, s.length = 64 := by
    have : ∀ (P : List (Int × List UInt8)) (S : List (List UInt8)), (∀ x ∈ P, x.2.length = 64) → (∀ s ∈ S, s.length = 64) → ∀ s ∈ perform S P, s.length = 64 := by
      intro P
      induction P with
      | nil => intro S _ hS; exact hS
      | cons x r ih =>
        intro S hP hS
        refine ih (S.set x.1.toNat x.2) (fun y hy => hP y (by simp [hy])) ?_
        intro s hs
        rcases List.mem_or_eq_of_mem_set hs with h | h
        · exact hS s h
        · rw [h]; exact hP x (by simp)
    exact this x.P x.S (fun y hy => (h3 y hy).2.2) h2
  refine ⟨?_, by rw [← hs]; exact hlen, rfl, rfl, rfl, by simp [syncD]⟩
  rw [validB_iff]
  refine ⟨?_, h64, fun y hy => absurd hy (by simp [syncD])⟩
  rw [numsB_iff]
  have e3 : (syncD x).S = perform x.S x.P := rfl
  have e4 : (syncD x).ops = x.ops := rfl
  have e5 : (syncD x).fuse = x.fuse := rfl
  rw [e3, e4, e5, hlen]; omega
theorem fz_add {x : Dk} (hv : validB x = true) (hs : x.S.length = 16) (at_ : Int) (h0 : 0 ≤ at_) (h16 : at_ < 16) (data : List UInt8) (hd : data.length = 64) :
    validB (addW at_ data x) = true ∧ (addW at_ data x).S.length = 16 ∧ (addW at_ data x).ops = x.ops ∧ (addW at_ data x).dead = x.dead ∧ (addW at_ data x).fuse = x.fuse ∧ (addW at_ data x).P.length ≤ x.P.length + 1 := by
  obtain ⟨h1, h2, h3⟩ := (validB_iff x).1 hv
  refine ⟨?_, hs, rfl, rfl, rfl, by simp [addW]⟩
  rw [validB_iff]
  refine ⟨h1, h2, ?_⟩
  intro y hy
  rcases List.mem_append.1 hy with hy | hy
  · exact h3 y hy
  · rw [List.mem_singleton.1 hy]
    show 0 ≤ at_ ∧ at_ < (x.S.length : Int) ∧ data.length = 64
    rw [hs]; omega
theorem fz_do {n done : Nat} {d : Dk} (h : Fz n done d) (hd : done < 2000000) (hn : n < 256) (at_ : Int) (hat : at_ < 16) (c : UInt8) :
    ∃ d2 er, doS d at_ c = (d2, er) ∧ Fz n (done + 1) d2 ∧ er = (if 0 < n ∧ n ≤ done + 1 then 18 else 0) ∧ d2.P.length ≤ d.P.length + 1 ∧ (0 < n → n < done + 1 → d2 = d) := by
  by_cases hl : 0 < n ∧ n ≤ done
  · have hdd : d.dead = true := by rw [h.a]; exact decide_eq_true hl
    refine ⟨d, 18, ?_, ⟨h.v, h.s, ?_, ?_, ?_⟩, by rw [if_pos (by omega)], by omega, fun _ _ => rfl⟩
    · unfold doS
      split
      · unfold syncS; rw [if_pos h.v, if_pos hdd]
      · unfold writeS
        rw [if_pos ⟨h.v, by unfold hasB; rw [h.s]; simp; omega, by simp⟩, if_pos hdd]
    · rw [h.o]; split <;> omega
    · rw [hdd]; symm; rw [decide_eq_true_iff]; omega
    · rw [h.f]; omega
  · have hdd : d.dead = false := by rw [h.a]; exact decide_eq_false hl
    by_cases h0 : at_ < 0
    · obtain ⟨d2, er, q1, q2, q3, q4⟩ := fz_happen h hd hn hl syncD (fun x hv hs _ => fz_sync hv hs)
      refine ⟨d2, er, ?_, q2, q3, q4, fun _ _ => by omega⟩
      unfold doS syncS
      rw [if_pos h0, if_pos h.v, if_neg (by rw [hdd]; decide), q1]
    · obtain ⟨d2, er, q1, q2, q3, q4⟩ := fz_happen h hd hn hl (addW at_ (List.replicate 64 c)) (fun x hv hs _ => fz_add hv hs at_ (by omega) hat _ (by simp))
      refine ⟨d2, er, ?_, q2, q3, q4, fun _ _ => by omega⟩
      unfold doS writeS
      rw [if_neg h0, if_pos ⟨h.v, by unfold hasB; rw [h.s]; simp; omega, by simp⟩, if_neg (by rw [hdd]; decide), q1]
theorem fz_end {n done : Nat} {d : Dk} (h : Fz n done d) : ∃ c x, crashD d [] 0 = c ∧ syncS c = (x, 0) ∧ x.dead = false ∧ x.fuse = 0 ∧ c.S.length = 16 ∧ c.P.length = 0 ∧ x.S.length = 16 ∧ x.P.length = 0 := by
  obtain ⟨v1, v2, v3, v4, v5, v6⟩ := crash_valid h.v [] 0
  obtain ⟨c, hc⟩ : ∃ c, crashD d [] 0 = c := ⟨_, rfl⟩
  rw [hc] at v1 v2 v3 v4 v5 v6
  have hl := perform_len c.S c.P
  refine ⟨c, syncD { c with ops := min (c.ops + 1) 1099511627776, fuse := max (c.fuse - 1) 0 }, hc, ?_, v4, ?_, by rw [v2]; exact h.s, by rw [v3]; rfl, ?_, rfl⟩
  · unfold syncS
    rw [if_pos v1, if_neg (by rw [v4]; decide)]
    unfold happenS; rw [if_neg (by rw [v5]; decide)]
  · show max (c.fuse - 1) 0 = 0; rw [v5]; rfl
  · show (perform c.S c.P).length = 16; rw [hl, v2]; exact h.s
end Go.Proofs.Ytnghdolpmmdknaa
