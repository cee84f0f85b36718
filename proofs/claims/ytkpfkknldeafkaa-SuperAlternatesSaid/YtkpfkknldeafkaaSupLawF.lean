/- A superblock is restored from its sector, and what Decode accepts is the sector of its result (plain facts of layer 46). No conditions. Storing superblocks with ascending generations on a disk without a fuse (plain facts of layer 46). No conditions. How a slice of superblocks is read as an argument of layer 46's laws. No conditions. The walk of SuperAlternates. No conditions. -/
import Derived.Test.YtkpfkknldeafkaaSupP
import Derived.Test.YtkpfkknldeafkaaSecJoinP
import Derived.Test.YtkpfkknldeafkaaSupFin
import Derived.Test.YtkpfkknldeafkaaRegion
namespace Go.Proofs.Ytkpfkknldeafkaa
open Go.RowKit

theorem trip_enc {x : Sp} (hv : spB x = true) : (encS x).2 = 0 ∧ decS (encS x).1 = (x, 0) ∧ (encS x).1.length = 64 := by
  have he : encS x = (sealedL x.g.toNat 0 1 (encD x), 0) := by unfold encS; rw [if_pos hv]
  rw [he]
  refine ⟨rfl, ?_, enc_len hv⟩
  have h40 := encD_len hv
  obtain ⟨h1, h2, h3, h4, h5, h6, h7, h8, h9, h10⟩ := spB_bounds hv
  have hst : stampB (x.g.toNat : Int) ((0 : Nat) : Int) ((1 : Nat) : Int) = true := by rw [stampB_iff]; omega
  have ho := openS_sealed x.g.toNat 0 1 (encD x) hst h40
  have hg : ((x.g.toNat : Nat) : Int) = x.g := by omega
  unfold decS
  rw [ho]
  simp only
  rw [if_neg (by simp), if_pos ⟨rfl, rfl⟩, hg]
  obtain ⟨e, qe⟩ : ∃ n : Nat, x.e = n := ⟨x.e.toNat, by omega⟩
  obtain ⟨a, qa⟩ : ∃ n : Nat, x.a = n := ⟨x.a.toNat, by omega⟩
  obtain ⟨z, qz⟩ : ∃ n : Nat, x.z = n := ⟨x.z.toNat, by omega⟩
  obtain ⟨p, qp⟩ : ∃ n : Nat, x.p = n := ⟨x.p.toNat, by omega⟩
  have hd : encD x = uintS e ++ uintS a ++ uintS z ++ uintS p := by unfold encD; rw [qe, qa, qz, qp]; simp only [Int.toNat_natCast]
  rw [qe] at h3 h4; rw [qa] at h5 h6; rw [qz] at h7 h8; rw [qp] at h9 h10
  have t1 : takeS (encD x) 0 = (e, ((uintS e).length : Int), 0) := by
    have h := take_uint e (by omega) [] (uintS a ++ (uintS z ++ uintS p))
    rw [hd]; simpa [List.append_assoc] using h
  have t2 : takeS (encD x) ((uintS e).length : Int) = (a, (((uintS e).length + (uintS a).length : Nat) : Int), 0) := by
    have h := take_uint a (by omega) (uintS e) (uintS z ++ uintS p)
    rw [hd]; simpa [List.append_assoc] using h
  have t3 : takeS (encD x) (((uintS e).length + (uintS a).length : Nat) : Int) = (z, (((uintS e).length + (uintS a).length + (uintS z).length : Nat) : Int), 0) := by
    have h := take_uint z (by omega) (uintS e ++ uintS a) (uintS p)
    rw [hd]; simpa [List.append_assoc] using h
  have t4 : takeS (encD x) (((uintS e).length + (uintS a).length + (uintS z).length : Nat) : Int) = (p, (((uintS e).length + (uintS a).length + (uintS z).length + (uintS p).length : Nat) : Int), 0) := by
    have h := take_uint p (by omega) (uintS e ++ uintS a ++ uintS z) []
    rw [hd]; simpa [List.append_assoc, Int.add_assoc] using h
  have k0 : tkN (encD x) 0 = ([], 0, 0) := rfl
  have k4 := tkN_ok (tkN_ok (tkN_ok (tkN_ok k0 t1) t2) t3) t4
  have hmk : mkSp x.g ([] ++ [e] ++ [a] ++ [z] ++ [p]) = x := by
    show (⟨x.g, (e : Int), (a : Int), (z : Int), (p : Int)⟩ : Sp) = x
    rw [← qe, ← qa, ← qz, ← qp]
  have hr := decD_ok (g := x.g) k4 (by rw [hd]; simp only [List.length_append]) (by simp only [bigB, List.nil_append, List.cons_append, List.any_cons, List.any_nil, Bool.or_false, Bool.or_eq_false_iff, decide_eq_false_iff_not]; omega) (by rw [hmk]; exact hv)
  rw [hr, hmk]

theorem tkN_inv (d : List UInt8) : ∀ k, (tkN d k).2.2 = 0 → ∃ (ns : List Nat) (a : Nat), tkN d k = (ns, (a : Int), 0) ∧ ns.length = k ∧ a ≤ d.length ∧ d.take a = ns.flatMap uintS
  | 0, _ => ⟨[], 0, rfl, rfl, Nat.zero_le _, by simp⟩
  | k + 1, h => by
    have h0 : (tkN d k).2.2 = 0 := by
      rcases Decidable.em ((tkN d k).2.2 = 0) with h1 | h1
      · exact h1
      · unfold tkN at h; rw [if_pos h1] at h; exact h
    obtain ⟨ns, a, e1, e2, e3, e4⟩ := tkN_inv d k h0
    by_cases ht : (takeS d a).2.2 = 0
    · obtain ⟨u, rest, q1, q2, q3, q4⟩ := take_inv ht
      refine ⟨ns ++ [u], a + (uintS u).length, tkN_ok e1 q3, by simp [e2], ?_, ?_⟩
      · have : (uintS u).length + rest.length = d.length - a := by rw [← List.length_append, ← q4, List.length_drop]
        omega
      · rw [List.take_add, e4, q4, List.take_left', List.flatMap_append]
        · simp
        · rfl
    · rw [tkN_bad e1 rfl ht] at h; exact absurd h ht
theorem trip_dec {s : List UInt8} {y : Sp} (h : decS s = (y, 0)) : spB y = true ∧ encS y = (s, 0) := by
  unfold decS at h
  by_cases h0 : (openS s).2.2 = 0
  · obtain ⟨g, p, q, d, ho, hst, hdl, hs⟩ := openS_ok h0
    rw [ho] at h
    simp only at h
    rw [if_neg (by simp)] at h
    by_cases hpq : (p : Int) = 0 ∧ (q : Int) = 1
    · rw [if_pos hpq] at h
      obtain ⟨hp, hq⟩ := hpq
      obtain rfl : p = 0 := by omega
      obtain rfl : q = 1 := by omega
      unfold decD at h
      by_cases hk : (tkN d 4).2.2 = 0
      · rw [if_neg (by rw [hk]; simp)] at h
        obtain ⟨ns, a, e1, e2, e3, e4⟩ := tkN_inv d 4 hk
        rw [e1] at h
        simp only at h
        by_cases hc : (a : Int) = (d.length : Int) ∧ bigB ns = false ∧ spB (mkSp (g : Int) ns) = true
        · rw [if_pos hc] at h
          obtain ⟨c1, c2, c3⟩ := hc
          have hy : mkSp (g : Int) ns = y := (Prod.mk.inj h).1
          obtain ⟨n0, n1, n2, n3, rfl⟩ : ∃ n0 n1 n2 n3, ns = [n0, n1, n2, n3] := by
            match ns, e2 with
            | [n0, n1, n2, n3], _ => exact ⟨n0, n1, n2, n3, rfl⟩
          have hd : d = uintS n0 ++ uintS n1 ++ uintS n2 ++ uintS n3 := by
            rw [List.take_of_length_le (by omega)] at e4
            rw [e4]; simp [List.append_assoc]
          have he : encD y = d := by
            rw [← hy, hd]
            show uintS (n0 : Int).toNat ++ uintS (n1 : Int).toNat ++ uintS (n2 : Int).toNat ++ uintS (n3 : Int).toNat = _
            simp only [Int.toNat_natCast]
          have hgy : y.g.toNat = g := by rw [← hy]; exact Int.toNat_natCast g
          have hv : spB y = true := by rw [← hy]; exact c3
          refine ⟨hv, ?_⟩
          unfold encS
          rw [if_pos hv, he, hgy, hs]
        · rw [if_neg hc] at h
          exact absurd (Prod.mk.inj h).2 (by decide)
      · rw [if_pos hk] at h
        exact absurd (Prod.mk.inj h).2 hk
    · rw [if_neg hpq] at h
      exact absurd (Prod.mk.inj h).2 (by decide)
  · rw [if_pos h0] at h
    exact absurd (Prod.mk.inj h).2 h0
end Go.Proofs.Ytkpfkknldeafkaa

namespace Go.Proofs.Ytkpfkknldeafkaa
open Go.RowKit

/-- a valid disk of 16 sectors without pending writes or a fuse, alive -/
structure Calm (d : Dk) : Prop where
  v : validB d = true
  s : d.S.length = 16
  p : d.P = []
  f : d.fuse = 0
  a : d.dead = false
theorem calm_start : Calm d16 := ⟨by decide +kernel, by decide +kernel, rfl, rfl, rfl⟩
theorem calm_read {d : Dk} (h : Calm d) (k : Nat) (hk : k < 16) : readS d k = (d.S.getD k [], 0) := by
  unfold readS
  rw [if_pos ⟨h.v, by unfold hasB; rw [h.s]; simp; omega⟩, h.a, if_neg (by decide), h.p]
  rfl
/-- what is stored: the disk behind it -/
theorem calm_store {d : Dk} (h : Calm d) {x : Sp} (hx : spB x = true) :
    ∃ d2, storeS d x = (d2, 0) ∧ Calm d2 ∧ d2.S = d.S.set (x.g % 2).toNat (encS x).1 := by
  obtain ⟨h1, h2, h3⟩ := (validB_iff d).1 h.v
  obtain ⟨n1, n2, n3, n4, n5, n6⟩ := (numsB_iff d).1 h1
  obtain ⟨t1, t2, t3⟩ := trip_enc hx
  obtain ⟨s, hs⟩ : ∃ s, (encS x).1 = s := ⟨_, rfl⟩
  rw [hs] at t3
  obtain ⟨m, hm⟩ : ∃ m : Nat, x.g % 2 = m := ⟨(x.g % 2).toNat, by omega⟩
  have hm2 : m < 2 := by omega
  obtain ⟨dw, hdw⟩ : ∃ q : Dk, q = addW m s { d with ops := min (d.ops + 1) 1099511627776, fuse := max (d.fuse - 1) 0 } := ⟨_, rfl⟩
  have w1 : dw.S = d.S := by rw [hdw]; rfl
  have w2 : dw.P = [((m : Int), s)] := by rw [hdw]; show d.P ++ [((m : Int), s)] = _; rw [h.p]; rfl
  have w3 : dw.fuse = 0 := by rw [hdw]; show max (d.fuse - 1) 0 = 0; rw [h.f]; rfl
  have w4 : dw.ops = min (d.ops + 1) 1099511627776 := by rw [hdw]; rfl
  have w5 : dw.dead = false := by rw [hdw]; exact h.a
  have hw : writeS d (x.g % 2) s = (dw, 0) := by
    unfold writeS
    rw [hm, if_pos ⟨h.v, by unfold hasB; rw [h.s]; simp; omega, t3⟩, h.a, if_neg (by decide)]
    unfold happenS; rw [h.f, if_neg (by decide), hdw, h.f]
  have hvw : validB dw = true := by
    rw [validB_iff, w1, w2]
    refine ⟨?_, h2, ?_⟩
    · rw [numsB_iff, w1, w3, w4]; omega
    · intro y hy
      rw [List.mem_singleton.1 hy, h.s]
      exact ⟨by simp only; omega, by simp only; omega, t3⟩
  clear hdw
  obtain ⟨d2, hd2⟩ : ∃ q : Dk, q = syncD { dw with ops := min (dw.ops + 1) 1099511627776, fuse := max (dw.fuse - 1) 0 } := ⟨_, rfl⟩
  have u1 : d2.S = d.S.set m s := by
    rw [hd2]; show perform dw.S dw.P = _; rw [w1, w2]; rfl
  have u2 : d2.P = [] := by rw [hd2]; rfl
  have u3 : d2.fuse = 0 := by rw [hd2]; show max (dw.fuse - 1) 0 = 0; rw [w3]; rfl
  have u4 : d2.ops = min (dw.ops + 1) 1099511627776 := by rw [hd2]; rfl
  have u5 : d2.dead = false := by rw [hd2]; exact w5
  have hsy : syncS dw = (d2, 0) := by
    unfold syncS
    rw [if_pos hvw, w5, if_neg (by decide)]
    unfold happenS; rw [w3, if_neg (by decide), hd2, w3]
  clear hd2
  refine ⟨d2, ?_, ⟨?_, by rw [u1, List.length_set]; exact h.s, u2, u3, u5⟩, by rw [u1, hs, hm]; rfl⟩
  · unfold storeS
    rw [if_neg (by rw [t1]; simp), hs, hw]
    simp only
    rw [if_neg (by simp), hsy]
  · rw [validB_iff, u1, u2]
    refine ⟨?_, ?_, fun y hy => absurd hy (by simp)⟩
    · rw [numsB_iff, u1, List.length_set, u3, u4, w4]; omega
    · intro y hy
      rcases List.mem_or_eq_of_mem_set hy with h' | h'
      · exact h2 y h'
      · rw [h']; exact t3

/-- behind stored superblocks, last the latest: every slot holds none or one that is not later; the latest is in its slot -/
structure Alt (d : Dk) (last : Sp) : Prop where
  c : Calm d
  l : ∀ k : Nat, k < 2 → (decS (d.S.getD k [])).2 ≠ 0 ∨ (decS (d.S.getD k [])).1.g ≤ last.g
  z : last = sp0 ∨ (spB last = true ∧ decS (d.S.getD (last.g % 2).toNat []) = (last, 0))
theorem alt_start : Alt d16 sp0 := ⟨calm_start, by decide +kernel, .inl rfl⟩
theorem getD_set (L : List (List UInt8)) (m k : Nat) (s : List UInt8) (hm : m < L.length) : (L.set m s).getD k [] = if k = m then s else L.getD k [] := by
  rw [List.getD_eq_getElem?_getD, List.getElem?_set]
  by_cases h : k = m
  · subst h; rw [if_pos rfl, if_pos hm, if_pos rfl]; rfl
  · rw [if_neg (fun e => h e.symm), if_neg h, List.getD_eq_getElem?_getD]
theorem alt_store {d : Dk} {last x : Sp} (h : Alt d last) (hx : spB x = true) (hg : last.g < x.g) :
    ∃ d2, storeS d x = (d2, 0) ∧ Alt d2 x ∧ loadS d2 = (x, 0) ∧ (x.g = last.g + 1 → 0 < last.g → readS d2 (last.g % 2) = (d2.S.getD (last.g % 2).toNat [], 0) ∧ decS (d2.S.getD (last.g % 2).toNat []) = (last, 0)) := by
  obtain ⟨d2, e1, e2, e3⟩ := calm_store h.c hx
  obtain ⟨t1, t2, t3⟩ := trip_enc hx
  obtain ⟨g1, _⟩ := spB_bounds hx
  have hl : (x.g % 2).toNat < d.S.length := by rw [h.c.s]; omega
  have hget : ∀ k, d2.S.getD k [] = if k = (x.g % 2).toNat then (encS x).1 else d.S.getD k [] := by intro k; rw [e3]; exact getD_set _ _ _ _ hl
  have hself : decS (d2.S.getD (x.g % 2).toNat []) = (x, 0) := by rw [hget, if_pos rfl]; exact t2
  have hle : ∀ k : Nat, k < 2 → (decS (d2.S.getD k [])).2 ≠ 0 ∨ (decS (d2.S.getD k [])).1.g ≤ x.g := by
    intro k hk
    rw [hget]
    split
    · right; rw [t2]; simp
    · rcases h.l k hk with h1 | h1
      · exact .inl h1
      · right; omega
  have hother : ∀ k : Nat, k < 2 → k ≠ (x.g % 2).toNat → (decS (d2.S.getD k [])).2 ≠ 0 ∨ (decS (d2.S.getD k [])).1.g < x.g := by
    intro k hk hne
    rw [hget, if_neg hne]
    rcases h.l k hk with h1 | h1
    · exact .inl h1
    · right; omega
  refine ⟨d2, e1, ⟨e2, hle, .inr ⟨hx, hself⟩⟩, ?_, ?_⟩
  · have r0 := calm_read e2 0 (by omega)
    have r1 := calm_read e2 1 (by omega)
    have hb : bestS (d2.S.getD 0 []) (d2.S.getD 1 []) = (x, true) := by
      unfold bestS
      rcases (show x.g % 2 = 0 ∨ x.g % 2 = 1 by omega) with hm | hm
      · rw [hm] at hself
        have h0 : decS (d2.S.getD 0 []) = (x, 0) := hself
        rw [h0]
        simp only
        rw [if_pos ⟨trivial, hle 1 (by omega)⟩]
      · rw [hm] at hself
        have h0 : decS (d2.S.getD 1 []) = (x, 0) := hself
        have h1 := hother 0 (by omega) (by rw [hm]; decide)
        rw [h0]
        simp only
        rw [if_neg, if_pos trivial]
        rintro ⟨q1, q2⟩
        rcases h1 with h1 | h1
        · exact h1 q1
        · rcases q2 with q2 | q2
          · exact q2 rfl
          · omega
    unfold loadS
    have r0' : readS d2 0 = (d2.S.getD 0 [], 0) := r0
    have r1' : readS d2 1 = (d2.S.getD 1 [], 0) := r1
    rw [r0', r1']
    simp only
    rw [if_neg (by simp), if_neg (by simp), hb]
    simp
  · intro hsucc hpos
    rcases h.z with hz | ⟨hz1, hz2⟩
    · rw [hz] at hpos; exact absurd hpos (by decide)
    · obtain ⟨m, hm⟩ : ∃ m : Nat, last.g % 2 = m := ⟨(last.g % 2).toNat, by omega⟩
      have hm2 : m < 2 := by omega
      rw [hm] at hz2 ⊢
      rw [Int.toNat_natCast] at hz2 ⊢
      refine ⟨calm_read e2 m (by omega), ?_⟩
      rw [hget, if_neg (by omega)]
      exact hz2
end Go.Proofs.Ytkpfkknldeafkaa

namespace Go.Proofs.Ytkpfkknldeafkaa
open Go.ChangeShapes Go.WideShapes Go.ChangeAt Go.RowKit

/-- v is a slice whose elements are the superblocks M -/
def SpS (W : World) (v : Value) (M : List Sp) : Prop :=
  ∃ a cap, v = .slice a M.length cap ∧ M.length ≤ cap ∧ (M ≠ [] → ∃ b off, a = some ⟨b, off, none⟩ ∧ ∀ i (h : i < M.length), W.cell? ⟨b, off + i * 5, none⟩ = some (.int .i64 M[i].g) ∧ W.cell? ⟨b, off + i * 5 + 1, none⟩ = some (.int .i64 M[i].e) ∧ W.cell? ⟨b, off + i * 5 + 2, none⟩ = some (.int .i64 M[i].a) ∧ W.cell? ⟨b, off + i * 5 + 3, none⟩ = some (.int .i64 M[i].z) ∧ W.cell? ⟨b, off + i * 5 + 4, none⟩ = some (.int .i64 M[i].p))
theorem SpS.at {W : World} {a : Option Addr} {c : Nat} {M : List Sp} (h : SpS W (.slice a M.length c) M) (k : Nat) (hk : k < M.length) :
    ∃ b off, a = some ⟨b, off, none⟩ ∧ M.length ≤ c ∧ W.cell? ⟨b, off + k * 5, none⟩ = some (.int .i64 M[k].g) ∧ W.cell? ⟨b, off + k * 5 + 1, none⟩ = some (.int .i64 M[k].e) ∧ W.cell? ⟨b, off + k * 5 + 2, none⟩ = some (.int .i64 M[k].a) ∧ W.cell? ⟨b, off + k * 5 + 3, none⟩ = some (.int .i64 M[k].z) ∧ W.cell? ⟨b, off + k * 5 + 4, none⟩ = some (.int .i64 M[k].p) := by
  obtain ⟨a', cap, he, hc, hx⟩ := h
  cases he
  obtain ⟨b, off, rfl, hcell⟩ := hx (by intro h0; rw [h0] at hk; simp at hk)
  exact ⟨b, off, rfl, hc, hcell k hk⟩
theorem SpS.below {W W' : World} {v : Value} {M : List Sp} (h : SpS W v M) (hb : Below W.heap.size W W') : SpS W' v M := by
  obtain ⟨a, cap, rfl, hc, hM⟩ := h
  refine ⟨a, cap, rfl, hc, fun hne => ?_⟩
  obtain ⟨b, off, rfl, hcell⟩ := hM hne
  refine ⟨b, off, rfl, fun i hi => ?_⟩
  obtain ⟨h0, h1, h2, h3, h4⟩ := hcell i hi
  exact ⟨cell1_below h0 hb, cell1_below h1 hb, cell1_below h2 hb, cell1_below h3 hb, cell1_below h4 hb⟩
section
variable {H : Type} {enc : TypeId × Value → H} {W : World} {base : Nat} {spare : Nat → Bool} {held : Bool}
set_option maxRecDepth 100000 in
theorem open_supers {r : Reach} {b0 : Nat} {v : Value} {d : DataW H} {p : List MemPlace} (hv : Value.okWide Try.prog W r b0 46 v) (h : DataW.Trod enc Try.prog W base spare held 46 v d p) :
    ∃ (a : Option Addr) (c : Nat) (M : List Sp), v = .slice a M.length c ∧ SpS W (.slice a M.length c) M := by
  obtain ⟨a0, len0, cap0, rfl⟩ := okWide_slice Try.underlying46 hv
  obtain ⟨fuel, hf⟩ := h
  rcases Deep.open_slice Try.underlying46 hf with ⟨hcs, _⟩ | ⟨a, len, cap, m, n, D, Pl, hcs, _, hl, _, hm, hx, hi⟩
  · simp [Value.cells] at hcs
    obtain ⟨rfl, rfl, rfl⟩ := hcs
    exact ⟨none, 0, [], rfl, ⟨none, 0, rfl, Nat.le_refl _, fun hne => absurd rfl hne⟩⟩
  · simp [Value.cells] at hcs
    obtain ⟨rfl, rfl, rfl⟩ := hcs
    have hlm : len0 ≤ m := by rw [hm]; split <;> omega
    have hel : ∀ i, i < len0 → ∃ q : Sp, W.cell? (a.add (i * 5)) = some (.int .i64 q.g) ∧ W.cell? ((a.add (i * 5)).add 1) = some (.int .i64 q.e) ∧ W.cell? ((a.add (i * 5)).add 2) = some (.int .i64 q.a) ∧ W.cell? ((a.add (i * 5)).add 3) = some (.int .i64 q.z) ∧ W.cell? ((a.add (i * 5)).add 4) = some (.int .i64 q.p) := by
      intro i hil
      obtain ⟨cs', hc, ht⟩ := hi i (by omega)
      rw [show Try.prog.cellsOf 23 = 5 by kernel_rfl] at hc
      obtain ⟨q, rfl⟩ := trod_super ht
      obtain ⟨_, _, hat⟩ := World.cells?_some hc
      have h0 := hat 0 (by decide)
      have h1 := hat 1 (by decide)
      have h2 := hat 2 (by decide)
      have h3 := hat 3 (by decide)
      have h4 := hat 4 (by decide)
      refine ⟨q, ?_, h1, h2, h3, h4⟩
      have : (a.add (i * 5)).add 0 = a.add (i * 5) := by unfold Addr.add; split <;> simp_all
      rw [this] at h0; exact h0
    obtain ⟨F, hF⟩ : ∃ F : Nat → Sp, ∀ i, i < len0 → W.cell? (a.add (i * 5)) = some (.int .i64 (F i).g) ∧ W.cell? ((a.add (i * 5)).add 1) = some (.int .i64 (F i).e) ∧ W.cell? ((a.add (i * 5)).add 2) = some (.int .i64 (F i).a) ∧ W.cell? ((a.add (i * 5)).add 3) = some (.int .i64 (F i).z) ∧ W.cell? ((a.add (i * 5)).add 4) = some (.int .i64 (F i).p) :=
      ⟨fun i => if h : i < len0 then (hel i h).choose else sp0, fun i h => by simp only [dif_pos h]; exact (hel i h).choose_spec⟩
    have hML : ((List.range len0).map F).length = len0 := by simp
    refine ⟨some a, cap0, (List.range len0).map F, by rw [hML], ⟨some a, cap0, rfl, by rw [hML]; exact hl, fun hne => ?_⟩⟩
    have h0 : 0 < len0 := by
      rcases Nat.eq_zero_or_pos len0 with h | h
      · subst h; simp at hne
      · exact h
    obtain ⟨b, off, spot⟩ := a
    have hspot : spot = none := by simpa [Addr.add] using World.cell?_spot (hF 0 h0).1
    subst hspot
    refine ⟨b, off, rfl, fun i hi2 => ?_⟩
    rw [hML] at hi2
    obtain ⟨q0, q1, q2, q3, q4⟩ := hF i hi2
    rw [addr_add] at q0 q1 q2 q3 q4
    rw [addr_add] at q1 q2 q3 q4
    simp only [List.getElem_map, List.getElem_range]
    exact ⟨q0, q1, q2, q3, q4⟩
end
end Go.Proofs.Ytkpfkknldeafkaa

namespace Go.Proofs.Ytkpfkknldeafkaa
open Go.RowKit

theorem ints_nostr {B o : Nat} {s : List UInt8} {T : TypeId} {W : World} {x : Sp} (h : Bx B (spV x) T W) : W.cell? ⟨B, o, none⟩ ≠ some (strV s) := by
  rw [h.cell o]
  match o with
  | 0 | 1 | 2 | 3 | 4 => intro e; cases e
  | n + 5 => intro e; simp [spV] at e
/-- a disk's lists stand when a superblock's box is written -/
theorem Lists.sets_ints {W : World} {sa pa : Option Addr} {sc pc : Nat} {d : Dk} (h : Lists W sa sc pa pc d) {B : Nat} {T : TypeId} {x : Sp} (hB : Bx B (spV x) T W) (u0 u1 u2 u3 u4 : Value) :
    Lists (((((W.setCell ⟨B, 0, none⟩ u0).setCell ⟨B, 1, none⟩ u1).setCell ⟨B, 2, none⟩ u2).setCell ⟨B, 3, none⟩ u3).setCell ⟨B, 4, none⟩ u4) sa sc pa pc d := by
  obtain ⟨⟨a, cap, he, hc, hx⟩, ⟨a', cap', he', hc', hx'⟩, h3, h4⟩ := h
  refine ⟨⟨a, cap, he, hc, fun hne => ?_⟩, ⟨a', cap', he', hc', fun hne => ?_⟩, h3, h4⟩
  · obtain ⟨b, off, ha, hcell⟩ := hx hne
    refine ⟨b, off, ha, fun i hi => cell1_sets (hcell i hi) ?_ _ _ _ _ _⟩
    intro e; subst e; exact ints_nostr hB (hcell i hi)
  · obtain ⟨b, off, ha, hcell⟩ := hx' hne
    refine ⟨b, off, ha, fun i hi => ?_⟩
    have hne2 : B ≠ b := by intro e; subst e; exact ints_nostr hB (hcell i hi).2
    exact ⟨cell1_sets (hcell i hi).1 hne2 _ _ _ _ _, cell1_sets (hcell i hi).2 hne2 _ _ _ _ _⟩
theorem cells6_below {W W' : World} {b0 i0 b1 i1 b2 i2 b3 i3 b4 i4 b5 i5 : Nat} {u0 u1 u2 u3 u4 u5 : Value} (h : W.cell? ⟨b0, i0, none⟩ = some u0 ∧ W.cell? ⟨b1, i1, none⟩ = some u1 ∧ W.cell? ⟨b2, i2, none⟩ = some u2 ∧ W.cell? ⟨b3, i3, none⟩ = some u3 ∧ W.cell? ⟨b4, i4, none⟩ = some u4 ∧ W.cell? ⟨b5, i5, none⟩ = some u5) (hb : Below W.heap.size W W') : W'.cell? ⟨b0, i0, none⟩ = some u0 ∧ W'.cell? ⟨b1, i1, none⟩ = some u1 ∧ W'.cell? ⟨b2, i2, none⟩ = some u2 ∧ W'.cell? ⟨b3, i3, none⟩ = some u3 ∧ W'.cell? ⟨b4, i4, none⟩ = some u4 ∧ W'.cell? ⟨b5, i5, none⟩ = some u5 := by
  obtain ⟨h0, h1, h2, h3, h4, h5⟩ := h
  exact ⟨cell1_below h0 hb, cell1_below h1 hb, cell1_below h2 hb, cell1_below h3 hb, cell1_below h4 hb, cell1_below h5 hb⟩
theorem cells10_below {W W' : World} {b0 i0 b1 i1 b2 i2 b3 i3 b4 i4 b5 i5 b6 i6 b7 i7 b8 i8 b9 i9 : Nat} {u0 u1 u2 u3 u4 u5 u6 u7 u8 u9 : Value} (h : W.cell? ⟨b0, i0, none⟩ = some u0 ∧ W.cell? ⟨b1, i1, none⟩ = some u1 ∧ W.cell? ⟨b2, i2, none⟩ = some u2 ∧ W.cell? ⟨b3, i3, none⟩ = some u3 ∧ W.cell? ⟨b4, i4, none⟩ = some u4 ∧ W.cell? ⟨b5, i5, none⟩ = some u5 ∧ W.cell? ⟨b6, i6, none⟩ = some u6 ∧ W.cell? ⟨b7, i7, none⟩ = some u7 ∧ W.cell? ⟨b8, i8, none⟩ = some u8 ∧ W.cell? ⟨b9, i9, none⟩ = some u9) (hb : Below W.heap.size W W') : W'.cell? ⟨b0, i0, none⟩ = some u0 ∧ W'.cell? ⟨b1, i1, none⟩ = some u1 ∧ W'.cell? ⟨b2, i2, none⟩ = some u2 ∧ W'.cell? ⟨b3, i3, none⟩ = some u3 ∧ W'.cell? ⟨b4, i4, none⟩ = some u4 ∧ W'.cell? ⟨b5, i5, none⟩ = some u5 ∧ W'.cell? ⟨b6, i6, none⟩ = some u6 ∧ W'.cell? ⟨b7, i7, none⟩ = some u7 ∧ W'.cell? ⟨b8, i8, none⟩ = some u8 ∧ W'.cell? ⟨b9, i9, none⟩ = some u9 := by
  obtain ⟨h0, h1, h2, h3, h4, h5, h6, h7, h8, h9⟩ := h
  exact ⟨cell1_below h0 hb, cell1_below h1 hb, cell1_below h2 hb, cell1_below h3 hb, cell1_below h4 hb, cell1_below h5 hb, cell1_below h6 hb, cell1_below h7 hb, cell1_below h8 hb, cell1_below h9 hb⟩
theorem cells10_sets {W : World} {x y i0 i1 i2 i3 i4 i5 i6 i7 i8 i9 : Nat} {u0 u1 u2 u3 u4 u5 u6 u7 u8 u9 : Value} (h : W.cell? ⟨x, i0, none⟩ = some u0 ∧ W.cell? ⟨x, i1, none⟩ = some u1 ∧ W.cell? ⟨x, i2, none⟩ = some u2 ∧ W.cell? ⟨x, i3, none⟩ = some u3 ∧ W.cell? ⟨x, i4, none⟩ = some u4 ∧ W.cell? ⟨y, i5, none⟩ = some u5 ∧ W.cell? ⟨y, i6, none⟩ = some u6 ∧ W.cell? ⟨y, i7, none⟩ = some u7 ∧ W.cell? ⟨y, i8, none⟩ = some u8 ∧ W.cell? ⟨y, i9, none⟩ = some u9) (b : Nat) (h_x : b ≠ x) (h_y : b ≠ y) (v0 v1 v2 v3 v4 : Value) :
    (((((W.setCell ⟨b, 0, none⟩ v0).setCell ⟨b, 1, none⟩ v1).setCell ⟨b, 2, none⟩ v2).setCell ⟨b, 3, none⟩ v3).setCell ⟨b, 4, none⟩ v4).cell? ⟨x, i0, none⟩ = some u0 ∧ (((((W.setCell ⟨b, 0, none⟩ v0).setCell ⟨b, 1, none⟩ v1).setCell ⟨b, 2, none⟩ v2).setCell ⟨b, 3, none⟩ v3).setCell ⟨b, 4, none⟩ v4).cell? ⟨x, i1, none⟩ = some u1 ∧ (((((W.setCell ⟨b, 0, none⟩ v0).setCell ⟨b, 1, none⟩ v1).setCell ⟨b, 2, none⟩ v2).setCell ⟨b, 3, none⟩ v3).setCell ⟨b, 4, none⟩ v4).cell? ⟨x, i2, none⟩ = some u2 ∧ (((((W.setCell ⟨b, 0, none⟩ v0).setCell ⟨b, 1, none⟩ v1).setCell ⟨b, 2, none⟩ v2).setCell ⟨b, 3, none⟩ v3).setCell ⟨b, 4, none⟩ v4).cell? ⟨x, i3, none⟩ = some u3 ∧ (((((W.setCell ⟨b, 0, none⟩ v0).setCell ⟨b, 1, none⟩ v1).setCell ⟨b, 2, none⟩ v2).setCell ⟨b, 3, none⟩ v3).setCell ⟨b, 4, none⟩ v4).cell? ⟨x, i4, none⟩ = some u4 ∧ (((((W.setCell ⟨b, 0, none⟩ v0).setCell ⟨b, 1, none⟩ v1).setCell ⟨b, 2, none⟩ v2).setCell ⟨b, 3, none⟩ v3).setCell ⟨b, 4, none⟩ v4).cell? ⟨y, i5, none⟩ = some u5 ∧ (((((W.setCell ⟨b, 0, none⟩ v0).setCell ⟨b, 1, none⟩ v1).setCell ⟨b, 2, none⟩ v2).setCell ⟨b, 3, none⟩ v3).setCell ⟨b, 4, none⟩ v4).cell? ⟨y, i6, none⟩ = some u6 ∧ (((((W.setCell ⟨b, 0, none⟩ v0).setCell ⟨b, 1, none⟩ v1).setCell ⟨b, 2, none⟩ v2).setCell ⟨b, 3, none⟩ v3).setCell ⟨b, 4, none⟩ v4).cell? ⟨y, i7, none⟩ = some u7 ∧ (((((W.setCell ⟨b, 0, none⟩ v0).setCell ⟨b, 1, none⟩ v1).setCell ⟨b, 2, none⟩ v2).setCell ⟨b, 3, none⟩ v3).setCell ⟨b, 4, none⟩ v4).cell? ⟨y, i8, none⟩ = some u8 ∧ (((((W.setCell ⟨b, 0, none⟩ v0).setCell ⟨b, 1, none⟩ v1).setCell ⟨b, 2, none⟩ v2).setCell ⟨b, 3, none⟩ v3).setCell ⟨b, 4, none⟩ v4).cell? ⟨y, i9, none⟩ = some u9 := by
  obtain ⟨h0, h1, h2, h3, h4, h5, h6, h7, h8, h9⟩ := h
  exact ⟨cell1_sets h0 h_x _ _ _ _ _, cell1_sets h1 h_x _ _ _ _ _, cell1_sets h2 h_x _ _ _ _ _, cell1_sets h3 h_x _ _ _ _ _, cell1_sets h4 h_x _ _ _ _ _, cell1_sets h5 h_y _ _ _ _ _, cell1_sets h6 h_y _ _ _ _ _, cell1_sets h7 h_y _ _ _ _ _, cell1_sets h8 h_y _ _ _ _ _, cell1_sets h9 h_y _ _ _ _ _⟩
set_option maxRecDepth 100000 in
set_option maxHeartbeats 16000000 in
theorem alternatesWalk (oa : Option Addr) (oc : Nat) (M : List Sp) (w : World) (hM : SpS w (.slice oa M.length oc) M) :
    Calls Try.prog 8 #[.slice oa M.length oc] w fun e w' => e = .returned (.bool true) ∧ Below w.heap.size w w' := by
  by_cases h20 : (20 : Int) < (M.length : Int)
  · go_enter Try.func8, Try.ntmps8
    go_wp2_with fail
    refine (works_any _).mono ?_
    rintro e wz ⟨rfl, hbz⟩
    have HZ := Lib.hid hbz; clear hbz
    go_wp2_with fail
    go_ret
    exact ⟨rfl, btrans (Below.refl w.heap.size w) (Below.refl w.heap.size w).size HZ.out⟩
  · obtain ⟨d0, hd0⟩ : ∃ d, d = d16 := ⟨_, rfl⟩
    have A0 := Lib.hid (show Alt d0 sp0 by rw [hd0]; exact alt_start)
    have E1 := Lib.hid (show newS 16 = (d0, 0) by rw [hd0]; exact ex2)
    have hp0 := Lib.hid (show d0.P.length = 0 by rw [hd0]; rfl); have hs0 := Lib.hid (show d0.S.length = 16 by rw [hd0]; decide +kernel)
    clear hd0
    have HM := Lib.hid hM; clear hM
    go_enter Try.func8, Try.ntmps8
    go_wp2_with fail
    refine (RNew_any 16 _).mono ?_
    rw [E1.out]
    rintro e w1 ⟨a1, c1, a2, c2, rfl, hO1, hb1⟩
    have hal := ((Below.refl w1.heap.size w1).alloc (Nat.le_refl _) (.cells #[.slice a1 d0.S.length c1, .slice a2 d0.P.length c2, .int .i64 d0.fuse, .int .i64 d0.ops, .bool d0.dead] 38)).alloc (by simp) (.cells #[.int .i64 0, .int .i64 0, .int .i64 0, .int .i64 0, .int .i64 0] 23)
    have HD := Lib.hid ((Bx.new w1 #[.slice a1 d0.S.length c1, .slice a2 d0.P.length c2, .int .i64 d0.fuse, .int .i64 d0.ops, .bool d0.dead] 38).alloc (.cells #[.int .i64 0, .int .i64 0, .int .i64 0, .int .i64 0, .int .i64 0] 23)); have HL := Lib.hid (Bx.new1 w1 (.cells #[.slice a1 d0.S.length c1, .slice a2 d0.P.length c2, .int .i64 d0.fuse, .int .i64 d0.ops, .bool d0.dead] 38) #[.int .i64 0, .int .i64 0, .int .i64 0, .int .i64 0, .int .i64 0] 23); have HT := Lib.hid ((hO1.lists (d := d0) (by rw [hp0.out]; omega) (by rw [hs0.out]; omega)).below hal); have HB := Lib.hid (btrans hb1 hb1.size hal)
    have z0 := hb1.size
    clear hO1 hb1 hal
    go_upto_region 5 with (fail)
    generalize hW : (w1.alloc (.cells #[.slice a1 d0.S.length c1, .slice a2 d0.P.length c2, .int .i64 d0.fuse, .int .i64 d0.ops, .bool d0.dead] 38)).alloc (.cells #[.int .i64 0, .int .i64 0, .int .i64 0, .int .i64 0, .int .i64 0] 23) = v1 at HD HL HT HB ⊢
    clear hW
    have z1 := HL.out.lt
    go_wp2
    go_loopw [6] (fun i wr => ∃ (k : Nat) (d : Dk) (last : Sp) (a : Option Addr) (c : Nat) (a' : Option Addr) (c' : Nat), k ≤ M.length ∧ i = .int .i64 k ∧ Alt d last ∧ Bx w1.heap.size #[.slice a d.S.length c, .slice a' d.P.length c', .int .i64 d.fuse, .int .i64 d.ops, .bool d.dead] 38 wr ∧ Bx (w1.heap.size + 1) (spV last) 23 wr ∧ Lists wr a c a' c' d ∧ w1.heap.size + 2 ≤ wr.heap.size ∧ Below w.heap.size w wr) (fun i _ => M.length - (intOf i).toNat)
    case atStart => exact ⟨0, d0, sp0, a1, c1, a2, c2, Nat.zero_le _, rfl, A0.out, HD.out, HL.out, HT.out, z1, HB.out⟩
    case round =>
      obtain ⟨k, d, last, a, c, a', c', hk, rfl, hA, hDr, hLr, hTr, hzr, hbr⟩ := hrel
      clear HD HL HT HB
      have HA := Lib.hid hA; have HD := Lib.hid hDr; have HL := Lib.hid hLr; have HT := Lib.hid hTr; have HB := Lib.hid hbr; clear hA hDr hLr hTr hbr
      by_cases hlt : k < M.length
      · have hlt' : (k : Int) < (M.length : Int) := by omega
        obtain ⟨ob, ooff, rfl, hoc, p0, p1, p2, p3, p4⟩ := (HM.out.below (HB.out.mono (Nat.le_refl _))).at k hlt
        have hob1 : ob < w.heap.size := by
          obtain ⟨b2, o2, h2, _, q1, _⟩ := HM.out.at k hlt
          cases h2
          exact World.block_lt_of_cell? w _ q1
        obtain ⟨x, hx⟩ : ∃ x, M[k] = x := ⟨_, rfl⟩
        rw [hx] at p0 p1 p2 p3 p4
        clear hx
        have l0 : wr.cell? ⟨w1.heap.size + 1, 0, none⟩ = some (.int .i64 last.g) := HL.out.cell 0
        have hs8 : wr.drew.cell? ⟨ob, ooff + k * 5, none⟩ = some (.int .i64 x.g) ∧ wr.drew.cell? ⟨ob, ooff + k * 5 + 1, none⟩ = some (.int .i64 x.e) ∧ wr.drew.cell? ⟨ob, ooff + k * 5 + 2, none⟩ = some (.int .i64 x.a) ∧ wr.drew.cell? ⟨ob, ooff + k * 5 + 3, none⟩ = some (.int .i64 x.z) ∧ wr.drew.cell? ⟨ob, ooff + k * 5 + 4, none⟩ = some (.int .i64 x.p) ∧ wr.drew.cell? ⟨w1.heap.size + 1, 0, none⟩ = some (.int .i64 last.g) := ⟨p0, p1, p2, p3, p4, l0⟩
        have HS8 := Lib.hid hs8; clear hs8
        cases hv : spB x with
        | false =>
          have HV := Lib.hid hv; clear hv
          go_wp2_with fail
          refine wp_region_held_drew (S := (fun w' => w'.cell? ⟨ob, ooff + k * 5, none⟩ = some (.int .i64 x.g) ∧ w'.cell? ⟨ob, ooff + k * 5 + 1, none⟩ = some (.int .i64 x.e) ∧ w'.cell? ⟨ob, ooff + k * 5 + 2, none⟩ = some (.int .i64 x.a) ∧ w'.cell? ⟨ob, ooff + k * 5 + 3, none⟩ = some (.int .i64 x.z) ∧ w'.cell? ⟨ob, ooff + k * 5 + 4, none⟩ = some (.int .i64 x.p) ∧ w'.cell? ⟨w1.heap.size + 1, 0, none⟩ = some (.int .i64 last.g))) (by kernel_rfl) ?_ (fun hHeld => ?_)
          · exact HS8.out
          refine takeH (i := 0) (v := ?vv1) 29 rfl rfl (by kernel_rfl) (by kernel_rfl) (by kernel_rfl) (fun _ _ _ h => h) (Or.inl ⟨by kernel_rfl, ?yy1⟩) (by assumption) ?_
          case yy1 => intro w hSw; (try dsimp only at hSw); go_simp; (try with_reducible rfl)
          simp only [List.setIfInBounds_toArray, List.set_cons_zero, List.set_cons_succ]
          refine takeH (i := 1) (v := ?vv2) 30 rfl rfl (by kernel_rfl) (by kernel_rfl) (by kernel_rfl) (fun _ _ _ h => h) (Or.inl ⟨by kernel_rfl, ?yy2⟩) (by assumption) ?_
          case yy2 => intro w hSw; (try dsimp only at hSw); go_simp; (try with_reducible rfl)
          simp only [List.setIfInBounds_toArray, List.set_cons_zero, List.set_cons_succ]
          refine takeH (i := 2) (v := ?vv3) 31 rfl rfl (by kernel_rfl) (by kernel_rfl) (by kernel_rfl) (fun _ _ _ h => h) (Or.inl ⟨by kernel_rfl, ?yy3⟩) (by assumption) ?_
          case yy3 => intro w hSw; (try dsimp only at hSw); go_simp; (try with_reducible rfl)
          simp only [List.setIfInBounds_toArray, List.set_cons_zero, List.set_cons_succ]
          refine takeH (i := 3) (v := ?vv4) 32 rfl rfl (by kernel_rfl) (by kernel_rfl) (by kernel_rfl) (fun _ _ _ h => h) (Or.inl ⟨by kernel_rfl, ?yy4⟩) (by assumption) ?_
          case yy4 => intro w hSw; (try dsimp only at hSw); go_simp; (try with_reducible rfl)
          simp only [List.setIfInBounds_toArray, List.set_cons_zero, List.set_cons_succ]
          refine wpAnyH_ready (rs := [4]) (by kernel_rfl) (by simp) ?_
          refine (AllReadyH.cons rfl (fun K hK => ?_) AllReadyH.nil)
          go_simp
          (refine (RSValid_any x _).mono ?_; rw [HV.out]; rintro e v2 ⟨rfl, hb2⟩)
          (try go_wp2_with fail)
          refine hK.out _ _ ?_ (fun hHeld => ?_)
          · exact cells6_below hHeld hb2
          clear hK K
          (try simp only [Act.put, List.setIfInBounds_toArray, List.set_cons_zero, List.set_cons_succ])
          refine takeH (i := 5) (v := ?vv5) 34 rfl rfl (by kernel_rfl) (by kernel_rfl) (by kernel_rfl) (fun _ _ _ h => h) (Or.inl ⟨by kernel_rfl, ?yy5⟩) (by assumption) ?_
          case yy5 => intro w hSw; (try dsimp only at hSw); go_simp; (try with_reducible rfl)
          simp only [List.setIfInBounds_toArray, List.set_cons_zero, List.set_cons_succ]
          refine takeH (i := 6) (v := ?vv6) 35 rfl rfl (by kernel_rfl) (by kernel_rfl) (by kernel_rfl) (fun _ _ _ h => h) (Or.inl ⟨by kernel_rfl, ?yy6⟩) (by assumption) ?_
          case yy6 => intro w hSw; (try dsimp only at hSw); go_simp; (try with_reducible rfl)
          simp only [List.setIfInBounds_toArray, List.set_cons_zero, List.set_cons_succ]
          refine takeH (i := 7) (v := undef) 36 rfl rfl (by kernel_rfl) (by kernel_rfl) (by kernel_rfl) (fun _ _ _ h => h) (Or.inr ⟨by kernel_rfl, rfl⟩) (by assumption) ?_
          simp only [List.setIfInBounds_toArray, List.set_cons_zero, List.set_cons_succ]
          refine takeH (i := 8) (v := undef) 37 rfl rfl (by kernel_rfl) (by kernel_rfl) (by kernel_rfl) (fun _ _ _ h => h) (Or.inr ⟨by kernel_rfl, rfl⟩) (by assumption) ?_
          simp only [List.setIfInBounds_toArray, List.set_cons_zero, List.set_cons_succ]
          refine takeH (i := 9) (v := undef) 38 rfl rfl (by kernel_rfl) (by kernel_rfl) (by kernel_rfl) (fun _ _ _ h => h) (Or.inr ⟨by kernel_rfl, rfl⟩) (by assumption) ?_
          simp only [List.setIfInBounds_toArray, List.set_cons_zero, List.set_cons_succ]
          refine takeH (i := 10) (v := undef) 39 rfl rfl (by kernel_rfl) (by kernel_rfl) (by kernel_rfl) (fun _ _ _ h => h) (Or.inr ⟨by kernel_rfl, rfl⟩) (by assumption) ?_
          simp only [List.setIfInBounds_toArray, List.set_cons_zero, List.set_cons_succ]
          refine takeH (i := 11) (v := undef) 40 rfl rfl (by kernel_rfl) (by kernel_rfl) (by kernel_rfl) (fun _ _ _ h => h) (Or.inr ⟨by kernel_rfl, rfl⟩) (by assumption) ?_
          simp only [List.setIfInBounds_toArray, List.set_cons_zero, List.set_cons_succ]
          refine takeH (i := 12) (v := undef) 41 rfl rfl (by kernel_rfl) (by kernel_rfl) (by kernel_rfl) (fun _ _ _ h => h) (Or.inr ⟨by kernel_rfl, rfl⟩) (by assumption) ?_
          simp only [List.setIfInBounds_toArray, List.set_cons_zero, List.set_cons_succ]
          refine takeH (i := 13) (v := undef) 42 rfl rfl (by kernel_rfl) (by kernel_rfl) (by kernel_rfl) (fun _ _ _ h => h) (Or.inr ⟨by kernel_rfl, rfl⟩) (by assumption) ?_
          simp only [List.setIfInBounds_toArray, List.set_cons_zero, List.set_cons_succ]
          refine takeH (i := 14) (v := undef) 43 rfl rfl (by kernel_rfl) (by kernel_rfl) (by kernel_rfl) (fun _ _ _ h => h) (Or.inr ⟨by kernel_rfl, rfl⟩) (by assumption) ?_
          simp only [List.setIfInBounds_toArray, List.set_cons_zero, List.set_cons_succ]
          refine takeH (i := 15) (v := ?vv7) 44 rfl rfl (by kernel_rfl) (by kernel_rfl) (by kernel_rfl) (fun _ _ _ h => h) (Or.inl ⟨by kernel_rfl, ?yy7⟩) (by assumption) ?_
          case yy7 => intro w hSw; (try dsimp only at hSw); go_simp; (try with_reducible rfl)
          simp only [List.setIfInBounds_toArray, List.set_cons_zero, List.set_cons_succ]
          refine wpAnyH_done (by kernel_rfl) ?_ _
          have HB2 := Lib.hid (btrans (Below.refl _ _).drew (Nat.le_refl _) hb2)
          clear hHeld hb2
          go_wp2
          go_roundw
          case rel => exact ⟨k + 1, d, last, a, c, a', c', by omega, by go_num, HA.out, HD.out.call HB2.out, HL.out.call HB2.out, HT.out.below HB2.out, by have := HB2.out.size; omega, btrans HB.out HB.out.size HB2.out⟩
          case measure => simp [intOf]; omega
        | true =>
          have HV := Lib.hid hv; clear hv
          by_cases hg : x.g ≤ last.g
          · skip
            go_wp2_with fail
            refine wp_region_held_drew (S := (fun w' => w'.cell? ⟨ob, ooff + k * 5, none⟩ = some (.int .i64 x.g) ∧ w'.cell? ⟨ob, ooff + k * 5 + 1, none⟩ = some (.int .i64 x.e) ∧ w'.cell? ⟨ob, ooff + k * 5 + 2, none⟩ = some (.int .i64 x.a) ∧ w'.cell? ⟨ob, ooff + k * 5 + 3, none⟩ = some (.int .i64 x.z) ∧ w'.cell? ⟨ob, ooff + k * 5 + 4, none⟩ = some (.int .i64 x.p) ∧ w'.cell? ⟨w1.heap.size + 1, 0, none⟩ = some (.int .i64 last.g))) (by kernel_rfl) ?_ (fun hHeld => ?_)
            · exact HS8.out
            refine takeH (i := 0) (v := ?vv8) 29 rfl rfl (by kernel_rfl) (by kernel_rfl) (by kernel_rfl) (fun _ _ _ h => h) (Or.inl ⟨by kernel_rfl, ?yy8⟩) (by assumption) ?_
            case yy8 => intro w hSw; (try dsimp only at hSw); go_simp; (try with_reducible rfl)
            simp only [List.setIfInBounds_toArray, List.set_cons_zero, List.set_cons_succ]
            refine takeH (i := 1) (v := ?vv9) 30 rfl rfl (by kernel_rfl) (by kernel_rfl) (by kernel_rfl) (fun _ _ _ h => h) (Or.inl ⟨by kernel_rfl, ?yy9⟩) (by assumption) ?_
            case yy9 => intro w hSw; (try dsimp only at hSw); go_simp; (try with_reducible rfl)
            simp only [List.setIfInBounds_toArray, List.set_cons_zero, List.set_cons_succ]
            refine takeH (i := 2) (v := ?vv10) 31 rfl rfl (by kernel_rfl) (by kernel_rfl) (by kernel_rfl) (fun _ _ _ h => h) (Or.inl ⟨by kernel_rfl, ?yy10⟩) (by assumption) ?_
            case yy10 => intro w hSw; (try dsimp only at hSw); go_simp; (try with_reducible rfl)
            simp only [List.setIfInBounds_toArray, List.set_cons_zero, List.set_cons_succ]
            refine takeH (i := 3) (v := ?vv11) 32 rfl rfl (by kernel_rfl) (by kernel_rfl) (by kernel_rfl) (fun _ _ _ h => h) (Or.inl ⟨by kernel_rfl, ?yy11⟩) (by assumption) ?_
            case yy11 => intro w hSw; (try dsimp only at hSw); go_simp; (try with_reducible rfl)
            simp only [List.setIfInBounds_toArray, List.set_cons_zero, List.set_cons_succ]
            refine wpAnyH_ready (rs := [4]) (by kernel_rfl) (by simp) ?_
            refine (AllReadyH.cons rfl (fun K hK => ?_) AllReadyH.nil)
            go_simp
            (refine (RSValid_any x _).mono ?_; rw [HV.out]; rintro e v2 ⟨rfl, hb2⟩)
            (try go_wp2_with fail)
            refine hK.out _ _ ?_ (fun hHeld => ?_)
            · exact cells6_below hHeld hb2
            clear hK K
            (try simp only [Act.put, List.setIfInBounds_toArray, List.set_cons_zero, List.set_cons_succ])
            refine takeH (i := 5) (v := ?vv12) 34 rfl rfl (by kernel_rfl) (by kernel_rfl) (by kernel_rfl) (fun _ _ _ h => h) (Or.inl ⟨by kernel_rfl, ?yy12⟩) (by assumption) ?_
            case yy12 => intro w hSw; (try dsimp only at hSw); go_simp; (try with_reducible rfl)
            simp only [List.setIfInBounds_toArray, List.set_cons_zero, List.set_cons_succ]
            refine takeH (i := 6) (v := ?vv13) 35 rfl rfl (by kernel_rfl) (by kernel_rfl) (by kernel_rfl) (fun _ _ _ h => h) (Or.inl ⟨by kernel_rfl, ?yy13⟩) (by assumption) ?_
            case yy13 => intro w hSw; (try dsimp only at hSw); go_simp; (try with_reducible rfl)
            simp only [List.setIfInBounds_toArray, List.set_cons_zero, List.set_cons_succ]
            refine takeH (i := 7) (v := ?vv14) 36 rfl rfl (by kernel_rfl) (by kernel_rfl) (by kernel_rfl) (fun _ _ _ h => h) (Or.inl ⟨by kernel_rfl, ?yy14⟩) (by assumption) ?_
            case yy14 => intro w hSw; (try dsimp only at hSw); go_simp; (try with_reducible rfl)
            simp only [List.setIfInBounds_toArray, List.set_cons_zero, List.set_cons_succ]
            refine takeH (i := 8) (v := ?vv15) 37 rfl rfl (by kernel_rfl) (by kernel_rfl) (by kernel_rfl) (fun _ _ _ h => h) (Or.inl ⟨by kernel_rfl, ?yy15⟩) (by assumption) ?_
            case yy15 => intro w hSw; (try dsimp only at hSw); go_simp; (try with_reducible rfl)
            simp only [List.setIfInBounds_toArray, List.set_cons_zero, List.set_cons_succ]
            refine takeH (i := 9) (v := ?vv16) 38 rfl rfl (by kernel_rfl) (by kernel_rfl) (by kernel_rfl) (fun _ _ _ h => h) (Or.inl ⟨by kernel_rfl, ?yy16⟩) (by assumption) ?_
            case yy16 => intro w hSw; (try dsimp only at hSw); go_simp; (try with_reducible rfl)
            simp only [List.setIfInBounds_toArray, List.set_cons_zero, List.set_cons_succ]
            refine takeH (i := 10) (v := ?vv17) 39 rfl rfl (by kernel_rfl) (by kernel_rfl) (by kernel_rfl) (fun _ _ _ h => h) (Or.inl ⟨by kernel_rfl, ?yy17⟩) (by assumption) ?_
            case yy17 => intro w hSw; (try dsimp only at hSw); go_simp; (try with_reducible rfl)
            simp only [List.setIfInBounds_toArray, List.set_cons_zero, List.set_cons_succ]
            refine takeH (i := 11) (v := ?vv18) 40 rfl rfl (by kernel_rfl) (by kernel_rfl) (by kernel_rfl) (fun _ _ _ h => h) (Or.inl ⟨by kernel_rfl, ?yy18⟩) (by assumption) ?_
            case yy18 => intro w hSw; (try dsimp only at hSw); go_simp; (try with_reducible rfl)
            simp only [List.setIfInBounds_toArray, List.set_cons_zero, List.set_cons_succ]
            refine takeH (i := 12) (v := ?vv19) 41 rfl rfl (by kernel_rfl) (by kernel_rfl) (by kernel_rfl) (fun _ _ _ h => h) (Or.inl ⟨by kernel_rfl, ?yy19⟩) (by assumption) ?_
            case yy19 => intro w hSw; (try dsimp only at hSw); go_simp; (try with_reducible rfl)
            simp only [List.setIfInBounds_toArray, List.set_cons_zero, List.set_cons_succ]
            refine takeH (i := 13) (v := ?vv20) 42 rfl rfl (by kernel_rfl) (by kernel_rfl) (by kernel_rfl) (fun _ _ _ h => h) (Or.inl ⟨by kernel_rfl, ?yy20⟩) (by assumption) ?_
            case yy20 => intro w hSw; (try dsimp only at hSw); go_simp; (try with_reducible rfl)
            simp only [List.setIfInBounds_toArray, List.set_cons_zero, List.set_cons_succ]
            refine takeH (i := 14) (v := ?vv21) 43 rfl rfl (by kernel_rfl) (by kernel_rfl) (by kernel_rfl) (fun _ _ _ h => h) (Or.inl ⟨by kernel_rfl, ?yy21⟩) (by assumption) ?_
            case yy21 => intro w hSw; (try dsimp only at hSw); go_simp; (try with_reducible rfl)
            simp only [List.setIfInBounds_toArray, List.set_cons_zero, List.set_cons_succ]
            refine takeH (i := 15) (v := ?vv22) 44 rfl rfl (by kernel_rfl) (by kernel_rfl) (by kernel_rfl) (fun _ _ _ h => h) (Or.inl ⟨by kernel_rfl, ?yy22⟩) (by assumption) ?_
            case yy22 => intro w hSw; (try dsimp only at hSw); go_simp; (try with_reducible rfl)
            simp only [List.setIfInBounds_toArray, List.set_cons_zero, List.set_cons_succ]
            refine wpAnyH_done (by kernel_rfl) ?_ _
            have HB2 := Lib.hid (btrans (Below.refl _ _).drew (Nat.le_refl _) hb2)
            clear hHeld hb2
            go_wp2
            go_roundw
            case rel => exact ⟨k + 1, d, last, a, c, a', c', by omega, by go_num, HA.out, HD.out.call HB2.out, HL.out.call HB2.out, HT.out.below HB2.out, by have := HB2.out.size; omega, btrans HB.out HB.out.size HB2.out⟩
            case measure => simp [intOf]; omega
          · skip
            go_wp2_with fail
            refine wp_region_held_drew (S := (fun w' => w'.cell? ⟨ob, ooff + k * 5, none⟩ = some (.int .i64 x.g) ∧ w'.cell? ⟨ob, ooff + k * 5 + 1, none⟩ = some (.int .i64 x.e) ∧ w'.cell? ⟨ob, ooff + k * 5 + 2, none⟩ = some (.int .i64 x.a) ∧ w'.cell? ⟨ob, ooff + k * 5 + 3, none⟩ = some (.int .i64 x.z) ∧ w'.cell? ⟨ob, ooff + k * 5 + 4, none⟩ = some (.int .i64 x.p) ∧ w'.cell? ⟨w1.heap.size + 1, 0, none⟩ = some (.int .i64 last.g))) (by kernel_rfl) ?_ (fun hHeld => ?_)
            · exact HS8.out
            refine takeH (i := 0) (v := ?vv23) 29 rfl rfl (by kernel_rfl) (by kernel_rfl) (by kernel_rfl) (fun _ _ _ h => h) (Or.inl ⟨by kernel_rfl, ?yy23⟩) (by assumption) ?_
            case yy23 => intro w hSw; (try dsimp only at hSw); go_simp; (try with_reducible rfl)
            simp only [List.setIfInBounds_toArray, List.set_cons_zero, List.set_cons_succ]
            refine takeH (i := 1) (v := ?vv24) 30 rfl rfl (by kernel_rfl) (by kernel_rfl) (by kernel_rfl) (fun _ _ _ h => h) (Or.inl ⟨by kernel_rfl, ?yy24⟩) (by assumption) ?_
            case yy24 => intro w hSw; (try dsimp only at hSw); go_simp; (try with_reducible rfl)
            simp only [List.setIfInBounds_toArray, List.set_cons_zero, List.set_cons_succ]
            refine takeH (i := 2) (v := ?vv25) 31 rfl rfl (by kernel_rfl) (by kernel_rfl) (by kernel_rfl) (fun _ _ _ h => h) (Or.inl ⟨by kernel_rfl, ?yy25⟩) (by assumption) ?_
            case yy25 => intro w hSw; (try dsimp only at hSw); go_simp; (try with_reducible rfl)
            simp only [List.setIfInBounds_toArray, List.set_cons_zero, List.set_cons_succ]
            refine takeH (i := 3) (v := ?vv26) 32 rfl rfl (by kernel_rfl) (by kernel_rfl) (by kernel_rfl) (fun _ _ _ h => h) (Or.inl ⟨by kernel_rfl, ?yy26⟩) (by assumption) ?_
            case yy26 => intro w hSw; (try dsimp only at hSw); go_simp; (try with_reducible rfl)
            simp only [List.setIfInBounds_toArray, List.set_cons_zero, List.set_cons_succ]
            refine wpAnyH_ready (rs := [4]) (by kernel_rfl) (by simp) ?_
            refine (AllReadyH.cons rfl (fun K hK => ?_) AllReadyH.nil)
            go_simp
            (refine (RSValid_any x _).mono ?_; rw [HV.out]; rintro e v2 ⟨rfl, hb2⟩)
            (try go_wp2_with fail)
            refine hK.out _ _ ?_ (fun hHeld => ?_)
            · exact cells6_below hHeld hb2
            clear hK K
            (try simp only [Act.put, List.setIfInBounds_toArray, List.set_cons_zero, List.set_cons_succ])
            refine takeH (i := 5) (v := ?vv27) 34 rfl rfl (by kernel_rfl) (by kernel_rfl) (by kernel_rfl) (fun _ _ _ h => h) (Or.inl ⟨by kernel_rfl, ?yy27⟩) (by assumption) ?_
            case yy27 => intro w hSw; (try dsimp only at hSw); go_simp; (try with_reducible rfl)
            simp only [List.setIfInBounds_toArray, List.set_cons_zero, List.set_cons_succ]
            refine takeH (i := 6) (v := ?vv28) 35 rfl rfl (by kernel_rfl) (by kernel_rfl) (by kernel_rfl) (fun _ _ _ h => h) (Or.inl ⟨by kernel_rfl, ?yy28⟩) (by assumption) ?_
            case yy28 => intro w hSw; (try dsimp only at hSw); go_simp; (try with_reducible rfl)
            simp only [List.setIfInBounds_toArray, List.set_cons_zero, List.set_cons_succ]
            refine takeH (i := 7) (v := ?vv29) 36 rfl rfl (by kernel_rfl) (by kernel_rfl) (by kernel_rfl) (fun _ _ _ h => h) (Or.inl ⟨by kernel_rfl, ?yy29⟩) (by assumption) ?_
            case yy29 => intro w hSw; (try dsimp only at hSw); go_simp; (try with_reducible rfl)
            simp only [List.setIfInBounds_toArray, List.set_cons_zero, List.set_cons_succ]
            refine takeH (i := 8) (v := ?vv30) 37 rfl rfl (by kernel_rfl) (by kernel_rfl) (by kernel_rfl) (fun _ _ _ h => h) (Or.inl ⟨by kernel_rfl, ?yy30⟩) (by assumption) ?_
            case yy30 => intro w hSw; (try dsimp only at hSw); go_simp; (try with_reducible rfl)
            simp only [List.setIfInBounds_toArray, List.set_cons_zero, List.set_cons_succ]
            refine takeH (i := 9) (v := ?vv31) 38 rfl rfl (by kernel_rfl) (by kernel_rfl) (by kernel_rfl) (fun _ _ _ h => h) (Or.inl ⟨by kernel_rfl, ?yy31⟩) (by assumption) ?_
            case yy31 => intro w hSw; (try dsimp only at hSw); go_simp; (try with_reducible rfl)
            simp only [List.setIfInBounds_toArray, List.set_cons_zero, List.set_cons_succ]
            refine takeH (i := 10) (v := ?vv32) 39 rfl rfl (by kernel_rfl) (by kernel_rfl) (by kernel_rfl) (fun _ _ _ h => h) (Or.inl ⟨by kernel_rfl, ?yy32⟩) (by assumption) ?_
            case yy32 => intro w hSw; (try dsimp only at hSw); go_simp; (try with_reducible rfl)
            simp only [List.setIfInBounds_toArray, List.set_cons_zero, List.set_cons_succ]
            refine takeH (i := 11) (v := ?vv33) 40 rfl rfl (by kernel_rfl) (by kernel_rfl) (by kernel_rfl) (fun _ _ _ h => h) (Or.inl ⟨by kernel_rfl, ?yy33⟩) (by assumption) ?_
            case yy33 => intro w hSw; (try dsimp only at hSw); go_simp; (try with_reducible rfl)
            simp only [List.setIfInBounds_toArray, List.set_cons_zero, List.set_cons_succ]
            refine takeH (i := 12) (v := ?vv34) 41 rfl rfl (by kernel_rfl) (by kernel_rfl) (by kernel_rfl) (fun _ _ _ h => h) (Or.inl ⟨by kernel_rfl, ?yy34⟩) (by assumption) ?_
            case yy34 => intro w hSw; (try dsimp only at hSw); go_simp; (try with_reducible rfl)
            simp only [List.setIfInBounds_toArray, List.set_cons_zero, List.set_cons_succ]
            refine takeH (i := 13) (v := ?vv35) 42 rfl rfl (by kernel_rfl) (by kernel_rfl) (by kernel_rfl) (fun _ _ _ h => h) (Or.inl ⟨by kernel_rfl, ?yy35⟩) (by assumption) ?_
            case yy35 => intro w hSw; (try dsimp only at hSw); go_simp; (try with_reducible rfl)
            simp only [List.setIfInBounds_toArray, List.set_cons_zero, List.set_cons_succ]
            refine takeH (i := 14) (v := ?vv36) 43 rfl rfl (by kernel_rfl) (by kernel_rfl) (by kernel_rfl) (fun _ _ _ h => h) (Or.inl ⟨by kernel_rfl, ?yy36⟩) (by assumption) ?_
            case yy36 => intro w hSw; (try dsimp only at hSw); go_simp; (try with_reducible rfl)
            simp only [List.setIfInBounds_toArray, List.set_cons_zero, List.set_cons_succ]
            refine takeH (i := 15) (v := ?vv37) 44 rfl rfl (by kernel_rfl) (by kernel_rfl) (by kernel_rfl) (fun _ _ _ h => h) (Or.inl ⟨by kernel_rfl, ?yy37⟩) (by assumption) ?_
            case yy37 => intro w hSw; (try dsimp only at hSw); go_simp; (try with_reducible rfl)
            simp only [List.setIfInBounds_toArray, List.set_cons_zero, List.set_cons_succ]
            refine wpAnyH_done (by kernel_rfl) ?_ _
            have HB2 := Lib.hid (btrans (Below.refl _ _).drew (Nat.le_refl _) hb2)
            clear hHeld hb2
            have HD := Lib.hid (HD.out.call HB2.out); have HL := Lib.hid (HL.out.call HB2.out); have HT := Lib.hid (HT.out.below HB2.out)
            have HXC := Lib.hid (And.intro ((HB.out.cell (p := ⟨ob, ooff + k * 5, none⟩) hob1).symm.trans p0) (And.intro ((HB.out.cell (p := ⟨ob, ooff + k * 5 + 1, none⟩) hob1).symm.trans p1) (And.intro ((HB.out.cell (p := ⟨ob, ooff + k * 5 + 2, none⟩) hob1).symm.trans p2) (And.intro ((HB.out.cell (p := ⟨ob, ooff + k * 5 + 3, none⟩) hob1).symm.trans p3) ((HB.out.cell (p := ⟨ob, ooff + k * 5 + 4, none⟩) hob1).symm.trans p4)))))
            have HB := Lib.hid (btrans HB.out HB.out.size HB2.out)
            have hz2 : w1.heap.size + 2 ≤ v2.heap.size := by have := HB2.out.size; omega
            have hw2 := HB.out.size
            clear HB2 p0 p1 p2 p3 p4 l0 hzr HS8
            obtain ⟨d2, e1, e2, e3, e4⟩ := alt_store HA.out HV.out (by omega)
            have hp : d.P.length ≤ 8999999999999 := by rw [HA.out.c.p]; simp
            have hp2 : d2.P.length ≤ 16 := by rw [e2.c.p]; simp
            have hs2 : d2.S.length ≤ 16 := by rw [e2.c.s]; exact Nat.le_refl _
            have HQ := Lib.hid e1; have HA2 := Lib.hid e2; have HLQ := Lib.hid e3; have HNX := Lib.hid e4; clear e1 e2 e3 e4
            have p0 := (HB.out.cell (p := ⟨ob, ooff + k * 5, none⟩) hob1).trans HXC.out.1
            have p1 := (HB.out.cell (p := ⟨ob, ooff + k * 5 + 1, none⟩) hob1).trans HXC.out.2.1
            have p2 := (HB.out.cell (p := ⟨ob, ooff + k * 5 + 2, none⟩) hob1).trans HXC.out.2.2.1
            have p3 := (HB.out.cell (p := ⟨ob, ooff + k * 5 + 3, none⟩) hob1).trans HXC.out.2.2.2.1
            have p4 := (HB.out.cell (p := ⟨ob, ooff + k * 5 + 4, none⟩) hob1).trans HXC.out.2.2.2.2
            have x0 : v2.cell? ⟨w1.heap.size, 0, none⟩ = some (.slice a d.S.length c) := HD.out.cell 0
            have x1 : v2.cell? ⟨w1.heap.size, 1, none⟩ = some (.slice a' d.P.length c') := HD.out.cell 1
            have x2 : v2.cell? ⟨w1.heap.size, 2, none⟩ = some (.int .i64 d.fuse) := HD.out.cell 2
            have x3 : v2.cell? ⟨w1.heap.size, 3, none⟩ = some (.int .i64 d.ops) := HD.out.cell 3
            have x4 : v2.cell? ⟨w1.heap.size, 4, none⟩ = some (.bool d.dead) := HD.out.cell 4
            have hs9 : v2.drew.cell? ⟨w1.heap.size, 0, none⟩ = some (.slice a d.S.length c) ∧ v2.drew.cell? ⟨w1.heap.size, 1, none⟩ = some (.slice a' d.P.length c') ∧ v2.drew.cell? ⟨w1.heap.size, 2, none⟩ = some (.int .i64 d.fuse) ∧ v2.drew.cell? ⟨w1.heap.size, 3, none⟩ = some (.int .i64 d.ops) ∧ v2.drew.cell? ⟨w1.heap.size, 4, none⟩ = some (.bool d.dead) ∧ v2.drew.cell? ⟨ob, ooff + k * 5, none⟩ = some (.int .i64 x.g) ∧ v2.drew.cell? ⟨ob, ooff + k * 5 + 1, none⟩ = some (.int .i64 x.e) ∧ v2.drew.cell? ⟨ob, ooff + k * 5 + 2, none⟩ = some (.int .i64 x.a) ∧ v2.drew.cell? ⟨ob, ooff + k * 5 + 3, none⟩ = some (.int .i64 x.z) ∧ v2.drew.cell? ⟨ob, ooff + k * 5 + 4, none⟩ = some (.int .i64 x.p) := ⟨x0, x1, x2, x3, x4, p0, p1, p2, p3, p4⟩
            have HS9 := Lib.hid hs9; clear hs9
            go_wp2_with fail
            go_cut [7, 8] from 23 to 117 (fun s7 s8 W => ∃ b a5 c5 a6 c6, s7 = .pointer (some ⟨b, 0, none⟩) ∧ s8 = .int .i64 0 ∧ Bx b #[.slice a5 d2.S.length c5, .slice a6 d2.P.length c6, .int .i64 d2.fuse, .int .i64 d2.ops, .bool d2.dead] 38 W ∧ Lists W a5 c5 a6 c6 d2 ∧ v2.heap.size ≤ b ∧ Below v2.heap.size v2 W)
            case first =>
              refine wp_region_held_drew (S := (fun w' => w'.cell? ⟨w1.heap.size, 0, none⟩ = some (.slice a d.S.length c) ∧ w'.cell? ⟨w1.heap.size, 1, none⟩ = some (.slice a' d.P.length c') ∧ w'.cell? ⟨w1.heap.size, 2, none⟩ = some (.int .i64 d.fuse) ∧ w'.cell? ⟨w1.heap.size, 3, none⟩ = some (.int .i64 d.ops) ∧ w'.cell? ⟨w1.heap.size, 4, none⟩ = some (.bool d.dead) ∧ w'.cell? ⟨ob, ooff + k * 5, none⟩ = some (.int .i64 x.g) ∧ w'.cell? ⟨ob, ooff + k * 5 + 1, none⟩ = some (.int .i64 x.e) ∧ w'.cell? ⟨ob, ooff + k * 5 + 2, none⟩ = some (.int .i64 x.a) ∧ w'.cell? ⟨ob, ooff + k * 5 + 3, none⟩ = some (.int .i64 x.z) ∧ w'.cell? ⟨ob, ooff + k * 5 + 4, none⟩ = some (.int .i64 x.p))) (by kernel_rfl) ?_ (fun hHeld => ?_)
              · exact HS9.out
              refine takeH (i := 0) (v := ?vv38) 46 rfl rfl (by kernel_rfl) (by kernel_rfl) (by kernel_rfl) (fun _ _ _ h => h) (Or.inl ⟨by kernel_rfl, ?yy38⟩) (by assumption) ?_
              case yy38 => intro w hSw; (try dsimp only at hSw); go_simp; (try with_reducible rfl)
              simp only [List.setIfInBounds_toArray, List.set_cons_zero, List.set_cons_succ]
              refine takeH (i := 1) (v := ?vv39) 47 rfl rfl (by kernel_rfl) (by kernel_rfl) (by kernel_rfl) (fun _ _ _ h => h) (Or.inl ⟨by kernel_rfl, ?yy39⟩) (by assumption) ?_
              case yy39 => intro w hSw; (try dsimp only at hSw); go_simp; (try with_reducible rfl)
              simp only [List.setIfInBounds_toArray, List.set_cons_zero, List.set_cons_succ]
              refine takeH (i := 2) (v := ?vv40) 48 rfl rfl (by kernel_rfl) (by kernel_rfl) (by kernel_rfl) (fun _ _ _ h => h) (Or.inl ⟨by kernel_rfl, ?yy40⟩) (by assumption) ?_
              case yy40 => intro w hSw; (try dsimp only at hSw); go_simp; (try with_reducible rfl)
              simp only [List.setIfInBounds_toArray, List.set_cons_zero, List.set_cons_succ]
              refine takeH (i := 3) (v := ?vv41) 49 rfl rfl (by kernel_rfl) (by kernel_rfl) (by kernel_rfl) (fun _ _ _ h => h) (Or.inl ⟨by kernel_rfl, ?yy41⟩) (by assumption) ?_
              case yy41 => intro w hSw; (try dsimp only at hSw); go_simp; (try with_reducible rfl)
              simp only [List.setIfInBounds_toArray, List.set_cons_zero, List.set_cons_succ]
              refine takeH (i := 4) (v := ?vv42) 50 rfl rfl (by kernel_rfl) (by kernel_rfl) (by kernel_rfl) (fun _ _ _ h => h) (Or.inl ⟨by kernel_rfl, ?yy42⟩) (by assumption) ?_
              case yy42 => intro w hSw; (try dsimp only at hSw); go_simp; (try with_reducible rfl)
              simp only [List.setIfInBounds_toArray, List.set_cons_zero, List.set_cons_succ]
              refine wpAnyH_ready (rs := [5, 9]) (by kernel_rfl) (by simp) ?_
              refine (AllReadyH.cons rfl (fun K hK => ?_) (AllReadyH.cons rfl (fun K hK => ?_) AllReadyH.nil))
              · skip
                go_simp
                (refine (SStore_any _ _ _ _ d x _ (HT.out.below (Below.refl v2.heap.size v2).drew) hp).mono ?_; rw [HQ.out]; rintro e w4 ⟨a5, c5, a6, c6, rfl, hO4, hb4⟩)
                (try go_wp2_with fail)
                refine hK.out _ _ ?_ (fun hHeld => ?_)
                · exact cells10_below hHeld hb4
                clear hK K
                (try simp only [Act.put, List.setIfInBounds_toArray, List.set_cons_zero, List.set_cons_succ])
                refine takeH (i := 6) (v := ?vv43) 45 rfl rfl (by kernel_rfl) (by kernel_rfl) (by kernel_rfl) (fun _ _ _ h => h) (Or.inl ⟨by kernel_rfl, ?yy43⟩) (by assumption) ?_
                case yy43 => intro w hSw; (try dsimp only at hSw); go_simp; (try with_reducible rfl)
                simp only [List.setIfInBounds_toArray, List.set_cons_zero, List.set_cons_succ]
                refine takeH (i := 7) (v := ?vv44) 52 rfl rfl (by kernel_rfl) (by kernel_rfl) (by kernel_rfl) (fun _ _ _ h => h) (Or.inl ⟨by kernel_rfl, ?yy44⟩) (by assumption) ?_
                case yy44 => intro w hSw; (try dsimp only at hSw); go_simp; (try with_reducible rfl)
                simp only [List.setIfInBounds_toArray, List.set_cons_zero, List.set_cons_succ]
                refine takeH (i := 8) (v := ?vv45) 53 rfl rfl (by kernel_rfl) (by kernel_rfl) (by kernel_rfl) (fun _ _ _ h => h) (Or.inl ⟨by kernel_rfl, ?yy45⟩) (by assumption) ?_
                case yy45 => intro w hSw; (try dsimp only at hSw); go_simp; (try with_reducible rfl)
                simp only [List.setIfInBounds_toArray, List.set_cons_zero, List.set_cons_succ]
                refine wpAnyH_ready (rs := [9]) (by kernel_rfl) (by simp) ?_
                refine (AllReadyH.cons rfl (fun K hK => ?_) AllReadyH.nil)
                go_simp
                skip
                (try go_wp2_with fail)
                refine hK.out _ _ ?_ (fun hHeld => ?_)
                · exact cells10_below hHeld ((Below.refl _ _).alloc (Nat.le_refl _) _)
                clear hK K
                (try simp only [Act.put, List.setIfInBounds_toArray, List.set_cons_zero, List.set_cons_succ])
                refine wpAnyH_ready (rs := [10]) (by kernel_rfl) (by simp) ?_
                refine (AllReadyH.cons rfl (fun K hK => ?_) AllReadyH.nil)
                go_simp
                skip
                (try go_wp2_with fail)
                refine hK.out _ _ ?_ (fun hHeld => ?_)
                · exact cells10_below (by assumption) (hb4.alloc hb4.size _)
                clear hK K
                (try simp only [Act.put, List.setIfInBounds_toArray, List.set_cons_zero, List.set_cons_succ])
                refine takeH (i := 11) (v := ?vv46) 8 rfl rfl (by kernel_rfl) (by kernel_rfl) (by kernel_rfl) (fun _ _ _ h => h) (Or.inl ⟨by kernel_rfl, ?yy46⟩) (by assumption) ?_
                case yy46 => intro w hSw; (try dsimp only at hSw); go_simp; (try with_reducible rfl)
                simp only [List.setIfInBounds_toArray, List.set_cons_zero, List.set_cons_succ]
                refine wpAnyH_done (by kernel_rfl) ?_ _
                go_wp2_with fail
                go_meet
                refine ⟨_, a5, c5, a6, c6, rfl, rfl, Bx.new w4 _ _, (hO4.alloc _).lists (by omega) (by omega), hb4.size, (btrans ((Below.refl v2.heap.size v2).drew) (Nat.le_refl _) hb4).alloc hb4.size _⟩
              · skip
                go_simp
                skip
                (try go_wp2_with fail)
                refine hK.out _ _ ?_ (fun hHeld => ?_)
                · exact cells10_below hHeld ((Below.refl _ _).alloc (Nat.le_refl _) _)
                clear hK K
                (try simp only [Act.put, List.setIfInBounds_toArray, List.set_cons_zero, List.set_cons_succ])
                refine wpAnyH_ready (rs := [5]) (by kernel_rfl) (by simp) ?_
                refine (AllReadyH.cons rfl (fun K hK => ?_) AllReadyH.nil)
                go_simp
                (refine (SStore_any _ _ _ _ d x _ (HT.out.below (((Below.refl v2.heap.size v2).alloc (Nat.le_refl _) _).drew)) hp).mono ?_; rw [HQ.out]; rintro e w4 ⟨a5, c5, a6, c6, rfl, hO4, hb4⟩)
                (try go_wp2_with fail)
                refine hK.out _ _ ?_ (fun hHeld => ?_)
                · exact cells10_below hHeld hb4
                clear hK K
                (try simp only [Act.put, List.setIfInBounds_toArray, List.set_cons_zero, List.set_cons_succ])
                refine takeH (i := 6) (v := ?vv47) 45 rfl rfl (by kernel_rfl) (by kernel_rfl) (by kernel_rfl) (fun _ _ _ h => h) (Or.inl ⟨by kernel_rfl, ?yy47⟩) (by assumption) ?_
                case yy47 => intro w hSw; (try dsimp only at hSw); go_simp; (try with_reducible rfl)
                simp only [List.setIfInBounds_toArray, List.set_cons_zero, List.set_cons_succ]
                refine takeH (i := 7) (v := ?vv48) 52 rfl rfl (by kernel_rfl) (by kernel_rfl) (by kernel_rfl) (fun _ _ _ h => h) (Or.inl ⟨by kernel_rfl, ?yy48⟩) (by assumption) ?_
                case yy48 => intro w hSw; (try dsimp only at hSw); go_simp; (try with_reducible rfl)
                simp only [List.setIfInBounds_toArray, List.set_cons_zero, List.set_cons_succ]
                refine takeH (i := 8) (v := ?vv49) 53 rfl rfl (by kernel_rfl) (by kernel_rfl) (by kernel_rfl) (fun _ _ _ h => h) (Or.inl ⟨by kernel_rfl, ?yy49⟩) (by assumption) ?_
                case yy49 => intro w hSw; (try dsimp only at hSw); go_simp; (try with_reducible rfl)
                simp only [List.setIfInBounds_toArray, List.set_cons_zero, List.set_cons_succ]
                have hsz4 : v2.heap.size + 1 ≤ w4.heap.size := by have := hb4.size; simp at this; omega
                refine wpAnyH_ready (rs := [10]) (by kernel_rfl) (by simp) ?_
                refine (AllReadyH.cons rfl (fun K hK => ?_) AllReadyH.nil)
                have hBB : Bx v2.heap.size #[.slice none 0 0, .slice none 0 0, .int .i64 0, .int .i64 0, .bool false] 38 w4 := (Bx.new v2 _ _).drew.call hb4
                have r0 : w4.cell? ⟨v2.heap.size, 0, none⟩ = some (.slice none 0 0) := hBB.cell 0
                have r1 : w4.cell? ⟨v2.heap.size, 1, none⟩ = some (.slice none 0 0) := hBB.cell 1
                have r2 : w4.cell? ⟨v2.heap.size, 2, none⟩ = some (.int .i64 0) := hBB.cell 2
                have r3 : w4.cell? ⟨v2.heap.size, 3, none⟩ = some (.int .i64 0) := hBB.cell 3
                have r4 : w4.cell? ⟨v2.heap.size, 4, none⟩ = some (.bool false) := hBB.cell 4
                have g0 := hBB.free 0
                have g1 := hBB.free 1
                have g2 := hBB.free 2
                have g3 := hBB.free 3
                have g4 := hBB.free 4
                go_simp
                skip
                (try go_wp2_with fail)
                refine hK.out _ _ ?_ (fun hHeld => ?_)
                · exact cells10_sets (by assumption) v2.heap.size (by omega) (by omega) _ _ _ _ _
                clear hK K
                (try simp only [Act.put, List.setIfInBounds_toArray, List.set_cons_zero, List.set_cons_succ])
                refine takeH (i := 11) (v := ?vv50) 8 rfl rfl (by kernel_rfl) (by kernel_rfl) (by kernel_rfl) (fun _ _ _ h => h) (Or.inl ⟨by kernel_rfl, ?yy50⟩) (by assumption) ?_
                case yy50 => intro w hSw; (try dsimp only at hSw); go_simp; (try with_reducible rfl)
                simp only [List.setIfInBounds_toArray, List.set_cons_zero, List.set_cons_succ]
                refine wpAnyH_done (by kernel_rfl) ?_ _
                go_wp2_with fail
                go_meet
                refine ⟨_, a5, c5, a6, c6, rfl, rfl, hBB.sets _ _ _ _ _, ((hO4.mono (B' := v2.heap.size + 1) (by first | omega | simp)).sets v2.heap.size (by omega) _ _ _ _ _).lists (by omega) (by omega), Nat.le_refl _, below_sets (((((Below.refl v2.heap.size v2).alloc (Nat.le_refl _) _).drew)).trans (hb4.mono (by simp))) v2.heap.size (Nat.le_refl _) _ _ _ _ _⟩
            case rest =>
              obtain ⟨b, a5, c5, a6, c6, rfl, rfl, hXN, hLN, hbn, hbc⟩ := hcut
              clear x0 x1 x2 x3 x4 p0 p1 p2 p3 p4 HS9
              have HN := Lib.hid hXN; have HTN := Lib.hid hLN; have HD := Lib.hid (HD.out.call hbc); have HL := Lib.hid (HL.out.call hbc); have HB := Lib.hid (btrans HB.out HB.out.size hbc); clear hXN hLN hbc HT
              have x0 : wc.cell? ⟨b, 0, none⟩ = some (.slice a5 d2.S.length c5) := HN.out.cell 0
              have x1 : wc.cell? ⟨b, 1, none⟩ = some (.slice a6 d2.P.length c6) := HN.out.cell 1
              have x2 : wc.cell? ⟨b, 2, none⟩ = some (.int .i64 d2.fuse) := HN.out.cell 2
              have x3 : wc.cell? ⟨b, 3, none⟩ = some (.int .i64 d2.ops) := HN.out.cell 3
              have x4 : wc.cell? ⟨b, 4, none⟩ = some (.bool d2.dead) := HN.out.cell 4
              go_wp2_with fail
              refine (SLoad_any _ _ _ _ d2 _ HTN.out).mono ?_
              rw [HLQ.out]
              simp only [spV]
              rintro e w5 ⟨rfl, hb5⟩
              clear x0 x1 x2 x3 x4
              have hal := (Below.refl w5.heap.size w5).alloc (Nat.le_refl _) (.cells #[.int .i64 x.g, .int .i64 x.e, .int .i64 x.a, .int .i64 x.z, .int .i64 x.p] 23)
              have HD := Lib.hid ((HD.out.call hb5).alloc (.cells #[.int .i64 x.g, .int .i64 x.e, .int .i64 x.a, .int .i64 x.z, .int .i64 x.p] 23))
              have HL := Lib.hid ((HL.out.call hb5).alloc (.cells #[.int .i64 x.g, .int .i64 x.e, .int .i64 x.a, .int .i64 x.z, .int .i64 x.p] 23))
              have HN := Lib.hid ((HN.out.call hb5).alloc (.cells #[.int .i64 x.g, .int .i64 x.e, .int .i64 x.a, .int .i64 x.z, .int .i64 x.p] 23))
              have HTN := Lib.hid ((HTN.out.below hb5).below hal)
              have HB := Lib.hid (btrans (btrans HB.out HB.out.size hb5) (btrans HB.out HB.out.size hb5).size hal)
              have HY := Lib.hid (Bx.new w5 #[.int .i64 x.g, .int .i64 x.e, .int .i64 x.a, .int .i64 x.z, .int .i64 x.p] 23)
              clear hal hb5
              go_upto_region 13 with (fail)
              generalize hW : w5.alloc (.cells #[.int .i64 x.g, .int .i64 x.e, .int .i64 x.a, .int .i64 x.z, .int .i64 x.p] 23) = v5 at HD HL HN HTN HB HY ⊢
              clear hW
              have p0 := (HB.out.cell (p := ⟨ob, ooff + k * 5, none⟩) hob1).trans HXC.out.1
              have p1 := (HB.out.cell (p := ⟨ob, ooff + k * 5 + 1, none⟩) hob1).trans HXC.out.2.1
              have p2 := (HB.out.cell (p := ⟨ob, ooff + k * 5 + 2, none⟩) hob1).trans HXC.out.2.2.1
              have p3 := (HB.out.cell (p := ⟨ob, ooff + k * 5 + 3, none⟩) hob1).trans HXC.out.2.2.2.1
              have p4 := (HB.out.cell (p := ⟨ob, ooff + k * 5 + 4, none⟩) hob1).trans HXC.out.2.2.2.2
              have hs13 : v5.drew.cell? ⟨w5.heap.size, 0, none⟩ = some (.int .i64 x.g) ∧ v5.drew.cell? ⟨w5.heap.size, 1, none⟩ = some (.int .i64 x.e) ∧ v5.drew.cell? ⟨w5.heap.size, 2, none⟩ = some (.int .i64 x.a) ∧ v5.drew.cell? ⟨w5.heap.size, 3, none⟩ = some (.int .i64 x.z) ∧ v5.drew.cell? ⟨w5.heap.size, 4, none⟩ = some (.int .i64 x.p) ∧ v5.drew.cell? ⟨ob, ooff + k * 5, none⟩ = some (.int .i64 x.g) ∧ v5.drew.cell? ⟨ob, ooff + k * 5 + 1, none⟩ = some (.int .i64 x.e) ∧ v5.drew.cell? ⟨ob, ooff + k * 5 + 2, none⟩ = some (.int .i64 x.a) ∧ v5.drew.cell? ⟨ob, ooff + k * 5 + 3, none⟩ = some (.int .i64 x.z) ∧ v5.drew.cell? ⟨ob, ooff + k * 5 + 4, none⟩ = some (.int .i64 x.p) := ⟨HY.out.cell 0, HY.out.cell 1, HY.out.cell 2, HY.out.cell 3, HY.out.cell 4, p0, p1, p2, p3, p4⟩
              have HS13 := Lib.hid hs13; clear hs13
              go_wp2_with fail
              refine wp_region_held_drew (S := (fun w' => w'.cell? ⟨w5.heap.size, 0, none⟩ = some (.int .i64 x.g) ∧ w'.cell? ⟨w5.heap.size, 1, none⟩ = some (.int .i64 x.e) ∧ w'.cell? ⟨w5.heap.size, 2, none⟩ = some (.int .i64 x.a) ∧ w'.cell? ⟨w5.heap.size, 3, none⟩ = some (.int .i64 x.z) ∧ w'.cell? ⟨w5.heap.size, 4, none⟩ = some (.int .i64 x.p) ∧ w'.cell? ⟨ob, ooff + k * 5, none⟩ = some (.int .i64 x.g) ∧ w'.cell? ⟨ob, ooff + k * 5 + 1, none⟩ = some (.int .i64 x.e) ∧ w'.cell? ⟨ob, ooff + k * 5 + 2, none⟩ = some (.int .i64 x.a) ∧ w'.cell? ⟨ob, ooff + k * 5 + 3, none⟩ = some (.int .i64 x.z) ∧ w'.cell? ⟨ob, ooff + k * 5 + 4, none⟩ = some (.int .i64 x.p))) (by kernel_rfl) ?_ (fun hHeld => ?_)
              · exact HS13.out
              refine takeH (i := 0) (v := ?vv51) 61 rfl rfl (by kernel_rfl) (by kernel_rfl) (by kernel_rfl) (fun _ _ _ h => h) (Or.inl ⟨by kernel_rfl, ?yy51⟩) (by assumption) ?_
              case yy51 => intro w hSw; (try dsimp only at hSw); go_simp; (try with_reducible rfl)
              simp only [List.setIfInBounds_toArray, List.set_cons_zero, List.set_cons_succ]
              refine takeH (i := 1) (v := ?vv52) 62 rfl rfl (by kernel_rfl) (by kernel_rfl) (by kernel_rfl) (fun _ _ _ h => h) (Or.inl ⟨by kernel_rfl, ?yy52⟩) (by assumption) ?_
              case yy52 => intro w hSw; (try dsimp only at hSw); go_simp; (try with_reducible rfl)
              simp only [List.setIfInBounds_toArray, List.set_cons_zero, List.set_cons_succ]
              refine takeH (i := 2) (v := ?vv53) 63 rfl rfl (by kernel_rfl) (by kernel_rfl) (by kernel_rfl) (fun _ _ _ h => h) (Or.inl ⟨by kernel_rfl, ?yy53⟩) (by assumption) ?_
              case yy53 => intro w hSw; (try dsimp only at hSw); go_simp; (try with_reducible rfl)
              simp only [List.setIfInBounds_toArray, List.set_cons_zero, List.set_cons_succ]
              refine takeH (i := 3) (v := ?vv54) 64 rfl rfl (by kernel_rfl) (by kernel_rfl) (by kernel_rfl) (fun _ _ _ h => h) (Or.inl ⟨by kernel_rfl, ?yy54⟩) (by assumption) ?_
              case yy54 => intro w hSw; (try dsimp only at hSw); go_simp; (try with_reducible rfl)
              simp only [List.setIfInBounds_toArray, List.set_cons_zero, List.set_cons_succ]
              refine takeH (i := 4) (v := ?vv55) 65 rfl rfl (by kernel_rfl) (by kernel_rfl) (by kernel_rfl) (fun _ _ _ h => h) (Or.inl ⟨by kernel_rfl, ?yy55⟩) (by assumption) ?_
              case yy55 => intro w hSw; (try dsimp only at hSw); go_simp; (try with_reducible rfl)
              simp only [List.setIfInBounds_toArray, List.set_cons_zero, List.set_cons_succ]
              refine takeH (i := 5) (v := ?vv56) 66 rfl rfl (by kernel_rfl) (by kernel_rfl) (by kernel_rfl) (fun _ _ _ h => h) (Or.inl ⟨by kernel_rfl, ?yy56⟩) (by assumption) ?_
              case yy56 => intro w hSw; (try dsimp only at hSw); go_simp; (try with_reducible rfl)
              simp only [List.setIfInBounds_toArray, List.set_cons_zero, List.set_cons_succ]
              refine takeH (i := 6) (v := ?vv57) 67 rfl rfl (by kernel_rfl) (by kernel_rfl) (by kernel_rfl) (fun _ _ _ h => h) (Or.inl ⟨by kernel_rfl, ?yy57⟩) (by assumption) ?_
              case yy57 => intro w hSw; (try dsimp only at hSw); go_simp; (try with_reducible rfl)
              simp only [List.setIfInBounds_toArray, List.set_cons_zero, List.set_cons_succ]
              refine takeH (i := 7) (v := ?vv58) 68 rfl rfl (by kernel_rfl) (by kernel_rfl) (by kernel_rfl) (fun _ _ _ h => h) (Or.inl ⟨by kernel_rfl, ?yy58⟩) (by assumption) ?_
              case yy58 => intro w hSw; (try dsimp only at hSw); go_simp; (try with_reducible rfl)
              simp only [List.setIfInBounds_toArray, List.set_cons_zero, List.set_cons_succ]
              refine takeH (i := 8) (v := ?vv59) 69 rfl rfl (by kernel_rfl) (by kernel_rfl) (by kernel_rfl) (fun _ _ _ h => h) (Or.inl ⟨by kernel_rfl, ?yy59⟩) (by assumption) ?_
              case yy59 => intro w hSw; (try dsimp only at hSw); go_simp; (try with_reducible rfl)
              simp only [List.setIfInBounds_toArray, List.set_cons_zero, List.set_cons_succ]
              refine takeH (i := 9) (v := ?vv60) 70 rfl rfl (by kernel_rfl) (by kernel_rfl) (by kernel_rfl) (fun _ _ _ h => h) (Or.inl ⟨by kernel_rfl, ?yy60⟩) (by assumption) ?_
              case yy60 => intro w hSw; (try dsimp only at hSw); go_simp; (try with_reducible rfl)
              simp only [List.setIfInBounds_toArray, List.set_cons_zero, List.set_cons_succ]
              refine wpAnyH_done (by kernel_rfl) ?_ _
              clear hHeld HS13
              clear p0 p1 p2 p3 p4 HY
              have HD := Lib.hid (HD.out.drew)
              have HL := Lib.hid (HL.out.drew)
              have HN := Lib.hid (HN.out.drew)
              have HTN := Lib.hid (HTN.out.below (Below.refl _ _).drew)
              have HB := Lib.hid HB.out.drew
              generalize hVD : v5.drew = v6 at HD HL HN HTN HB ⊢
              clear hVD
              have hz6 : w1.heap.size + 1 < v6.heap.size := HL.out.lt
              have hbl : b < v6.heap.size := HN.out.lt
              have hlb : 0 ≤ last.g ∧ last.g ≤ 1099511627776 := by
                rcases HA.out.z with h | h
                · rw [h]; exact ⟨by decide, by decide⟩
                · have := spB_bounds h.1; omega
              obtain ⟨hlb0, hlb1⟩ := hlb
              have hw1 : IntKind.i64.wrap (last.g + 1) = last.g + 1 := by rw [IntKind.wrap_i64]; omega
              by_cases hsu : x.g = last.g + 1
              · have tsu : (x.g == last.g + 1) = true := by rw [hsu]; simp
                have HSU := Lib.hid hsu; clear hsu
                by_cases hk0 : (0 : Int) < (k : Int)
                · by_cases hl0 : 0 < last.g
                  · skip
                    have tk1 : decide ((0 : Int) < (k : Int)) = true := by rw [decide_eq_true_iff]; exact hk0
                    have tk2 : decide (0 < k) = true := by rw [decide_eq_true_iff]; omega
                    have tl : decide (0 < last.g) = true := by rw [decide_eq_true_iff]; exact hl0
                    have p0 := (HB.out.cell (p := ⟨ob, ooff + k * 5, none⟩) hob1).trans HXC.out.1
                    have p1 := (HB.out.cell (p := ⟨ob, ooff + k * 5 + 1, none⟩) hob1).trans HXC.out.2.1
                    have p2 := (HB.out.cell (p := ⟨ob, ooff + k * 5 + 2, none⟩) hob1).trans HXC.out.2.2.1
                    have p3 := (HB.out.cell (p := ⟨ob, ooff + k * 5 + 3, none⟩) hob1).trans HXC.out.2.2.2.1
                    have p4 := (HB.out.cell (p := ⟨ob, ooff + k * 5 + 4, none⟩) hob1).trans HXC.out.2.2.2.2
                    have hs15 : v6.drew.cell? ⟨ob, ooff + k * 5, none⟩ = some (.int .i64 x.g) ∧ v6.drew.cell? ⟨w1.heap.size + 1, 0, none⟩ = some (.int .i64 last.g) := ⟨p0, HL.out.cell 0⟩
                    have HS15 := Lib.hid hs15; clear hs15 p0 p1 p2 p3 p4
                    have HD := Lib.hid (HD.out.drew)
                    have HL := Lib.hid (HL.out.drew)
                    have HN := Lib.hid (HN.out.drew)
                    have HTN := Lib.hid (HTN.out.below (Below.refl _ _).drew)
                    have HB := Lib.hid HB.out.drew
                    go_wp2_with fail
                    refine wp_region_held_drew (S := (fun w' => w'.cell? ⟨ob, ooff + k * 5, none⟩ = some (.int .i64 x.g) ∧ w'.cell? ⟨w1.heap.size + 1, 0, none⟩ = some (.int .i64 last.g))) (by kernel_rfl) ?_ (fun hHeld => ?_)
                    · exact HS15.out
                    clear HS15
                    generalize hVD : v6.drew = v7 at HD HL HN HTN HB hHeld ⊢
                    clear hVD
                    refine takeH (i := 0) (v := ?vv61) 71 rfl rfl (by kernel_rfl) (by kernel_rfl) (by kernel_rfl) (fun _ _ _ h => h) (Or.inl ⟨by kernel_rfl, ?yy61⟩) (by assumption) ?_
                    case yy61 => intro w hSw; (try dsimp only at hSw); go_simp; (try with_reducible rfl)
                    simp only [List.setIfInBounds_toArray, List.set_cons_zero, List.set_cons_succ]
                    refine takeH (i := 1) (v := ?vv62) 72 rfl rfl (by kernel_rfl) (by kernel_rfl) (by kernel_rfl) (fun _ _ _ h => h) (Or.inl ⟨by kernel_rfl, ?yy62⟩) (by assumption) ?_
                    case yy62 => intro w hSw; (try dsimp only at hSw); go_simp; (try with_reducible rfl)
                    simp only [List.setIfInBounds_toArray, List.set_cons_zero, List.set_cons_succ]
                    refine takeH (i := 2) (v := ?vv63) 73 rfl rfl (by kernel_rfl) (by kernel_rfl) (by kernel_rfl) (fun _ _ _ h => h) (Or.inl ⟨by kernel_rfl, ?yy63⟩) (by assumption) ?_
                    case yy63 => intro w hSw; (try dsimp only at hSw); go_simp; (try with_reducible rfl)
                    simp only [List.setIfInBounds_toArray, List.set_cons_zero, List.set_cons_succ]
                    refine takeH (i := 3) (v := ?vv64) 74 rfl rfl (by kernel_rfl) (by kernel_rfl) (by kernel_rfl) (fun _ _ _ h => h) (Or.inl ⟨by kernel_rfl, ?yy64⟩) (by assumption) ?_
                    case yy64 => intro w hSw; (try dsimp only at hSw); go_simp; (try with_reducible rfl)
                    simp only [List.setIfInBounds_toArray, List.set_cons_zero, List.set_cons_succ]
                    refine takeH (i := 4) (v := ?vv65) 75 rfl rfl (by kernel_rfl) (by kernel_rfl) (by kernel_rfl) (fun _ _ _ h => h) (Or.inl ⟨by kernel_rfl, ?yy65⟩) (by assumption) ?_
                    case yy65 => intro w hSw; (try dsimp only at hSw); go_simp; (try with_reducible rfl)
                    simp only [List.setIfInBounds_toArray, List.set_cons_zero, List.set_cons_succ]
                    refine takeH (i := 5) (v := ?vv66) 76 rfl rfl (by kernel_rfl) (by kernel_rfl) (by kernel_rfl) (fun _ _ _ h => h) (Or.inl ⟨by kernel_rfl, ?yy66⟩) (by assumption) ?_
                    case yy66 => intro w hSw; (try dsimp only at hSw); go_simp; (try with_reducible rfl)
                    simp only [List.setIfInBounds_toArray, List.set_cons_zero, List.set_cons_succ]
                    refine takeH (i := 6) (v := ?vv67) 77 rfl rfl (by kernel_rfl) (by kernel_rfl) (by kernel_rfl) (fun _ _ _ h => h) (Or.inl ⟨by kernel_rfl, ?yy67⟩) (by assumption) ?_
                    case yy67 => intro w hSw; (try dsimp only at hSw); go_simp; (try with_reducible rfl)
                    simp only [List.setIfInBounds_toArray, List.set_cons_zero, List.set_cons_succ]
                    refine takeH (i := 7) (v := ?vv68) 78 rfl rfl (by kernel_rfl) (by kernel_rfl) (by kernel_rfl) (fun _ _ _ h => h) (Or.inl ⟨by kernel_rfl, ?yy68⟩) (by assumption) ?_
                    case yy68 => intro w hSw; (try dsimp only at hSw); go_simp; (try with_reducible rfl)
                    simp only [List.setIfInBounds_toArray, List.set_cons_zero, List.set_cons_succ]
                    refine takeH (i := 8) (v := ?vv69) 79 rfl rfl (by kernel_rfl) (by kernel_rfl) (by kernel_rfl) (fun _ _ _ h => h) (Or.inl ⟨by kernel_rfl, ?yy69⟩) (by assumption) ?_
                    case yy69 => intro w hSw; (try dsimp only at hSw); go_simp; (try with_reducible rfl)
                    simp only [List.setIfInBounds_toArray, List.set_cons_zero, List.set_cons_succ]
                    refine takeH (i := 9) (v := ?vv70) 80 rfl rfl (by kernel_rfl) (by kernel_rfl) (by kernel_rfl) (fun _ _ _ h => h) (Or.inl ⟨by kernel_rfl, ?yy70⟩) (by assumption) ?_
                    case yy70 => intro w hSw; (try dsimp only at hSw); go_simp; (try with_reducible rfl)
                    simp only [List.setIfInBounds_toArray, List.set_cons_zero, List.set_cons_succ]
                    refine takeH (i := 10) (v := ?vv71) 81 rfl rfl (by kernel_rfl) (by kernel_rfl) (by kernel_rfl) (fun _ _ _ h => h) (Or.inl ⟨by kernel_rfl, ?yy71⟩) (by assumption) ?_
                    case yy71 => intro w hSw; (try dsimp only at hSw); go_simp; (try with_reducible rfl)
                    simp only [List.setIfInBounds_toArray, List.set_cons_zero, List.set_cons_succ]
                    refine takeH (i := 11) (v := ?vv72) 82 rfl rfl (by kernel_rfl) (by kernel_rfl) (by kernel_rfl) (fun _ _ _ h => h) (Or.inl ⟨by kernel_rfl, ?yy72⟩) (by assumption) ?_
                    case yy72 => intro w hSw; (try dsimp only at hSw); go_simp; (try with_reducible rfl)
                    simp only [List.setIfInBounds_toArray, List.set_cons_zero, List.set_cons_succ]
                    refine takeH (i := 12) (v := ?vv73) 83 rfl rfl (by kernel_rfl) (by kernel_rfl) (by kernel_rfl) (fun _ _ _ h => h) (Or.inl ⟨by kernel_rfl, ?yy73⟩) (by assumption) ?_
                    case yy73 => intro w hSw; (try dsimp only at hSw); go_simp; (try with_reducible rfl)
                    simp only [List.setIfInBounds_toArray, List.set_cons_zero, List.set_cons_succ]
                    refine takeH (i := 13) (v := ?vv74) 84 rfl rfl (by kernel_rfl) (by kernel_rfl) (by kernel_rfl) (fun _ _ _ h => h) (Or.inl ⟨by kernel_rfl, ?yy74⟩) (by assumption) ?_
                    case yy74 => intro w hSw; (try dsimp only at hSw); go_simp; (try with_reducible rfl)
                    simp only [List.setIfInBounds_toArray, List.set_cons_zero, List.set_cons_succ]
                    refine takeH (i := 14) (v := ?vv75) 85 rfl rfl (by kernel_rfl) (by kernel_rfl) (by kernel_rfl) (fun _ _ _ h => h) (Or.inl ⟨by kernel_rfl, ?yy75⟩) (by assumption) ?_
                    case yy75 => intro w hSw; (try dsimp only at hSw); go_simp; (try with_reducible rfl)
                    simp only [List.setIfInBounds_toArray, List.set_cons_zero, List.set_cons_succ]
                    refine takeH (i := 15) (v := ?vv76) 86 rfl rfl (by kernel_rfl) (by kernel_rfl) (by kernel_rfl) (fun _ _ _ h => h) (Or.inl ⟨by kernel_rfl, ?yy76⟩) (by assumption) ?_
                    case yy76 => intro w hSw; (try dsimp only at hSw); go_simp; (try with_reducible rfl)
                    simp only [List.setIfInBounds_toArray, List.set_cons_zero, List.set_cons_succ]
                    refine takeH (i := 16) (v := ?vv77) 87 rfl rfl (by kernel_rfl) (by kernel_rfl) (by kernel_rfl) (fun _ _ _ h => h) (Or.inl ⟨by kernel_rfl, ?yy77⟩) (by assumption) ?_
                    case yy77 => intro w hSw; (try dsimp only at hSw); go_simp; (try with_reducible rfl)
                    simp only [List.setIfInBounds_toArray, List.set_cons_zero, List.set_cons_succ]
                    refine takeH (i := 17) (v := ?vv78) 88 rfl rfl (by kernel_rfl) (by kernel_rfl) (by kernel_rfl) (fun _ _ _ h => h) (Or.inl ⟨by kernel_rfl, ?yy78⟩) (by assumption) ?_
                    case yy78 => intro w hSw; (try dsimp only at hSw); go_simp; (try with_reducible rfl)
                    simp only [List.setIfInBounds_toArray, List.set_cons_zero, List.set_cons_succ]
                    refine wpAnyH_done (by kernel_rfl) ?_ _
                    clear hHeld
                    have hz7 : w1.heap.size + 1 < v7.heap.size := HL.out.lt
                    have hbl7 : b < v7.heap.size := HN.out.lt
                    obtain ⟨e1, e2⟩ := HNX.out HSU.out hl0
                    obtain ⟨qs, hqs⟩ : ∃ q, d2.S.getD (last.g % 2).toNat [] = q := ⟨_, rfl⟩
                    rw [hqs] at e1 e2
                    have hql := read_len d2 (last.g % 2)
                    rw [e1] at hql
                    simp only at hql
                    have HRD := Lib.hid e1; have HDQ := Lib.hid e2; clear e1 e2 hqs
                    have x0 : v7.cell? ⟨b, 0, none⟩ = some (.slice a5 d2.S.length c5) := HN.out.cell 0
                    have x1 : v7.cell? ⟨b, 1, none⟩ = some (.slice a6 d2.P.length c6) := HN.out.cell 1
                    have x2 : v7.cell? ⟨b, 2, none⟩ = some (.int .i64 d2.fuse) := HN.out.cell 2
                    have x3 : v7.cell? ⟨b, 3, none⟩ = some (.int .i64 d2.ops) := HN.out.cell 3
                    have x4 : v7.cell? ⟨b, 4, none⟩ = some (.bool d2.dead) := HN.out.cell 4
                    have l0 : v7.cell? ⟨w1.heap.size + 1, 0, none⟩ = some (.int .i64 last.g) := HL.out.cell 0
                    go_wp2_with fail
                    refine (RRead_any _ _ _ _ d2 (last.g % 2) _ HTN.out).mono ?_
                    rw [HRD.out]
                    rintro e w8 ⟨rfl, hb8⟩
                    clear x0 x1 x2 x3 x4 l0
                    have HD := Lib.hid (HD.out.call hb8); have HL := Lib.hid (HL.out.call hb8); have HN := Lib.hid (HN.out.call hb8); have HTN := Lib.hid (HTN.out.below hb8); have HB := Lib.hid (btrans HB.out HB.out.size hb8); clear hb8
                    go_wp2_with fail
                    refine (SDecode_any qs _ hql).mono ?_
                    rw [HDQ.out]
                    simp only [spV]
                    rintro e w9 ⟨rfl, hb9⟩
                    have hal := (Below.refl w9.heap.size w9).alloc (Nat.le_refl _) (.cells #[.int .i64 last.g, .int .i64 last.e, .int .i64 last.a, .int .i64 last.z, .int .i64 last.p] 23)
                    have HD := Lib.hid ((HD.out.call hb9).alloc (.cells #[.int .i64 last.g, .int .i64 last.e, .int .i64 last.a, .int .i64 last.z, .int .i64 last.p] 23))
                    have HL := Lib.hid ((HL.out.call hb9).alloc (.cells #[.int .i64 last.g, .int .i64 last.e, .int .i64 last.a, .int .i64 last.z, .int .i64 last.p] 23))
                    have HN := Lib.hid ((HN.out.call hb9).alloc (.cells #[.int .i64 last.g, .int .i64 last.e, .int .i64 last.a, .int .i64 last.z, .int .i64 last.p] 23))
                    have HTN := Lib.hid ((HTN.out.below hb9).below hal)
                    have HB := Lib.hid (btrans (btrans HB.out HB.out.size hb9) (btrans HB.out HB.out.size hb9).size hal)
                    have HY := Lib.hid (Bx.new w9 #[.int .i64 last.g, .int .i64 last.e, .int .i64 last.a, .int .i64 last.z, .int .i64 last.p] 23)
                    clear hal hb9
                    go_upto_region 18 with (fail)
                    generalize hW : w9.alloc (.cells #[.int .i64 last.g, .int .i64 last.e, .int .i64 last.a, .int .i64 last.z, .int .i64 last.p] 23) = v9 at HD HL HN HTN HB HY ⊢
                    clear hW
                    have y0 : v9.cell? ⟨w9.heap.size, 0, none⟩ = some (.int .i64 last.g) := HY.out.cell 0
                    have y1 : v9.cell? ⟨w9.heap.size, 1, none⟩ = some (.int .i64 last.e) := HY.out.cell 1
                    have y2 : v9.cell? ⟨w9.heap.size, 2, none⟩ = some (.int .i64 last.a) := HY.out.cell 2
                    have y3 : v9.cell? ⟨w9.heap.size, 3, none⟩ = some (.int .i64 last.z) := HY.out.cell 3
                    have y4 : v9.cell? ⟨w9.heap.size, 4, none⟩ = some (.int .i64 last.p) := HY.out.cell 4
                    have q0 : v9.cell? ⟨w1.heap.size + 1, 0, none⟩ = some (.int .i64 last.g) := HL.out.cell 0
                    have q1 : v9.cell? ⟨w1.heap.size + 1, 1, none⟩ = some (.int .i64 last.e) := HL.out.cell 1
                    have q2 : v9.cell? ⟨w1.heap.size + 1, 2, none⟩ = some (.int .i64 last.a) := HL.out.cell 2
                    have q3 : v9.cell? ⟨w1.heap.size + 1, 3, none⟩ = some (.int .i64 last.z) := HL.out.cell 3
                    have q4 : v9.cell? ⟨w1.heap.size + 1, 4, none⟩ = some (.int .i64 last.p) := HL.out.cell 4
                    go_wp2_with fail
                    clear y0 y1 y2 y3 y4 q0 q1 q2 q3 q4 HY
                    have hbl9 : b < v9.heap.size := HN.out.lt
                    have p0 := (HB.out.cell (p := ⟨ob, ooff + k * 5, none⟩) hob1).trans HXC.out.1
                    have p1 := (HB.out.cell (p := ⟨ob, ooff + k * 5 + 1, none⟩) hob1).trans HXC.out.2.1
                    have p2 := (HB.out.cell (p := ⟨ob, ooff + k * 5 + 2, none⟩) hob1).trans HXC.out.2.2.1
                    have p3 := (HB.out.cell (p := ⟨ob, ooff + k * 5 + 3, none⟩) hob1).trans HXC.out.2.2.2.1
                    have p4 := (HB.out.cell (p := ⟨ob, ooff + k * 5 + 4, none⟩) hob1).trans HXC.out.2.2.2.2
                    have hs20 : v9.drew.cell? ⟨b, 0, none⟩ = some (.slice a5 d2.S.length c5) ∧ v9.drew.cell? ⟨b, 1, none⟩ = some (.slice a6 d2.P.length c6) ∧ v9.drew.cell? ⟨b, 2, none⟩ = some (.int .i64 d2.fuse) ∧ v9.drew.cell? ⟨b, 3, none⟩ = some (.int .i64 d2.ops) ∧ v9.drew.cell? ⟨b, 4, none⟩ = some (.bool d2.dead) ∧ v9.drew.cell? ⟨ob, ooff + k * 5, none⟩ = some (.int .i64 x.g) ∧ v9.drew.cell? ⟨ob, ooff + k * 5 + 1, none⟩ = some (.int .i64 x.e) ∧ v9.drew.cell? ⟨ob, ooff + k * 5 + 2, none⟩ = some (.int .i64 x.a) ∧ v9.drew.cell? ⟨ob, ooff + k * 5 + 3, none⟩ = some (.int .i64 x.z) ∧ v9.drew.cell? ⟨ob, ooff + k * 5 + 4, none⟩ = some (.int .i64 x.p) := ⟨HN.out.cell 0, HN.out.cell 1, HN.out.cell 2, HN.out.cell 3, HN.out.cell 4, p0, p1, p2, p3, p4⟩
                    have HS20 := Lib.hid hs20; clear hs20 p0 p1 p2 p3 p4
                    have hbd : w1.heap.size + 2 ≤ b := by omega
                    have hzv : w1.heap.size + 1 < v9.heap.size := HL.out.lt
                    have HD := Lib.hid (HD.out.drew)
                    have HL := Lib.hid (HL.out.drew)
                    have HTN := Lib.hid (HTN.out.below (Below.refl _ _).drew)
                    have HB := Lib.hid HB.out.drew
                    go_wp2_with fail
                    refine wp_region_held_drew (S := (fun w' => w'.cell? ⟨b, 0, none⟩ = some (.slice a5 d2.S.length c5) ∧ w'.cell? ⟨b, 1, none⟩ = some (.slice a6 d2.P.length c6) ∧ w'.cell? ⟨b, 2, none⟩ = some (.int .i64 d2.fuse) ∧ w'.cell? ⟨b, 3, none⟩ = some (.int .i64 d2.ops) ∧ w'.cell? ⟨b, 4, none⟩ = some (.bool d2.dead) ∧ w'.cell? ⟨ob, ooff + k * 5, none⟩ = some (.int .i64 x.g) ∧ w'.cell? ⟨ob, ooff + k * 5 + 1, none⟩ = some (.int .i64 x.e) ∧ w'.cell? ⟨ob, ooff + k * 5 + 2, none⟩ = some (.int .i64 x.a) ∧ w'.cell? ⟨ob, ooff + k * 5 + 3, none⟩ = some (.int .i64 x.z) ∧ w'.cell? ⟨ob, ooff + k * 5 + 4, none⟩ = some (.int .i64 x.p))) (by kernel_rfl) ?_ (fun hHeld => ?_)
                    · exact HS20.out
                    clear HS20 HN
                    generalize hVD : v9.drew = vd at HD HL HTN HB hHeld ⊢
                    clear hVD
                    refine takeH (i := 0) (v := ?vv79) 113 rfl rfl (by kernel_rfl) (by kernel_rfl) (by kernel_rfl) (fun _ _ _ h => h) (Or.inl ⟨by kernel_rfl, ?yy79⟩) (by assumption) ?_
                    case yy79 => intro w hSw; (try dsimp only at hSw); go_simp; (try with_reducible rfl)
                    simp only [List.setIfInBounds_toArray, List.set_cons_zero, List.set_cons_succ]
                    refine takeH (i := 1) (v := ?vv80) 114 rfl rfl (by kernel_rfl) (by kernel_rfl) (by kernel_rfl) (fun _ _ _ h => h) (Or.inl ⟨by kernel_rfl, ?yy80⟩) (by assumption) ?_
                    case yy80 => intro w hSw; (try dsimp only at hSw); go_simp; (try with_reducible rfl)
                    simp only [List.setIfInBounds_toArray, List.set_cons_zero, List.set_cons_succ]
                    refine takeH (i := 2) (v := ?vv81) 115 rfl rfl (by kernel_rfl) (by kernel_rfl) (by kernel_rfl) (fun _ _ _ h => h) (Or.inl ⟨by kernel_rfl, ?yy81⟩) (by assumption) ?_
                    case yy81 => intro w hSw; (try dsimp only at hSw); go_simp; (try with_reducible rfl)
                    simp only [List.setIfInBounds_toArray, List.set_cons_zero, List.set_cons_succ]
                    refine takeH (i := 3) (v := ?vv82) 116 rfl rfl (by kernel_rfl) (by kernel_rfl) (by kernel_rfl) (fun _ _ _ h => h) (Or.inl ⟨by kernel_rfl, ?yy82⟩) (by assumption) ?_
                    case yy82 => intro w hSw; (try dsimp only at hSw); go_simp; (try with_reducible rfl)
                    simp only [List.setIfInBounds_toArray, List.set_cons_zero, List.set_cons_succ]
                    refine takeH (i := 4) (v := ?vv83) 117 rfl rfl (by kernel_rfl) (by kernel_rfl) (by kernel_rfl) (fun _ _ _ h => h) (Or.inl ⟨by kernel_rfl, ?yy83⟩) (by assumption) ?_
                    case yy83 => intro w hSw; (try dsimp only at hSw); go_simp; (try with_reducible rfl)
                    simp only [List.setIfInBounds_toArray, List.set_cons_zero, List.set_cons_succ]
                    have r0 : vd.cell? ⟨w1.heap.size, 0, none⟩ = some (.slice a d.S.length c) := HD.out.cell 0
                    have r1 : vd.cell? ⟨w1.heap.size, 1, none⟩ = some (.slice a' d.P.length c') := HD.out.cell 1
                    have r2 : vd.cell? ⟨w1.heap.size, 2, none⟩ = some (.int .i64 d.fuse) := HD.out.cell 2
                    have r3 : vd.cell? ⟨w1.heap.size, 3, none⟩ = some (.int .i64 d.ops) := HD.out.cell 3
                    have r4 : vd.cell? ⟨w1.heap.size, 4, none⟩ = some (.bool d.dead) := HD.out.cell 4
                    have f0 := HD.out.free 0
                    have f1 := HD.out.free 1
                    have f2 := HD.out.free 2
                    have f3 := HD.out.free 3
                    have f4 := HD.out.free 4
                    have q0 : vd.cell? ⟨w1.heap.size + 1, 0, none⟩ = some (.int .i64 last.g) := HL.out.cell 0
                    have q1 : vd.cell? ⟨w1.heap.size + 1, 1, none⟩ = some (.int .i64 last.e) := HL.out.cell 1
                    have q2 : vd.cell? ⟨w1.heap.size + 1, 2, none⟩ = some (.int .i64 last.a) := HL.out.cell 2
                    have q3 : vd.cell? ⟨w1.heap.size + 1, 3, none⟩ = some (.int .i64 last.z) := HL.out.cell 3
                    have q4 : vd.cell? ⟨w1.heap.size + 1, 4, none⟩ = some (.int .i64 last.p) := HL.out.cell 4
                    have g0 := HL.out.free 0
                    have g1 := HL.out.free 1
                    have g2 := HL.out.free 2
                    have g3 := HL.out.free 3
                    have g4 := HL.out.free 4
                    refine wpAnyH_ready (rs := [5]) (by kernel_rfl) (by simp) ?_
                    refine (AllReadyH.cons rfl (fun K hK => ?_) AllReadyH.nil)
                    go_simp
                    skip
                    (try go_wp2_with fail)
                    refine hK.out _ _ ?_ (fun hHeld => ?_)
                    · exact cells10_sets hHeld (w1.heap.size) (by omega) (by omega) _ _ _ _ _
                    clear hK K
                    (try simp only [Act.put, List.setIfInBounds_toArray, List.set_cons_zero, List.set_cons_succ])
                    clear r0 r1 r2 r3 r4 f0 f1 f2 f3 f4 q0 q1 q2 q3 q4 g0 g1 g2 g3 g4
                    have HTN := Lib.hid (HTN.out.sets_box HD.out (.slice a5 d2.S.length c5) (.slice a6 d2.P.length c6) (.int .i64 d2.fuse) (.int .i64 d2.ops) (.bool d2.dead)); have HD := Lib.hid (HD.out.sets (.slice a5 d2.S.length c5) (.slice a6 d2.P.length c6) (.int .i64 d2.fuse) (.int .i64 d2.ops) (.bool d2.dead)); have HL := Lib.hid (HL.out.sets_ne (c := w1.heap.size) (by omega) (.slice a5 d2.S.length c5) (.slice a6 d2.P.length c6) (.int .i64 d2.fuse) (.int .i64 d2.ops) (.bool d2.dead)); have HB := Lib.hid (below_sets HB.out w1.heap.size (by omega) (.slice a5 d2.S.length c5) (.slice a6 d2.P.length c6) (.int .i64 d2.fuse) (.int .i64 d2.ops) (.bool d2.dead))
                    have hze : w1.heap.size + 1 < (((((vd.setCell ⟨w1.heap.size, 0, none⟩ (.slice a5 d2.S.length c5)).setCell ⟨w1.heap.size, 1, none⟩ (.slice a6 d2.P.length c6)).setCell ⟨w1.heap.size, 2, none⟩ (.int .i64 d2.fuse)).setCell ⟨w1.heap.size, 3, none⟩ (.int .i64 d2.ops)).setCell ⟨w1.heap.size, 4, none⟩ (.bool d2.dead)).heap.size := HL.out.lt
                    generalize hWE : (((((vd.setCell ⟨w1.heap.size, 0, none⟩ (.slice a5 d2.S.length c5)).setCell ⟨w1.heap.size, 1, none⟩ (.slice a6 d2.P.length c6)).setCell ⟨w1.heap.size, 2, none⟩ (.int .i64 d2.fuse)).setCell ⟨w1.heap.size, 3, none⟩ (.int .i64 d2.ops)).setCell ⟨w1.heap.size, 4, none⟩ (.bool d2.dead)) = WE at HTN HD HL HB hze hHeld ⊢
                    clear hWE
                    have q0 : WE.cell? ⟨w1.heap.size + 1, 0, none⟩ = some (.int .i64 last.g) := HL.out.cell 0
                    have q1 : WE.cell? ⟨w1.heap.size + 1, 1, none⟩ = some (.int .i64 last.e) := HL.out.cell 1
                    have q2 : WE.cell? ⟨w1.heap.size + 1, 2, none⟩ = some (.int .i64 last.a) := HL.out.cell 2
                    have q3 : WE.cell? ⟨w1.heap.size + 1, 3, none⟩ = some (.int .i64 last.z) := HL.out.cell 3
                    have q4 : WE.cell? ⟨w1.heap.size + 1, 4, none⟩ = some (.int .i64 last.p) := HL.out.cell 4
                    have g0 := HL.out.free 0
                    have g1 := HL.out.free 1
                    have g2 := HL.out.free 2
                    have g3 := HL.out.free 3
                    have g4 := HL.out.free 4
                    refine wpAnyH_ready (rs := [6]) (by kernel_rfl) (by simp) ?_
                    refine (AllReadyH.cons rfl (fun K hK => ?_) AllReadyH.nil)
                    go_simp
                    skip
                    (try go_wp2_with fail)
                    refine hK.out _ _ ?_ (fun hHeld => ?_)
                    · exact cells10_sets (by assumption) (w1.heap.size + 1) (by omega) (by omega) _ _ _ _ _
                    clear hK K
                    (try simp only [Act.put, List.setIfInBounds_toArray, List.set_cons_zero, List.set_cons_succ])
                    refine wpAnyH_done (by kernel_rfl) ?_ _
                    clear q0 q1 q2 q3 q4 g0 g1 g2 g3 g4
                    have HTN := Lib.hid (HTN.out.sets_ints HL.out (.int .i64 x.g) (.int .i64 x.e) (.int .i64 x.a) (.int .i64 x.z) (.int .i64 x.p)); have HL := Lib.hid (HL.out.sets (.int .i64 x.g) (.int .i64 x.e) (.int .i64 x.a) (.int .i64 x.z) (.int .i64 x.p)); have HD := Lib.hid (HD.out.sets_ne (c := w1.heap.size + 1) (by omega) (.int .i64 x.g) (.int .i64 x.e) (.int .i64 x.a) (.int .i64 x.z) (.int .i64 x.p)); have HB := Lib.hid (below_sets HB.out (w1.heap.size + 1) (by omega) (.int .i64 x.g) (.int .i64 x.e) (.int .i64 x.a) (.int .i64 x.z) (.int .i64 x.p))
                    generalize hWF : (((((WE.setCell ⟨w1.heap.size + 1, 0, none⟩ (.int .i64 x.g)).setCell ⟨w1.heap.size + 1, 1, none⟩ (.int .i64 x.e)).setCell ⟨w1.heap.size + 1, 2, none⟩ (.int .i64 x.a)).setCell ⟨w1.heap.size + 1, 3, none⟩ (.int .i64 x.z)).setCell ⟨w1.heap.size + 1, 4, none⟩ (.int .i64 x.p)) = WF at HTN HD HL HB ⊢
                    clear hWF
                    clear hHeld
                    have hzf := HL.out.lt
                    go_wp2
                    go_roundw
                    case rel => exact ⟨k + 1, d2, x, a5, c5, a6, c6, by omega, by go_num, HA2.out, HD.out, HL.out, HTN.out, by omega, HB.out⟩
                    case measure => simp [intOf]; omega
                  · skip
                    have tk1 : decide ((0 : Int) < (k : Int)) = true := by rw [decide_eq_true_iff]; exact hk0
                    have tk2 : decide (0 < k) = true := by rw [decide_eq_true_iff]; omega
                    have tl : decide (0 < last.g) = false := by rw [decide_eq_false_iff_not]; exact hl0
                    have p0 := (HB.out.cell (p := ⟨ob, ooff + k * 5, none⟩) hob1).trans HXC.out.1
                    have p1 := (HB.out.cell (p := ⟨ob, ooff + k * 5 + 1, none⟩) hob1).trans HXC.out.2.1
                    have p2 := (HB.out.cell (p := ⟨ob, ooff + k * 5 + 2, none⟩) hob1).trans HXC.out.2.2.1
                    have p3 := (HB.out.cell (p := ⟨ob, ooff + k * 5 + 3, none⟩) hob1).trans HXC.out.2.2.2.1
                    have p4 := (HB.out.cell (p := ⟨ob, ooff + k * 5 + 4, none⟩) hob1).trans HXC.out.2.2.2.2
                    have hs15 : v6.drew.cell? ⟨ob, ooff + k * 5, none⟩ = some (.int .i64 x.g) ∧ v6.drew.cell? ⟨w1.heap.size + 1, 0, none⟩ = some (.int .i64 last.g) := ⟨p0, HL.out.cell 0⟩
                    have HS15 := Lib.hid hs15; clear hs15 p0 p1 p2 p3 p4
                    have HD := Lib.hid (HD.out.drew)
                    have HL := Lib.hid (HL.out.drew)
                    have HN := Lib.hid (HN.out.drew)
                    have HTN := Lib.hid (HTN.out.below (Below.refl _ _).drew)
                    have HB := Lib.hid HB.out.drew
                    go_wp2_with fail
                    refine wp_region_held_drew (S := (fun w' => w'.cell? ⟨ob, ooff + k * 5, none⟩ = some (.int .i64 x.g) ∧ w'.cell? ⟨w1.heap.size + 1, 0, none⟩ = some (.int .i64 last.g))) (by kernel_rfl) ?_ (fun hHeld => ?_)
                    · exact HS15.out
                    clear HS15
                    generalize hVD : v6.drew = v7 at HD HL HN HTN HB hHeld ⊢
                    clear hVD
                    refine takeH (i := 0) (v := ?vv84) 71 rfl rfl (by kernel_rfl) (by kernel_rfl) (by kernel_rfl) (fun _ _ _ h => h) (Or.inl ⟨by kernel_rfl, ?yy84⟩) (by assumption) ?_
                    case yy84 => intro w hSw; (try dsimp only at hSw); go_simp; (try with_reducible rfl)
                    simp only [List.setIfInBounds_toArray, List.set_cons_zero, List.set_cons_succ]
                    refine takeH (i := 1) (v := ?vv85) 72 rfl rfl (by kernel_rfl) (by kernel_rfl) (by kernel_rfl) (fun _ _ _ h => h) (Or.inl ⟨by kernel_rfl, ?yy85⟩) (by assumption) ?_
                    case yy85 => intro w hSw; (try dsimp only at hSw); go_simp; (try with_reducible rfl)
                    simp only [List.setIfInBounds_toArray, List.set_cons_zero, List.set_cons_succ]
                    refine takeH (i := 2) (v := ?vv86) 73 rfl rfl (by kernel_rfl) (by kernel_rfl) (by kernel_rfl) (fun _ _ _ h => h) (Or.inl ⟨by kernel_rfl, ?yy86⟩) (by assumption) ?_
                    case yy86 => intro w hSw; (try dsimp only at hSw); go_simp; (try with_reducible rfl)
                    simp only [List.setIfInBounds_toArray, List.set_cons_zero, List.set_cons_succ]
                    refine takeH (i := 3) (v := ?vv87) 74 rfl rfl (by kernel_rfl) (by kernel_rfl) (by kernel_rfl) (fun _ _ _ h => h) (Or.inl ⟨by kernel_rfl, ?yy87⟩) (by assumption) ?_
                    case yy87 => intro w hSw; (try dsimp only at hSw); go_simp; (try with_reducible rfl)
                    simp only [List.setIfInBounds_toArray, List.set_cons_zero, List.set_cons_succ]
                    refine takeH (i := 4) (v := ?vv88) 75 rfl rfl (by kernel_rfl) (by kernel_rfl) (by kernel_rfl) (fun _ _ _ h => h) (Or.inl ⟨by kernel_rfl, ?yy88⟩) (by assumption) ?_
                    case yy88 => intro w hSw; (try dsimp only at hSw); go_simp; (try with_reducible rfl)
                    simp only [List.setIfInBounds_toArray, List.set_cons_zero, List.set_cons_succ]
                    refine takeH (i := 5) (v := ?vv89) 76 rfl rfl (by kernel_rfl) (by kernel_rfl) (by kernel_rfl) (fun _ _ _ h => h) (Or.inl ⟨by kernel_rfl, ?yy89⟩) (by assumption) ?_
                    case yy89 => intro w hSw; (try dsimp only at hSw); go_simp; (try with_reducible rfl)
                    simp only [List.setIfInBounds_toArray, List.set_cons_zero, List.set_cons_succ]
                    refine takeH (i := 6) (v := ?vv90) 77 rfl rfl (by kernel_rfl) (by kernel_rfl) (by kernel_rfl) (fun _ _ _ h => h) (Or.inl ⟨by kernel_rfl, ?yy90⟩) (by assumption) ?_
                    case yy90 => intro w hSw; (try dsimp only at hSw); go_simp; (try with_reducible rfl)
                    simp only [List.setIfInBounds_toArray, List.set_cons_zero, List.set_cons_succ]
                    refine takeH (i := 7) (v := ?vv91) 78 rfl rfl (by kernel_rfl) (by kernel_rfl) (by kernel_rfl) (fun _ _ _ h => h) (Or.inl ⟨by kernel_rfl, ?yy91⟩) (by assumption) ?_
                    case yy91 => intro w hSw; (try dsimp only at hSw); go_simp; (try with_reducible rfl)
                    simp only [List.setIfInBounds_toArray, List.set_cons_zero, List.set_cons_succ]
                    refine takeH (i := 8) (v := ?vv92) 79 rfl rfl (by kernel_rfl) (by kernel_rfl) (by kernel_rfl) (fun _ _ _ h => h) (Or.inl ⟨by kernel_rfl, ?yy92⟩) (by assumption) ?_
                    case yy92 => intro w hSw; (try dsimp only at hSw); go_simp; (try with_reducible rfl)
                    simp only [List.setIfInBounds_toArray, List.set_cons_zero, List.set_cons_succ]
                    refine takeH (i := 9) (v := ?vv93) 80 rfl rfl (by kernel_rfl) (by kernel_rfl) (by kernel_rfl) (fun _ _ _ h => h) (Or.inl ⟨by kernel_rfl, ?yy93⟩) (by assumption) ?_
                    case yy93 => intro w hSw; (try dsimp only at hSw); go_simp; (try with_reducible rfl)
                    simp only [List.setIfInBounds_toArray, List.set_cons_zero, List.set_cons_succ]
                    refine takeH (i := 10) (v := ?vv94) 81 rfl rfl (by kernel_rfl) (by kernel_rfl) (by kernel_rfl) (fun _ _ _ h => h) (Or.inl ⟨by kernel_rfl, ?yy94⟩) (by assumption) ?_
                    case yy94 => intro w hSw; (try dsimp only at hSw); go_simp; (try with_reducible rfl)
                    simp only [List.setIfInBounds_toArray, List.set_cons_zero, List.set_cons_succ]
                    refine takeH (i := 11) (v := ?vv95) 82 rfl rfl (by kernel_rfl) (by kernel_rfl) (by kernel_rfl) (fun _ _ _ h => h) (Or.inl ⟨by kernel_rfl, ?yy95⟩) (by assumption) ?_
                    case yy95 => intro w hSw; (try dsimp only at hSw); go_simp; (try with_reducible rfl)
                    simp only [List.setIfInBounds_toArray, List.set_cons_zero, List.set_cons_succ]
                    refine takeH (i := 12) (v := ?vv96) 83 rfl rfl (by kernel_rfl) (by kernel_rfl) (by kernel_rfl) (fun _ _ _ h => h) (Or.inl ⟨by kernel_rfl, ?yy96⟩) (by assumption) ?_
                    case yy96 => intro w hSw; (try dsimp only at hSw); go_simp; (try with_reducible rfl)
                    simp only [List.setIfInBounds_toArray, List.set_cons_zero, List.set_cons_succ]
                    refine takeH (i := 13) (v := ?vv97) 84 rfl rfl (by kernel_rfl) (by kernel_rfl) (by kernel_rfl) (fun _ _ _ h => h) (Or.inl ⟨by kernel_rfl, ?yy97⟩) (by assumption) ?_
                    case yy97 => intro w hSw; (try dsimp only at hSw); go_simp; (try with_reducible rfl)
                    simp only [List.setIfInBounds_toArray, List.set_cons_zero, List.set_cons_succ]
                    refine takeH (i := 14) (v := ?vv98) 85 rfl rfl (by kernel_rfl) (by kernel_rfl) (by kernel_rfl) (fun _ _ _ h => h) (Or.inl ⟨by kernel_rfl, ?yy98⟩) (by assumption) ?_
                    case yy98 => intro w hSw; (try dsimp only at hSw); go_simp; (try with_reducible rfl)
                    simp only [List.setIfInBounds_toArray, List.set_cons_zero, List.set_cons_succ]
                    refine takeH (i := 15) (v := ?vv99) 86 rfl rfl (by kernel_rfl) (by kernel_rfl) (by kernel_rfl) (fun _ _ _ h => h) (Or.inl ⟨by kernel_rfl, ?yy99⟩) (by assumption) ?_
                    case yy99 => intro w hSw; (try dsimp only at hSw); go_simp; (try with_reducible rfl)
                    simp only [List.setIfInBounds_toArray, List.set_cons_zero, List.set_cons_succ]
                    refine takeH (i := 16) (v := ?vv100) 87 rfl rfl (by kernel_rfl) (by kernel_rfl) (by kernel_rfl) (fun _ _ _ h => h) (Or.inl ⟨by kernel_rfl, ?yy100⟩) (by assumption) ?_
                    case yy100 => intro w hSw; (try dsimp only at hSw); go_simp; (try with_reducible rfl)
                    simp only [List.setIfInBounds_toArray, List.set_cons_zero, List.set_cons_succ]
                    refine takeH (i := 17) (v := ?vv101) 88 rfl rfl (by kernel_rfl) (by kernel_rfl) (by kernel_rfl) (fun _ _ _ h => h) (Or.inl ⟨by kernel_rfl, ?yy101⟩) (by assumption) ?_
                    case yy101 => intro w hSw; (try dsimp only at hSw); go_simp; (try with_reducible rfl)
                    simp only [List.setIfInBounds_toArray, List.set_cons_zero, List.set_cons_succ]
                    refine wpAnyH_done (by kernel_rfl) ?_ _
                    clear hHeld
                    have hz7 : w1.heap.size + 1 < v7.heap.size := HL.out.lt
                    have hbl7 : b < v7.heap.size := HN.out.lt
                    have p0 := (HB.out.cell (p := ⟨ob, ooff + k * 5, none⟩) hob1).trans HXC.out.1
                    have p1 := (HB.out.cell (p := ⟨ob, ooff + k * 5 + 1, none⟩) hob1).trans HXC.out.2.1
                    have p2 := (HB.out.cell (p := ⟨ob, ooff + k * 5 + 2, none⟩) hob1).trans HXC.out.2.2.1
                    have p3 := (HB.out.cell (p := ⟨ob, ooff + k * 5 + 3, none⟩) hob1).trans HXC.out.2.2.2.1
                    have p4 := (HB.out.cell (p := ⟨ob, ooff + k * 5 + 4, none⟩) hob1).trans HXC.out.2.2.2.2
                    have hs20 : v7.drew.cell? ⟨b, 0, none⟩ = some (.slice a5 d2.S.length c5) ∧ v7.drew.cell? ⟨b, 1, none⟩ = some (.slice a6 d2.P.length c6) ∧ v7.drew.cell? ⟨b, 2, none⟩ = some (.int .i64 d2.fuse) ∧ v7.drew.cell? ⟨b, 3, none⟩ = some (.int .i64 d2.ops) ∧ v7.drew.cell? ⟨b, 4, none⟩ = some (.bool d2.dead) ∧ v7.drew.cell? ⟨ob, ooff + k * 5, none⟩ = some (.int .i64 x.g) ∧ v7.drew.cell? ⟨ob, ooff + k * 5 + 1, none⟩ = some (.int .i64 x.e) ∧ v7.drew.cell? ⟨ob, ooff + k * 5 + 2, none⟩ = some (.int .i64 x.a) ∧ v7.drew.cell? ⟨ob, ooff + k * 5 + 3, none⟩ = some (.int .i64 x.z) ∧ v7.drew.cell? ⟨ob, ooff + k * 5 + 4, none⟩ = some (.int .i64 x.p) := ⟨HN.out.cell 0, HN.out.cell 1, HN.out.cell 2, HN.out.cell 3, HN.out.cell 4, p0, p1, p2, p3, p4⟩
                    have HS20 := Lib.hid hs20; clear hs20 p0 p1 p2 p3 p4
                    have hbd : w1.heap.size + 2 ≤ b := by omega
                    have hzv : w1.heap.size + 1 < v7.heap.size := HL.out.lt
                    have HD := Lib.hid (HD.out.drew)
                    have HL := Lib.hid (HL.out.drew)
                    have HTN := Lib.hid (HTN.out.below (Below.refl _ _).drew)
                    have HB := Lib.hid HB.out.drew
                    go_wp2_with fail
                    refine wp_region_held_drew (S := (fun w' => w'.cell? ⟨b, 0, none⟩ = some (.slice a5 d2.S.length c5) ∧ w'.cell? ⟨b, 1, none⟩ = some (.slice a6 d2.P.length c6) ∧ w'.cell? ⟨b, 2, none⟩ = some (.int .i64 d2.fuse) ∧ w'.cell? ⟨b, 3, none⟩ = some (.int .i64 d2.ops) ∧ w'.cell? ⟨b, 4, none⟩ = some (.bool d2.dead) ∧ w'.cell? ⟨ob, ooff + k * 5, none⟩ = some (.int .i64 x.g) ∧ w'.cell? ⟨ob, ooff + k * 5 + 1, none⟩ = some (.int .i64 x.e) ∧ w'.cell? ⟨ob, ooff + k * 5 + 2, none⟩ = some (.int .i64 x.a) ∧ w'.cell? ⟨ob, ooff + k * 5 + 3, none⟩ = some (.int .i64 x.z) ∧ w'.cell? ⟨ob, ooff + k * 5 + 4, none⟩ = some (.int .i64 x.p))) (by kernel_rfl) ?_ (fun hHeld => ?_)
                    · exact HS20.out
                    clear HS20 HN
                    generalize hVD : v7.drew = vd at HD HL HTN HB hHeld ⊢
                    clear hVD
                    refine takeH (i := 0) (v := ?vv102) 113 rfl rfl (by kernel_rfl) (by kernel_rfl) (by kernel_rfl) (fun _ _ _ h => h) (Or.inl ⟨by kernel_rfl, ?yy102⟩) (by assumption) ?_
                    case yy102 => intro w hSw; (try dsimp only at hSw); go_simp; (try with_reducible rfl)
                    simp only [List.setIfInBounds_toArray, List.set_cons_zero, List.set_cons_succ]
                    refine takeH (i := 1) (v := ?vv103) 114 rfl rfl (by kernel_rfl) (by kernel_rfl) (by kernel_rfl) (fun _ _ _ h => h) (Or.inl ⟨by kernel_rfl, ?yy103⟩) (by assumption) ?_
                    case yy103 => intro w hSw; (try dsimp only at hSw); go_simp; (try with_reducible rfl)
                    simp only [List.setIfInBounds_toArray, List.set_cons_zero, List.set_cons_succ]
                    refine takeH (i := 2) (v := ?vv104) 115 rfl rfl (by kernel_rfl) (by kernel_rfl) (by kernel_rfl) (fun _ _ _ h => h) (Or.inl ⟨by kernel_rfl, ?yy104⟩) (by assumption) ?_
                    case yy104 => intro w hSw; (try dsimp only at hSw); go_simp; (try with_reducible rfl)
                    simp only [List.setIfInBounds_toArray, List.set_cons_zero, List.set_cons_succ]
                    refine takeH (i := 3) (v := ?vv105) 116 rfl rfl (by kernel_rfl) (by kernel_rfl) (by kernel_rfl) (fun _ _ _ h => h) (Or.inl ⟨by kernel_rfl, ?yy105⟩) (by assumption) ?_
                    case yy105 => intro w hSw; (try dsimp only at hSw); go_simp; (try with_reducible rfl)
                    simp only [List.setIfInBounds_toArray, List.set_cons_zero, List.set_cons_succ]
                    refine takeH (i := 4) (v := ?vv106) 117 rfl rfl (by kernel_rfl) (by kernel_rfl) (by kernel_rfl) (fun _ _ _ h => h) (Or.inl ⟨by kernel_rfl, ?yy106⟩) (by assumption) ?_
                    case yy106 => intro w hSw; (try dsimp only at hSw); go_simp; (try with_reducible rfl)
                    simp only [List.setIfInBounds_toArray, List.set_cons_zero, List.set_cons_succ]
                    have r0 : vd.cell? ⟨w1.heap.size, 0, none⟩ = some (.slice a d.S.length c) := HD.out.cell 0
                    have r1 : vd.cell? ⟨w1.heap.size, 1, none⟩ = some (.slice a' d.P.length c') := HD.out.cell 1
                    have r2 : vd.cell? ⟨w1.heap.size, 2, none⟩ = some (.int .i64 d.fuse) := HD.out.cell 2
                    have r3 : vd.cell? ⟨w1.heap.size, 3, none⟩ = some (.int .i64 d.ops) := HD.out.cell 3
                    have r4 : vd.cell? ⟨w1.heap.size, 4, none⟩ = some (.bool d.dead) := HD.out.cell 4
                    have f0 := HD.out.free 0
                    have f1 := HD.out.free 1
                    have f2 := HD.out.free 2
                    have f3 := HD.out.free 3
                    have f4 := HD.out.free 4
                    have q0 : vd.cell? ⟨w1.heap.size + 1, 0, none⟩ = some (.int .i64 last.g) := HL.out.cell 0
                    have q1 : vd.cell? ⟨w1.heap.size + 1, 1, none⟩ = some (.int .i64 last.e) := HL.out.cell 1
                    have q2 : vd.cell? ⟨w1.heap.size + 1, 2, none⟩ = some (.int .i64 last.a) := HL.out.cell 2
                    have q3 : vd.cell? ⟨w1.heap.size + 1, 3, none⟩ = some (.int .i64 last.z) := HL.out.cell 3
                    have q4 : vd.cell? ⟨w1.heap.size + 1, 4, none⟩ = some (.int .i64 last.p) := HL.out.cell 4
                    have g0 := HL.out.free 0
                    have g1 := HL.out.free 1
                    have g2 := HL.out.free 2
                    have g3 := HL.out.free 3
                    have g4 := HL.out.free 4
                    refine wpAnyH_ready (rs := [5]) (by kernel_rfl) (by simp) ?_
                    refine (AllReadyH.cons rfl (fun K hK => ?_) AllReadyH.nil)
                    go_simp
                    skip
                    (try go_wp2_with fail)
                    refine hK.out _ _ ?_ (fun hHeld => ?_)
                    · exact cells10_sets hHeld (w1.heap.size) (by omega) (by omega) _ _ _ _ _
                    clear hK K
                    (try simp only [Act.put, List.setIfInBounds_toArray, List.set_cons_zero, List.set_cons_succ])
                    clear r0 r1 r2 r3 r4 f0 f1 f2 f3 f4 q0 q1 q2 q3 q4 g0 g1 g2 g3 g4
                    have HTN := Lib.hid (HTN.out.sets_box HD.out (.slice a5 d2.S.length c5) (.slice a6 d2.P.length c6) (.int .i64 d2.fuse) (.int .i64 d2.ops) (.bool d2.dead)); have HD := Lib.hid (HD.out.sets (.slice a5 d2.S.length c5) (.slice a6 d2.P.length c6) (.int .i64 d2.fuse) (.int .i64 d2.ops) (.bool d2.dead)); have HL := Lib.hid (HL.out.sets_ne (c := w1.heap.size) (by omega) (.slice a5 d2.S.length c5) (.slice a6 d2.P.length c6) (.int .i64 d2.fuse) (.int .i64 d2.ops) (.bool d2.dead)); have HB := Lib.hid (below_sets HB.out w1.heap.size (by omega) (.slice a5 d2.S.length c5) (.slice a6 d2.P.length c6) (.int .i64 d2.fuse) (.int .i64 d2.ops) (.bool d2.dead))
                    have hze : w1.heap.size + 1 < (((((vd.setCell ⟨w1.heap.size, 0, none⟩ (.slice a5 d2.S.length c5)).setCell ⟨w1.heap.size, 1, none⟩ (.slice a6 d2.P.length c6)).setCell ⟨w1.heap.size, 2, none⟩ (.int .i64 d2.fuse)).setCell ⟨w1.heap.size, 3, none⟩ (.int .i64 d2.ops)).setCell ⟨w1.heap.size, 4, none⟩ (.bool d2.dead)).heap.size := HL.out.lt
                    generalize hWE : (((((vd.setCell ⟨w1.heap.size, 0, none⟩ (.slice a5 d2.S.length c5)).setCell ⟨w1.heap.size, 1, none⟩ (.slice a6 d2.P.length c6)).setCell ⟨w1.heap.size, 2, none⟩ (.int .i64 d2.fuse)).setCell ⟨w1.heap.size, 3, none⟩ (.int .i64 d2.ops)).setCell ⟨w1.heap.size, 4, none⟩ (.bool d2.dead)) = WE at HTN HD HL HB hze hHeld ⊢
                    clear hWE
                    have q0 : WE.cell? ⟨w1.heap.size + 1, 0, none⟩ = some (.int .i64 last.g) := HL.out.cell 0
                    have q1 : WE.cell? ⟨w1.heap.size + 1, 1, none⟩ = some (.int .i64 last.e) := HL.out.cell 1
                    have q2 : WE.cell? ⟨w1.heap.size + 1, 2, none⟩ = some (.int .i64 last.a) := HL.out.cell 2
                    have q3 : WE.cell? ⟨w1.heap.size + 1, 3, none⟩ = some (.int .i64 last.z) := HL.out.cell 3
                    have q4 : WE.cell? ⟨w1.heap.size + 1, 4, none⟩ = some (.int .i64 last.p) := HL.out.cell 4
                    have g0 := HL.out.free 0
                    have g1 := HL.out.free 1
                    have g2 := HL.out.free 2
                    have g3 := HL.out.free 3
                    have g4 := HL.out.free 4
                    refine wpAnyH_ready (rs := [6]) (by kernel_rfl) (by simp) ?_
                    refine (AllReadyH.cons rfl (fun K hK => ?_) AllReadyH.nil)
                    go_simp
                    skip
                    (try go_wp2_with fail)
                    refine hK.out _ _ ?_ (fun hHeld => ?_)
                    · exact cells10_sets (by assumption) (w1.heap.size + 1) (by omega) (by omega) _ _ _ _ _
                    clear hK K
                    (try simp only [Act.put, List.setIfInBounds_toArray, List.set_cons_zero, List.set_cons_succ])
                    refine wpAnyH_done (by kernel_rfl) ?_ _
                    clear q0 q1 q2 q3 q4 g0 g1 g2 g3 g4
                    have HTN := Lib.hid (HTN.out.sets_ints HL.out (.int .i64 x.g) (.int .i64 x.e) (.int .i64 x.a) (.int .i64 x.z) (.int .i64 x.p)); have HL := Lib.hid (HL.out.sets (.int .i64 x.g) (.int .i64 x.e) (.int .i64 x.a) (.int .i64 x.z) (.int .i64 x.p)); have HD := Lib.hid (HD.out.sets_ne (c := w1.heap.size + 1) (by omega) (.int .i64 x.g) (.int .i64 x.e) (.int .i64 x.a) (.int .i64 x.z) (.int .i64 x.p)); have HB := Lib.hid (below_sets HB.out (w1.heap.size + 1) (by omega) (.int .i64 x.g) (.int .i64 x.e) (.int .i64 x.a) (.int .i64 x.z) (.int .i64 x.p))
                    generalize hWF : (((((WE.setCell ⟨w1.heap.size + 1, 0, none⟩ (.int .i64 x.g)).setCell ⟨w1.heap.size + 1, 1, none⟩ (.int .i64 x.e)).setCell ⟨w1.heap.size + 1, 2, none⟩ (.int .i64 x.a)).setCell ⟨w1.heap.size + 1, 3, none⟩ (.int .i64 x.z)).setCell ⟨w1.heap.size + 1, 4, none⟩ (.int .i64 x.p)) = WF at HTN HD HL HB ⊢
                    clear hWF
                    clear hHeld
                    have hzf := HL.out.lt
                    go_wp2
                    go_roundw
                    case rel => exact ⟨k + 1, d2, x, a5, c5, a6, c6, by omega, by go_num, HA2.out, HD.out, HL.out, HTN.out, by omega, HB.out⟩
                    case measure => simp [intOf]; omega
                · skip
                  have tk1 : decide ((0 : Int) < (k : Int)) = false := by rw [decide_eq_false_iff_not]; exact hk0
                  have tk2 : decide (0 < k) = false := by rw [decide_eq_false_iff_not]; omega
                  have p0 := (HB.out.cell (p := ⟨ob, ooff + k * 5, none⟩) hob1).trans HXC.out.1
                  have p1 := (HB.out.cell (p := ⟨ob, ooff + k * 5 + 1, none⟩) hob1).trans HXC.out.2.1
                  have p2 := (HB.out.cell (p := ⟨ob, ooff + k * 5 + 2, none⟩) hob1).trans HXC.out.2.2.1
                  have p3 := (HB.out.cell (p := ⟨ob, ooff + k * 5 + 3, none⟩) hob1).trans HXC.out.2.2.2.1
                  have p4 := (HB.out.cell (p := ⟨ob, ooff + k * 5 + 4, none⟩) hob1).trans HXC.out.2.2.2.2
                  have hs15 : v6.drew.cell? ⟨ob, ooff + k * 5, none⟩ = some (.int .i64 x.g) ∧ v6.drew.cell? ⟨w1.heap.size + 1, 0, none⟩ = some (.int .i64 last.g) := ⟨p0, HL.out.cell 0⟩
                  have HS15 := Lib.hid hs15; clear hs15 p0 p1 p2 p3 p4
                  have HD := Lib.hid (HD.out.drew)
                  have HL := Lib.hid (HL.out.drew)
                  have HN := Lib.hid (HN.out.drew)
                  have HTN := Lib.hid (HTN.out.below (Below.refl _ _).drew)
                  have HB := Lib.hid HB.out.drew
                  go_wp2_with fail
                  refine wp_region_held_drew (S := (fun w' => w'.cell? ⟨ob, ooff + k * 5, none⟩ = some (.int .i64 x.g) ∧ w'.cell? ⟨w1.heap.size + 1, 0, none⟩ = some (.int .i64 last.g))) (by kernel_rfl) ?_ (fun hHeld => ?_)
                  · exact HS15.out
                  clear HS15
                  generalize hVD : v6.drew = v7 at HD HL HN HTN HB hHeld ⊢
                  clear hVD
                  refine takeH (i := 0) (v := ?vv107) 71 rfl rfl (by kernel_rfl) (by kernel_rfl) (by kernel_rfl) (fun _ _ _ h => h) (Or.inl ⟨by kernel_rfl, ?yy107⟩) (by assumption) ?_
                  case yy107 => intro w hSw; (try dsimp only at hSw); go_simp; (try with_reducible rfl)
                  simp only [List.setIfInBounds_toArray, List.set_cons_zero, List.set_cons_succ]
                  refine takeH (i := 1) (v := ?vv108) 72 rfl rfl (by kernel_rfl) (by kernel_rfl) (by kernel_rfl) (fun _ _ _ h => h) (Or.inl ⟨by kernel_rfl, ?yy108⟩) (by assumption) ?_
                  case yy108 => intro w hSw; (try dsimp only at hSw); go_simp; (try with_reducible rfl)
                  simp only [List.setIfInBounds_toArray, List.set_cons_zero, List.set_cons_succ]
                  refine takeH (i := 2) (v := ?vv109) 73 rfl rfl (by kernel_rfl) (by kernel_rfl) (by kernel_rfl) (fun _ _ _ h => h) (Or.inl ⟨by kernel_rfl, ?yy109⟩) (by assumption) ?_
                  case yy109 => intro w hSw; (try dsimp only at hSw); go_simp; (try with_reducible rfl)
                  simp only [List.setIfInBounds_toArray, List.set_cons_zero, List.set_cons_succ]
                  refine takeH (i := 3) (v := ?vv110) 74 rfl rfl (by kernel_rfl) (by kernel_rfl) (by kernel_rfl) (fun _ _ _ h => h) (Or.inl ⟨by kernel_rfl, ?yy110⟩) (by assumption) ?_
                  case yy110 => intro w hSw; (try dsimp only at hSw); go_simp; (try with_reducible rfl)
                  simp only [List.setIfInBounds_toArray, List.set_cons_zero, List.set_cons_succ]
                  refine takeH (i := 4) (v := ?vv111) 75 rfl rfl (by kernel_rfl) (by kernel_rfl) (by kernel_rfl) (fun _ _ _ h => h) (Or.inl ⟨by kernel_rfl, ?yy111⟩) (by assumption) ?_
                  case yy111 => intro w hSw; (try dsimp only at hSw); go_simp; (try with_reducible rfl)
                  simp only [List.setIfInBounds_toArray, List.set_cons_zero, List.set_cons_succ]
                  refine takeH (i := 5) (v := ?vv112) 76 rfl rfl (by kernel_rfl) (by kernel_rfl) (by kernel_rfl) (fun _ _ _ h => h) (Or.inl ⟨by kernel_rfl, ?yy112⟩) (by assumption) ?_
                  case yy112 => intro w hSw; (try dsimp only at hSw); go_simp; (try with_reducible rfl)
                  simp only [List.setIfInBounds_toArray, List.set_cons_zero, List.set_cons_succ]
                  refine takeH (i := 6) (v := ?vv113) 77 rfl rfl (by kernel_rfl) (by kernel_rfl) (by kernel_rfl) (fun _ _ _ h => h) (Or.inl ⟨by kernel_rfl, ?yy113⟩) (by assumption) ?_
                  case yy113 => intro w hSw; (try dsimp only at hSw); go_simp; (try with_reducible rfl)
                  simp only [List.setIfInBounds_toArray, List.set_cons_zero, List.set_cons_succ]
                  refine takeH (i := 7) (v := ?vv114) 78 rfl rfl (by kernel_rfl) (by kernel_rfl) (by kernel_rfl) (fun _ _ _ h => h) (Or.inl ⟨by kernel_rfl, ?yy114⟩) (by assumption) ?_
                  case yy114 => intro w hSw; (try dsimp only at hSw); go_simp; (try with_reducible rfl)
                  simp only [List.setIfInBounds_toArray, List.set_cons_zero, List.set_cons_succ]
                  refine takeH (i := 8) (v := ?vv115) 79 rfl rfl (by kernel_rfl) (by kernel_rfl) (by kernel_rfl) (fun _ _ _ h => h) (Or.inl ⟨by kernel_rfl, ?yy115⟩) (by assumption) ?_
                  case yy115 => intro w hSw; (try dsimp only at hSw); go_simp; (try with_reducible rfl)
                  simp only [List.setIfInBounds_toArray, List.set_cons_zero, List.set_cons_succ]
                  refine takeH (i := 9) (v := ?vv116) 80 rfl rfl (by kernel_rfl) (by kernel_rfl) (by kernel_rfl) (fun _ _ _ h => h) (Or.inl ⟨by kernel_rfl, ?yy116⟩) (by assumption) ?_
                  case yy116 => intro w hSw; (try dsimp only at hSw); go_simp; (try with_reducible rfl)
                  simp only [List.setIfInBounds_toArray, List.set_cons_zero, List.set_cons_succ]
                  refine takeH (i := 10) (v := ?vv117) 81 rfl rfl (by kernel_rfl) (by kernel_rfl) (by kernel_rfl) (fun _ _ _ h => h) (Or.inl ⟨by kernel_rfl, ?yy117⟩) (by assumption) ?_
                  case yy117 => intro w hSw; (try dsimp only at hSw); go_simp; (try with_reducible rfl)
                  simp only [List.setIfInBounds_toArray, List.set_cons_zero, List.set_cons_succ]
                  refine takeH (i := 11) (v := ?vv118) 82 rfl rfl (by kernel_rfl) (by kernel_rfl) (by kernel_rfl) (fun _ _ _ h => h) (Or.inl ⟨by kernel_rfl, ?yy118⟩) (by assumption) ?_
                  case yy118 => intro w hSw; (try dsimp only at hSw); go_simp; (try with_reducible rfl)
                  simp only [List.setIfInBounds_toArray, List.set_cons_zero, List.set_cons_succ]
                  refine takeH (i := 12) (v := ?vv119) 83 rfl rfl (by kernel_rfl) (by kernel_rfl) (by kernel_rfl) (fun _ _ _ h => h) (Or.inl ⟨by kernel_rfl, ?yy119⟩) (by assumption) ?_
                  case yy119 => intro w hSw; (try dsimp only at hSw); go_simp; (try with_reducible rfl)
                  simp only [List.setIfInBounds_toArray, List.set_cons_zero, List.set_cons_succ]
                  refine takeH (i := 13) (v := ?vv120) 84 rfl rfl (by kernel_rfl) (by kernel_rfl) (by kernel_rfl) (fun _ _ _ h => h) (Or.inl ⟨by kernel_rfl, ?yy120⟩) (by assumption) ?_
                  case yy120 => intro w hSw; (try dsimp only at hSw); go_simp; (try with_reducible rfl)
                  simp only [List.setIfInBounds_toArray, List.set_cons_zero, List.set_cons_succ]
                  refine takeH (i := 14) (v := undef) 85 rfl rfl (by kernel_rfl) (by kernel_rfl) (by kernel_rfl) (fun _ _ _ h => h) (Or.inr ⟨by kernel_rfl, rfl⟩) (by assumption) ?_
                  simp only [List.setIfInBounds_toArray, List.set_cons_zero, List.set_cons_succ]
                  refine takeH (i := 15) (v := undef) 86 rfl rfl (by kernel_rfl) (by kernel_rfl) (by kernel_rfl) (fun _ _ _ h => h) (Or.inr ⟨by kernel_rfl, rfl⟩) (by assumption) ?_
                  simp only [List.setIfInBounds_toArray, List.set_cons_zero, List.set_cons_succ]
                  refine takeH (i := 16) (v := undef) 87 rfl rfl (by kernel_rfl) (by kernel_rfl) (by kernel_rfl) (fun _ _ _ h => h) (Or.inr ⟨by kernel_rfl, rfl⟩) (by assumption) ?_
                  simp only [List.setIfInBounds_toArray, List.set_cons_zero, List.set_cons_succ]
                  refine takeH (i := 17) (v := ?vv121) 88 rfl rfl (by kernel_rfl) (by kernel_rfl) (by kernel_rfl) (fun _ _ _ h => h) (Or.inl ⟨by kernel_rfl, ?yy121⟩) (by assumption) ?_
                  case yy121 => intro w hSw; (try dsimp only at hSw); go_simp; (try with_reducible rfl)
                  simp only [List.setIfInBounds_toArray, List.set_cons_zero, List.set_cons_succ]
                  refine wpAnyH_done (by kernel_rfl) ?_ _
                  clear hHeld
                  have hz7 : w1.heap.size + 1 < v7.heap.size := HL.out.lt
                  have hbl7 : b < v7.heap.size := HN.out.lt
                  have p0 := (HB.out.cell (p := ⟨ob, ooff + k * 5, none⟩) hob1).trans HXC.out.1
                  have p1 := (HB.out.cell (p := ⟨ob, ooff + k * 5 + 1, none⟩) hob1).trans HXC.out.2.1
                  have p2 := (HB.out.cell (p := ⟨ob, ooff + k * 5 + 2, none⟩) hob1).trans HXC.out.2.2.1
                  have p3 := (HB.out.cell (p := ⟨ob, ooff + k * 5 + 3, none⟩) hob1).trans HXC.out.2.2.2.1
                  have p4 := (HB.out.cell (p := ⟨ob, ooff + k * 5 + 4, none⟩) hob1).trans HXC.out.2.2.2.2
                  have hs20 : v7.drew.cell? ⟨b, 0, none⟩ = some (.slice a5 d2.S.length c5) ∧ v7.drew.cell? ⟨b, 1, none⟩ = some (.slice a6 d2.P.length c6) ∧ v7.drew.cell? ⟨b, 2, none⟩ = some (.int .i64 d2.fuse) ∧ v7.drew.cell? ⟨b, 3, none⟩ = some (.int .i64 d2.ops) ∧ v7.drew.cell? ⟨b, 4, none⟩ = some (.bool d2.dead) ∧ v7.drew.cell? ⟨ob, ooff + k * 5, none⟩ = some (.int .i64 x.g) ∧ v7.drew.cell? ⟨ob, ooff + k * 5 + 1, none⟩ = some (.int .i64 x.e) ∧ v7.drew.cell? ⟨ob, ooff + k * 5 + 2, none⟩ = some (.int .i64 x.a) ∧ v7.drew.cell? ⟨ob, ooff + k * 5 + 3, none⟩ = some (.int .i64 x.z) ∧ v7.drew.cell? ⟨ob, ooff + k * 5 + 4, none⟩ = some (.int .i64 x.p) := ⟨HN.out.cell 0, HN.out.cell 1, HN.out.cell 2, HN.out.cell 3, HN.out.cell 4, p0, p1, p2, p3, p4⟩
                  have HS20 := Lib.hid hs20; clear hs20 p0 p1 p2 p3 p4
                  have hbd : w1.heap.size + 2 ≤ b := by omega
                  have hzv : w1.heap.size + 1 < v7.heap.size := HL.out.lt
                  have HD := Lib.hid (HD.out.drew)
                  have HL := Lib.hid (HL.out.drew)
                  have HTN := Lib.hid (HTN.out.below (Below.refl _ _).drew)
                  have HB := Lib.hid HB.out.drew
                  go_wp2_with fail
                  refine wp_region_held_drew (S := (fun w' => w'.cell? ⟨b, 0, none⟩ = some (.slice a5 d2.S.length c5) ∧ w'.cell? ⟨b, 1, none⟩ = some (.slice a6 d2.P.length c6) ∧ w'.cell? ⟨b, 2, none⟩ = some (.int .i64 d2.fuse) ∧ w'.cell? ⟨b, 3, none⟩ = some (.int .i64 d2.ops) ∧ w'.cell? ⟨b, 4, none⟩ = some (.bool d2.dead) ∧ w'.cell? ⟨ob, ooff + k * 5, none⟩ = some (.int .i64 x.g) ∧ w'.cell? ⟨ob, ooff + k * 5 + 1, none⟩ = some (.int .i64 x.e) ∧ w'.cell? ⟨ob, ooff + k * 5 + 2, none⟩ = some (.int .i64 x.a) ∧ w'.cell? ⟨ob, ooff + k * 5 + 3, none⟩ = some (.int .i64 x.z) ∧ w'.cell? ⟨ob, ooff + k * 5 + 4, none⟩ = some (.int .i64 x.p))) (by kernel_rfl) ?_ (fun hHeld => ?_)
                  · exact HS20.out
                  clear HS20 HN
                  generalize hVD : v7.drew = vd at HD HL HTN HB hHeld ⊢
                  clear hVD
                  refine takeH (i := 0) (v := ?vv122) 113 rfl rfl (by kernel_rfl) (by kernel_rfl) (by kernel_rfl) (fun _ _ _ h => h) (Or.inl ⟨by kernel_rfl, ?yy122⟩) (by assumption) ?_
                  case yy122 => intro w hSw; (try dsimp only at hSw); go_simp; (try with_reducible rfl)
                  simp only [List.setIfInBounds_toArray, List.set_cons_zero, List.set_cons_succ]
                  refine takeH (i := 1) (v := ?vv123) 114 rfl rfl (by kernel_rfl) (by kernel_rfl) (by kernel_rfl) (fun _ _ _ h => h) (Or.inl ⟨by kernel_rfl, ?yy123⟩) (by assumption) ?_
                  case yy123 => intro w hSw; (try dsimp only at hSw); go_simp; (try with_reducible rfl)
                  simp only [List.setIfInBounds_toArray, List.set_cons_zero, List.set_cons_succ]
                  refine takeH (i := 2) (v := ?vv124) 115 rfl rfl (by kernel_rfl) (by kernel_rfl) (by kernel_rfl) (fun _ _ _ h => h) (Or.inl ⟨by kernel_rfl, ?yy124⟩) (by assumption) ?_
                  case yy124 => intro w hSw; (try dsimp only at hSw); go_simp; (try with_reducible rfl)
                  simp only [List.setIfInBounds_toArray, List.set_cons_zero, List.set_cons_succ]
                  refine takeH (i := 3) (v := ?vv125) 116 rfl rfl (by kernel_rfl) (by kernel_rfl) (by kernel_rfl) (fun _ _ _ h => h) (Or.inl ⟨by kernel_rfl, ?yy125⟩) (by assumption) ?_
                  case yy125 => intro w hSw; (try dsimp only at hSw); go_simp; (try with_reducible rfl)
                  simp only [List.setIfInBounds_toArray, List.set_cons_zero, List.set_cons_succ]
                  refine takeH (i := 4) (v := ?vv126) 117 rfl rfl (by kernel_rfl) (by kernel_rfl) (by kernel_rfl) (fun _ _ _ h => h) (Or.inl ⟨by kernel_rfl, ?yy126⟩) (by assumption) ?_
                  case yy126 => intro w hSw; (try dsimp only at hSw); go_simp; (try with_reducible rfl)
                  simp only [List.setIfInBounds_toArray, List.set_cons_zero, List.set_cons_succ]
                  have r0 : vd.cell? ⟨w1.heap.size, 0, none⟩ = some (.slice a d.S.length c) := HD.out.cell 0
                  have r1 : vd.cell? ⟨w1.heap.size, 1, none⟩ = some (.slice a' d.P.length c') := HD.out.cell 1
                  have r2 : vd.cell? ⟨w1.heap.size, 2, none⟩ = some (.int .i64 d.fuse) := HD.out.cell 2
                  have r3 : vd.cell? ⟨w1.heap.size, 3, none⟩ = some (.int .i64 d.ops) := HD.out.cell 3
                  have r4 : vd.cell? ⟨w1.heap.size, 4, none⟩ = some (.bool d.dead) := HD.out.cell 4
                  have f0 := HD.out.free 0
                  have f1 := HD.out.free 1
                  have f2 := HD.out.free 2
                  have f3 := HD.out.free 3
                  have f4 := HD.out.free 4
                  have q0 : vd.cell? ⟨w1.heap.size + 1, 0, none⟩ = some (.int .i64 last.g) := HL.out.cell 0
                  have q1 : vd.cell? ⟨w1.heap.size + 1, 1, none⟩ = some (.int .i64 last.e) := HL.out.cell 1
                  have q2 : vd.cell? ⟨w1.heap.size + 1, 2, none⟩ = some (.int .i64 last.a) := HL.out.cell 2
                  have q3 : vd.cell? ⟨w1.heap.size + 1, 3, none⟩ = some (.int .i64 last.z) := HL.out.cell 3
                  have q4 : vd.cell? ⟨w1.heap.size + 1, 4, none⟩ = some (.int .i64 last.p) := HL.out.cell 4
                  have g0 := HL.out.free 0
                  have g1 := HL.out.free 1
                  have g2 := HL.out.free 2
                  have g3 := HL.out.free 3
                  have g4 := HL.out.free 4
                  refine wpAnyH_ready (rs := [5]) (by kernel_rfl) (by simp) ?_
                  refine (AllReadyH.cons rfl (fun K hK => ?_) AllReadyH.nil)
                  go_simp
                  skip
                  (try go_wp2_with fail)
                  refine hK.out _ _ ?_ (fun hHeld => ?_)
                  · exact cells10_sets hHeld (w1.heap.size) (by omega) (by omega) _ _ _ _ _
                  clear hK K
                  (try simp only [Act.put, List.setIfInBounds_toArray, List.set_cons_zero, List.set_cons_succ])
                  clear r0 r1 r2 r3 r4 f0 f1 f2 f3 f4 q0 q1 q2 q3 q4 g0 g1 g2 g3 g4
                  have HTN := Lib.hid (HTN.out.sets_box HD.out (.slice a5 d2.S.length c5) (.slice a6 d2.P.length c6) (.int .i64 d2.fuse) (.int .i64 d2.ops) (.bool d2.dead)); have HD := Lib.hid (HD.out.sets (.slice a5 d2.S.length c5) (.slice a6 d2.P.length c6) (.int .i64 d2.fuse) (.int .i64 d2.ops) (.bool d2.dead)); have HL := Lib.hid (HL.out.sets_ne (c := w1.heap.size) (by omega) (.slice a5 d2.S.length c5) (.slice a6 d2.P.length c6) (.int .i64 d2.fuse) (.int .i64 d2.ops) (.bool d2.dead)); have HB := Lib.hid (below_sets HB.out w1.heap.size (by omega) (.slice a5 d2.S.length c5) (.slice a6 d2.P.length c6) (.int .i64 d2.fuse) (.int .i64 d2.ops) (.bool d2.dead))
                  have hze : w1.heap.size + 1 < (((((vd.setCell ⟨w1.heap.size, 0, none⟩ (.slice a5 d2.S.length c5)).setCell ⟨w1.heap.size, 1, none⟩ (.slice a6 d2.P.length c6)).setCell ⟨w1.heap.size, 2, none⟩ (.int .i64 d2.fuse)).setCell ⟨w1.heap.size, 3, none⟩ (.int .i64 d2.ops)).setCell ⟨w1.heap.size, 4, none⟩ (.bool d2.dead)).heap.size := HL.out.lt
                  generalize hWE : (((((vd.setCell ⟨w1.heap.size, 0, none⟩ (.slice a5 d2.S.length c5)).setCell ⟨w1.heap.size, 1, none⟩ (.slice a6 d2.P.length c6)).setCell ⟨w1.heap.size, 2, none⟩ (.int .i64 d2.fuse)).setCell ⟨w1.heap.size, 3, none⟩ (.int .i64 d2.ops)).setCell ⟨w1.heap.size, 4, none⟩ (.bool d2.dead)) = WE at HTN HD HL HB hze hHeld ⊢
                  clear hWE
                  have q0 : WE.cell? ⟨w1.heap.size + 1, 0, none⟩ = some (.int .i64 last.g) := HL.out.cell 0
                  have q1 : WE.cell? ⟨w1.heap.size + 1, 1, none⟩ = some (.int .i64 last.e) := HL.out.cell 1
                  have q2 : WE.cell? ⟨w1.heap.size + 1, 2, none⟩ = some (.int .i64 last.a) := HL.out.cell 2
                  have q3 : WE.cell? ⟨w1.heap.size + 1, 3, none⟩ = some (.int .i64 last.z) := HL.out.cell 3
                  have q4 : WE.cell? ⟨w1.heap.size + 1, 4, none⟩ = some (.int .i64 last.p) := HL.out.cell 4
                  have g0 := HL.out.free 0
                  have g1 := HL.out.free 1
                  have g2 := HL.out.free 2
                  have g3 := HL.out.free 3
                  have g4 := HL.out.free 4
                  refine wpAnyH_ready (rs := [6]) (by kernel_rfl) (by simp) ?_
                  refine (AllReadyH.cons rfl (fun K hK => ?_) AllReadyH.nil)
                  go_simp
                  skip
                  (try go_wp2_with fail)
                  refine hK.out _ _ ?_ (fun hHeld => ?_)
                  · exact cells10_sets (by assumption) (w1.heap.size + 1) (by omega) (by omega) _ _ _ _ _
                  clear hK K
                  (try simp only [Act.put, List.setIfInBounds_toArray, List.set_cons_zero, List.set_cons_succ])
                  refine wpAnyH_done (by kernel_rfl) ?_ _
                  clear q0 q1 q2 q3 q4 g0 g1 g2 g3 g4
                  have HTN := Lib.hid (HTN.out.sets_ints HL.out (.int .i64 x.g) (.int .i64 x.e) (.int .i64 x.a) (.int .i64 x.z) (.int .i64 x.p)); have HL := Lib.hid (HL.out.sets (.int .i64 x.g) (.int .i64 x.e) (.int .i64 x.a) (.int .i64 x.z) (.int .i64 x.p)); have HD := Lib.hid (HD.out.sets_ne (c := w1.heap.size + 1) (by omega) (.int .i64 x.g) (.int .i64 x.e) (.int .i64 x.a) (.int .i64 x.z) (.int .i64 x.p)); have HB := Lib.hid (below_sets HB.out (w1.heap.size + 1) (by omega) (.int .i64 x.g) (.int .i64 x.e) (.int .i64 x.a) (.int .i64 x.z) (.int .i64 x.p))
                  generalize hWF : (((((WE.setCell ⟨w1.heap.size + 1, 0, none⟩ (.int .i64 x.g)).setCell ⟨w1.heap.size + 1, 1, none⟩ (.int .i64 x.e)).setCell ⟨w1.heap.size + 1, 2, none⟩ (.int .i64 x.a)).setCell ⟨w1.heap.size + 1, 3, none⟩ (.int .i64 x.z)).setCell ⟨w1.heap.size + 1, 4, none⟩ (.int .i64 x.p)) = WF at HTN HD HL HB ⊢
                  clear hWF
                  clear hHeld
                  have hzf := HL.out.lt
                  go_wp2
                  go_roundw
                  case rel => exact ⟨k + 1, d2, x, a5, c5, a6, c6, by omega, by go_num, HA2.out, HD.out, HL.out, HTN.out, by omega, HB.out⟩
                  case measure => simp [intOf]; omega
              · have tsu : (x.g == last.g + 1) = false := by rw [beq_eq_false_iff_ne]; exact hsu
                clear hsu
                have p0 := (HB.out.cell (p := ⟨ob, ooff + k * 5, none⟩) hob1).trans HXC.out.1
                have p1 := (HB.out.cell (p := ⟨ob, ooff + k * 5 + 1, none⟩) hob1).trans HXC.out.2.1
                have p2 := (HB.out.cell (p := ⟨ob, ooff + k * 5 + 2, none⟩) hob1).trans HXC.out.2.2.1
                have p3 := (HB.out.cell (p := ⟨ob, ooff + k * 5 + 3, none⟩) hob1).trans HXC.out.2.2.2.1
                have p4 := (HB.out.cell (p := ⟨ob, ooff + k * 5 + 4, none⟩) hob1).trans HXC.out.2.2.2.2
                have hs15 : v6.drew.cell? ⟨ob, ooff + k * 5, none⟩ = some (.int .i64 x.g) ∧ v6.drew.cell? ⟨w1.heap.size + 1, 0, none⟩ = some (.int .i64 last.g) := ⟨p0, HL.out.cell 0⟩
                have HS15 := Lib.hid hs15; clear hs15 p0 p1 p2 p3 p4
                have HD := Lib.hid (HD.out.drew)
                have HL := Lib.hid (HL.out.drew)
                have HN := Lib.hid (HN.out.drew)
                have HTN := Lib.hid (HTN.out.below (Below.refl _ _).drew)
                have HB := Lib.hid HB.out.drew
                go_wp2_with fail
                refine wp_region_held_drew (S := (fun w' => w'.cell? ⟨ob, ooff + k * 5, none⟩ = some (.int .i64 x.g) ∧ w'.cell? ⟨w1.heap.size + 1, 0, none⟩ = some (.int .i64 last.g))) (by kernel_rfl) ?_ (fun hHeld => ?_)
                · exact HS15.out
                clear HS15
                generalize hVD : v6.drew = v7 at HD HL HN HTN HB hHeld ⊢
                clear hVD
                refine takeH (i := 0) (v := ?vv127) 71 rfl rfl (by kernel_rfl) (by kernel_rfl) (by kernel_rfl) (fun _ _ _ h => h) (Or.inl ⟨by kernel_rfl, ?yy127⟩) (by assumption) ?_
                case yy127 => intro w hSw; (try dsimp only at hSw); go_simp; (try with_reducible rfl)
                simp only [List.setIfInBounds_toArray, List.set_cons_zero, List.set_cons_succ]
                refine takeH (i := 1) (v := ?vv128) 72 rfl rfl (by kernel_rfl) (by kernel_rfl) (by kernel_rfl) (fun _ _ _ h => h) (Or.inl ⟨by kernel_rfl, ?yy128⟩) (by assumption) ?_
                case yy128 => intro w hSw; (try dsimp only at hSw); go_simp; (try with_reducible rfl)
                simp only [List.setIfInBounds_toArray, List.set_cons_zero, List.set_cons_succ]
                refine takeH (i := 2) (v := ?vv129) 73 rfl rfl (by kernel_rfl) (by kernel_rfl) (by kernel_rfl) (fun _ _ _ h => h) (Or.inl ⟨by kernel_rfl, ?yy129⟩) (by assumption) ?_
                case yy129 => intro w hSw; (try dsimp only at hSw); go_simp; (try with_reducible rfl)
                simp only [List.setIfInBounds_toArray, List.set_cons_zero, List.set_cons_succ]
                refine takeH (i := 3) (v := ?vv130) 74 rfl rfl (by kernel_rfl) (by kernel_rfl) (by kernel_rfl) (fun _ _ _ h => h) (Or.inl ⟨by kernel_rfl, ?yy130⟩) (by assumption) ?_
                case yy130 => intro w hSw; (try dsimp only at hSw); go_simp; (try with_reducible rfl)
                simp only [List.setIfInBounds_toArray, List.set_cons_zero, List.set_cons_succ]
                refine takeH (i := 4) (v := ?vv131) 75 rfl rfl (by kernel_rfl) (by kernel_rfl) (by kernel_rfl) (fun _ _ _ h => h) (Or.inl ⟨by kernel_rfl, ?yy131⟩) (by assumption) ?_
                case yy131 => intro w hSw; (try dsimp only at hSw); go_simp; (try with_reducible rfl)
                simp only [List.setIfInBounds_toArray, List.set_cons_zero, List.set_cons_succ]
                refine takeH (i := 5) (v := ?vv132) 76 rfl rfl (by kernel_rfl) (by kernel_rfl) (by kernel_rfl) (fun _ _ _ h => h) (Or.inl ⟨by kernel_rfl, ?yy132⟩) (by assumption) ?_
                case yy132 => intro w hSw; (try dsimp only at hSw); go_simp; (try with_reducible rfl)
                simp only [List.setIfInBounds_toArray, List.set_cons_zero, List.set_cons_succ]
                refine takeH (i := 6) (v := ?vv133) 77 rfl rfl (by kernel_rfl) (by kernel_rfl) (by kernel_rfl) (fun _ _ _ h => h) (Or.inl ⟨by kernel_rfl, ?yy133⟩) (by assumption) ?_
                case yy133 => intro w hSw; (try dsimp only at hSw); go_simp; (try with_reducible rfl)
                simp only [List.setIfInBounds_toArray, List.set_cons_zero, List.set_cons_succ]
                refine takeH (i := 7) (v := ?vv134) 78 rfl rfl (by kernel_rfl) (by kernel_rfl) (by kernel_rfl) (fun _ _ _ h => h) (Or.inl ⟨by kernel_rfl, ?yy134⟩) (by assumption) ?_
                case yy134 => intro w hSw; (try dsimp only at hSw); go_simp; (try with_reducible rfl)
                simp only [List.setIfInBounds_toArray, List.set_cons_zero, List.set_cons_succ]
                refine takeH (i := 8) (v := ?vv135) 79 rfl rfl (by kernel_rfl) (by kernel_rfl) (by kernel_rfl) (fun _ _ _ h => h) (Or.inl ⟨by kernel_rfl, ?yy135⟩) (by assumption) ?_
                case yy135 => intro w hSw; (try dsimp only at hSw); go_simp; (try with_reducible rfl)
                simp only [List.setIfInBounds_toArray, List.set_cons_zero, List.set_cons_succ]
                refine takeH (i := 9) (v := ?vv136) 80 rfl rfl (by kernel_rfl) (by kernel_rfl) (by kernel_rfl) (fun _ _ _ h => h) (Or.inl ⟨by kernel_rfl, ?yy136⟩) (by assumption) ?_
                case yy136 => intro w hSw; (try dsimp only at hSw); go_simp; (try with_reducible rfl)
                simp only [List.setIfInBounds_toArray, List.set_cons_zero, List.set_cons_succ]
                refine takeH (i := 10) (v := undef) 81 rfl rfl (by kernel_rfl) (by kernel_rfl) (by kernel_rfl) (fun _ _ _ h => h) (Or.inr ⟨by kernel_rfl, rfl⟩) (by assumption) ?_
                simp only [List.setIfInBounds_toArray, List.set_cons_zero, List.set_cons_succ]
                refine takeH (i := 11) (v := undef) 82 rfl rfl (by kernel_rfl) (by kernel_rfl) (by kernel_rfl) (fun _ _ _ h => h) (Or.inr ⟨by kernel_rfl, rfl⟩) (by assumption) ?_
                simp only [List.setIfInBounds_toArray, List.set_cons_zero, List.set_cons_succ]
                refine takeH (i := 12) (v := ?vv137) 83 rfl rfl (by kernel_rfl) (by kernel_rfl) (by kernel_rfl) (fun _ _ _ h => h) (Or.inl ⟨by kernel_rfl, ?yy137⟩) (by assumption) ?_
                case yy137 => intro w hSw; (try dsimp only at hSw); go_simp; (try with_reducible rfl)
                simp only [List.setIfInBounds_toArray, List.set_cons_zero, List.set_cons_succ]
                refine takeH (i := 13) (v := ?vv138) 84 rfl rfl (by kernel_rfl) (by kernel_rfl) (by kernel_rfl) (fun _ _ _ h => h) (Or.inl ⟨by kernel_rfl, ?yy138⟩) (by assumption) ?_
                case yy138 => intro w hSw; (try dsimp only at hSw); go_simp; (try with_reducible rfl)
                simp only [List.setIfInBounds_toArray, List.set_cons_zero, List.set_cons_succ]
                refine takeH (i := 14) (v := undef) 85 rfl rfl (by kernel_rfl) (by kernel_rfl) (by kernel_rfl) (fun _ _ _ h => h) (Or.inr ⟨by kernel_rfl, rfl⟩) (by assumption) ?_
                simp only [List.setIfInBounds_toArray, List.set_cons_zero, List.set_cons_succ]
                refine takeH (i := 15) (v := undef) 86 rfl rfl (by kernel_rfl) (by kernel_rfl) (by kernel_rfl) (fun _ _ _ h => h) (Or.inr ⟨by kernel_rfl, rfl⟩) (by assumption) ?_
                simp only [List.setIfInBounds_toArray, List.set_cons_zero, List.set_cons_succ]
                refine takeH (i := 16) (v := undef) 87 rfl rfl (by kernel_rfl) (by kernel_rfl) (by kernel_rfl) (fun _ _ _ h => h) (Or.inr ⟨by kernel_rfl, rfl⟩) (by assumption) ?_
                simp only [List.setIfInBounds_toArray, List.set_cons_zero, List.set_cons_succ]
                refine takeH (i := 17) (v := ?vv139) 88 rfl rfl (by kernel_rfl) (by kernel_rfl) (by kernel_rfl) (fun _ _ _ h => h) (Or.inl ⟨by kernel_rfl, ?yy139⟩) (by assumption) ?_
                case yy139 => intro w hSw; (try dsimp only at hSw); go_simp; (try with_reducible rfl)
                simp only [List.setIfInBounds_toArray, List.set_cons_zero, List.set_cons_succ]
                refine wpAnyH_done (by kernel_rfl) ?_ _
                clear hHeld
                have hz7 : w1.heap.size + 1 < v7.heap.size := HL.out.lt
                have hbl7 : b < v7.heap.size := HN.out.lt
                have p0 := (HB.out.cell (p := ⟨ob, ooff + k * 5, none⟩) hob1).trans HXC.out.1
                have p1 := (HB.out.cell (p := ⟨ob, ooff + k * 5 + 1, none⟩) hob1).trans HXC.out.2.1
                have p2 := (HB.out.cell (p := ⟨ob, ooff + k * 5 + 2, none⟩) hob1).trans HXC.out.2.2.1
                have p3 := (HB.out.cell (p := ⟨ob, ooff + k * 5 + 3, none⟩) hob1).trans HXC.out.2.2.2.1
                have p4 := (HB.out.cell (p := ⟨ob, ooff + k * 5 + 4, none⟩) hob1).trans HXC.out.2.2.2.2
                have hs20 : v7.drew.cell? ⟨b, 0, none⟩ = some (.slice a5 d2.S.length c5) ∧ v7.drew.cell? ⟨b, 1, none⟩ = some (.slice a6 d2.P.length c6) ∧ v7.drew.cell? ⟨b, 2, none⟩ = some (.int .i64 d2.fuse) ∧ v7.drew.cell? ⟨b, 3, none⟩ = some (.int .i64 d2.ops) ∧ v7.drew.cell? ⟨b, 4, none⟩ = some (.bool d2.dead) ∧ v7.drew.cell? ⟨ob, ooff + k * 5, none⟩ = some (.int .i64 x.g) ∧ v7.drew.cell? ⟨ob, ooff + k * 5 + 1, none⟩ = some (.int .i64 x.e) ∧ v7.drew.cell? ⟨ob, ooff + k * 5 + 2, none⟩ = some (.int .i64 x.a) ∧ v7.drew.cell? ⟨ob, ooff + k * 5 + 3, none⟩ = some (.int .i64 x.z) ∧ v7.drew.cell? ⟨ob, ooff + k * 5 + 4, none⟩ = some (.int .i64 x.p) := ⟨HN.out.cell 0, HN.out.cell 1, HN.out.cell 2, HN.out.cell 3, HN.out.cell 4, p0, p1, p2, p3, p4⟩
                have HS20 := Lib.hid hs20; clear hs20 p0 p1 p2 p3 p4
                have hbd : w1.heap.size + 2 ≤ b := by omega
                have hzv : w1.heap.size + 1 < v7.heap.size := HL.out.lt
                have HD := Lib.hid (HD.out.drew)
                have HL := Lib.hid (HL.out.drew)
                have HTN := Lib.hid (HTN.out.below (Below.refl _ _).drew)
                have HB := Lib.hid HB.out.drew
                go_wp2_with fail
                refine wp_region_held_drew (S := (fun w' => w'.cell? ⟨b, 0, none⟩ = some (.slice a5 d2.S.length c5) ∧ w'.cell? ⟨b, 1, none⟩ = some (.slice a6 d2.P.length c6) ∧ w'.cell? ⟨b, 2, none⟩ = some (.int .i64 d2.fuse) ∧ w'.cell? ⟨b, 3, none⟩ = some (.int .i64 d2.ops) ∧ w'.cell? ⟨b, 4, none⟩ = some (.bool d2.dead) ∧ w'.cell? ⟨ob, ooff + k * 5, none⟩ = some (.int .i64 x.g) ∧ w'.cell? ⟨ob, ooff + k * 5 + 1, none⟩ = some (.int .i64 x.e) ∧ w'.cell? ⟨ob, ooff + k * 5 + 2, none⟩ = some (.int .i64 x.a) ∧ w'.cell? ⟨ob, ooff + k * 5 + 3, none⟩ = some (.int .i64 x.z) ∧ w'.cell? ⟨ob, ooff + k * 5 + 4, none⟩ = some (.int .i64 x.p))) (by kernel_rfl) ?_ (fun hHeld => ?_)
                · exact HS20.out
                clear HS20 HN
                generalize hVD : v7.drew = vd at HD HL HTN HB hHeld ⊢
                clear hVD
                refine takeH (i := 0) (v := ?vv140) 113 rfl rfl (by kernel_rfl) (by kernel_rfl) (by kernel_rfl) (fun _ _ _ h => h) (Or.inl ⟨by kernel_rfl, ?yy140⟩) (by assumption) ?_
                case yy140 => intro w hSw; (try dsimp only at hSw); go_simp; (try with_reducible rfl)
                simp only [List.setIfInBounds_toArray, List.set_cons_zero, List.set_cons_succ]
                refine takeH (i := 1) (v := ?vv141) 114 rfl rfl (by kernel_rfl) (by kernel_rfl) (by kernel_rfl) (fun _ _ _ h => h) (Or.inl ⟨by kernel_rfl, ?yy141⟩) (by assumption) ?_
                case yy141 => intro w hSw; (try dsimp only at hSw); go_simp; (try with_reducible rfl)
                simp only [List.setIfInBounds_toArray, List.set_cons_zero, List.set_cons_succ]
                refine takeH (i := 2) (v := ?vv142) 115 rfl rfl (by kernel_rfl) (by kernel_rfl) (by kernel_rfl) (fun _ _ _ h => h) (Or.inl ⟨by kernel_rfl, ?yy142⟩) (by assumption) ?_
                case yy142 => intro w hSw; (try dsimp only at hSw); go_simp; (try with_reducible rfl)
                simp only [List.setIfInBounds_toArray, List.set_cons_zero, List.set_cons_succ]
                refine takeH (i := 3) (v := ?vv143) 116 rfl rfl (by kernel_rfl) (by kernel_rfl) (by kernel_rfl) (fun _ _ _ h => h) (Or.inl ⟨by kernel_rfl, ?yy143⟩) (by assumption) ?_
                case yy143 => intro w hSw; (try dsimp only at hSw); go_simp; (try with_reducible rfl)
                simp only [List.setIfInBounds_toArray, List.set_cons_zero, List.set_cons_succ]
                refine takeH (i := 4) (v := ?vv144) 117 rfl rfl (by kernel_rfl) (by kernel_rfl) (by kernel_rfl) (fun _ _ _ h => h) (Or.inl ⟨by kernel_rfl, ?yy144⟩) (by assumption) ?_
                case yy144 => intro w hSw; (try dsimp only at hSw); go_simp; (try with_reducible rfl)
                simp only [List.setIfInBounds_toArray, List.set_cons_zero, List.set_cons_succ]
                have r0 : vd.cell? ⟨w1.heap.size, 0, none⟩ = some (.slice a d.S.length c) := HD.out.cell 0
                have r1 : vd.cell? ⟨w1.heap.size, 1, none⟩ = some (.slice a' d.P.length c') := HD.out.cell 1
                have r2 : vd.cell? ⟨w1.heap.size, 2, none⟩ = some (.int .i64 d.fuse) := HD.out.cell 2
                have r3 : vd.cell? ⟨w1.heap.size, 3, none⟩ = some (.int .i64 d.ops) := HD.out.cell 3
                have r4 : vd.cell? ⟨w1.heap.size, 4, none⟩ = some (.bool d.dead) := HD.out.cell 4
                have f0 := HD.out.free 0
                have f1 := HD.out.free 1
                have f2 := HD.out.free 2
                have f3 := HD.out.free 3
                have f4 := HD.out.free 4
                have q0 : vd.cell? ⟨w1.heap.size + 1, 0, none⟩ = some (.int .i64 last.g) := HL.out.cell 0
                have q1 : vd.cell? ⟨w1.heap.size + 1, 1, none⟩ = some (.int .i64 last.e) := HL.out.cell 1
                have q2 : vd.cell? ⟨w1.heap.size + 1, 2, none⟩ = some (.int .i64 last.a) := HL.out.cell 2
                have q3 : vd.cell? ⟨w1.heap.size + 1, 3, none⟩ = some (.int .i64 last.z) := HL.out.cell 3
                have q4 : vd.cell? ⟨w1.heap.size + 1, 4, none⟩ = some (.int .i64 last.p) := HL.out.cell 4
                have g0 := HL.out.free 0
                have g1 := HL.out.free 1
                have g2 := HL.out.free 2
                have g3 := HL.out.free 3
                have g4 := HL.out.free 4
                refine wpAnyH_ready (rs := [5]) (by kernel_rfl) (by simp) ?_
                refine (AllReadyH.cons rfl (fun K hK => ?_) AllReadyH.nil)
                go_simp
                skip
                (try go_wp2_with fail)
                refine hK.out _ _ ?_ (fun hHeld => ?_)
                · exact cells10_sets hHeld (w1.heap.size) (by omega) (by omega) _ _ _ _ _
                clear hK K
                (try simp only [Act.put, List.setIfInBounds_toArray, List.set_cons_zero, List.set_cons_succ])
                clear r0 r1 r2 r3 r4 f0 f1 f2 f3 f4 q0 q1 q2 q3 q4 g0 g1 g2 g3 g4
                have HTN := Lib.hid (HTN.out.sets_box HD.out (.slice a5 d2.S.length c5) (.slice a6 d2.P.length c6) (.int .i64 d2.fuse) (.int .i64 d2.ops) (.bool d2.dead)); have HD := Lib.hid (HD.out.sets (.slice a5 d2.S.length c5) (.slice a6 d2.P.length c6) (.int .i64 d2.fuse) (.int .i64 d2.ops) (.bool d2.dead)); have HL := Lib.hid (HL.out.sets_ne (c := w1.heap.size) (by omega) (.slice a5 d2.S.length c5) (.slice a6 d2.P.length c6) (.int .i64 d2.fuse) (.int .i64 d2.ops) (.bool d2.dead)); have HB := Lib.hid (below_sets HB.out w1.heap.size (by omega) (.slice a5 d2.S.length c5) (.slice a6 d2.P.length c6) (.int .i64 d2.fuse) (.int .i64 d2.ops) (.bool d2.dead))
                have hze : w1.heap.size + 1 < (((((vd.setCell ⟨w1.heap.size, 0, none⟩ (.slice a5 d2.S.length c5)).setCell ⟨w1.heap.size, 1, none⟩ (.slice a6 d2.P.length c6)).setCell ⟨w1.heap.size, 2, none⟩ (.int .i64 d2.fuse)).setCell ⟨w1.heap.size, 3, none⟩ (.int .i64 d2.ops)).setCell ⟨w1.heap.size, 4, none⟩ (.bool d2.dead)).heap.size := HL.out.lt
                generalize hWE : (((((vd.setCell ⟨w1.heap.size, 0, none⟩ (.slice a5 d2.S.length c5)).setCell ⟨w1.heap.size, 1, none⟩ (.slice a6 d2.P.length c6)).setCell ⟨w1.heap.size, 2, none⟩ (.int .i64 d2.fuse)).setCell ⟨w1.heap.size, 3, none⟩ (.int .i64 d2.ops)).setCell ⟨w1.heap.size, 4, none⟩ (.bool d2.dead)) = WE at HTN HD HL HB hze hHeld ⊢
                clear hWE
                have q0 : WE.cell? ⟨w1.heap.size + 1, 0, none⟩ = some (.int .i64 last.g) := HL.out.cell 0
                have q1 : WE.cell? ⟨w1.heap.size + 1, 1, none⟩ = some (.int .i64 last.e) := HL.out.cell 1
                have q2 : WE.cell? ⟨w1.heap.size + 1, 2, none⟩ = some (.int .i64 last.a) := HL.out.cell 2
                have q3 : WE.cell? ⟨w1.heap.size + 1, 3, none⟩ = some (.int .i64 last.z) := HL.out.cell 3
                have q4 : WE.cell? ⟨w1.heap.size + 1, 4, none⟩ = some (.int .i64 last.p) := HL.out.cell 4
                have g0 := HL.out.free 0
                have g1 := HL.out.free 1
                have g2 := HL.out.free 2
                have g3 := HL.out.free 3
                have g4 := HL.out.free 4
                refine wpAnyH_ready (rs := [6]) (by kernel_rfl) (by simp) ?_
                refine (AllReadyH.cons rfl (fun K hK => ?_) AllReadyH.nil)
                go_simp
                skip
                (try go_wp2_with fail)
                refine hK.out _ _ ?_ (fun hHeld => ?_)
                · exact cells10_sets (by assumption) (w1.heap.size + 1) (by omega) (by omega) _ _ _ _ _
                clear hK K
                (try simp only [Act.put, List.setIfInBounds_toArray, List.set_cons_zero, List.set_cons_succ])
                refine wpAnyH_done (by kernel_rfl) ?_ _
                clear q0 q1 q2 q3 q4 g0 g1 g2 g3 g4
                have HTN := Lib.hid (HTN.out.sets_ints HL.out (.int .i64 x.g) (.int .i64 x.e) (.int .i64 x.a) (.int .i64 x.z) (.int .i64 x.p)); have HL := Lib.hid (HL.out.sets (.int .i64 x.g) (.int .i64 x.e) (.int .i64 x.a) (.int .i64 x.z) (.int .i64 x.p)); have HD := Lib.hid (HD.out.sets_ne (c := w1.heap.size + 1) (by omega) (.int .i64 x.g) (.int .i64 x.e) (.int .i64 x.a) (.int .i64 x.z) (.int .i64 x.p)); have HB := Lib.hid (below_sets HB.out (w1.heap.size + 1) (by omega) (.int .i64 x.g) (.int .i64 x.e) (.int .i64 x.a) (.int .i64 x.z) (.int .i64 x.p))
                generalize hWF : (((((WE.setCell ⟨w1.heap.size + 1, 0, none⟩ (.int .i64 x.g)).setCell ⟨w1.heap.size + 1, 1, none⟩ (.int .i64 x.e)).setCell ⟨w1.heap.size + 1, 2, none⟩ (.int .i64 x.a)).setCell ⟨w1.heap.size + 1, 3, none⟩ (.int .i64 x.z)).setCell ⟨w1.heap.size + 1, 4, none⟩ (.int .i64 x.p)) = WF at HTN HD HL HB ⊢
                clear hWF
                clear hHeld
                have hzf := HL.out.lt
                go_wp2
                go_roundw
                case rel => exact ⟨k + 1, d2, x, a5, c5, a6, c6, by omega, by go_num, HA2.out, HD.out, HL.out, HTN.out, by omega, HB.out⟩
                case measure => simp [intOf]; omega
      · obtain rfl : k = M.length := by omega
        go_wp2_with fail
        refine (works_any _).mono ?_
        rintro e wz ⟨rfl, hbz⟩
        have HZ := Lib.hid hbz; clear hbz
        go_wp2_with fail
        go_ret
        exact ⟨rfl, btrans HB.out HB.out.size HZ.out⟩
theorem alternatesLaw (oa : Option Addr) (oc : Nat) (M : List Sp) {w0 : World} (h1 : SpS w0 (.slice oa M.length oc) M) (w : World) (hw : w0 = w := by rfl) :
    Calls Try.prog 8 #[.slice oa M.length oc] w fun e w' => e = .returned (.bool true) ∧ Below w.heap.size w w' := by
  subst hw; exact alternatesWalk oa oc M w0 h1
end Go.Proofs.Ytkpfkknldeafkaa

