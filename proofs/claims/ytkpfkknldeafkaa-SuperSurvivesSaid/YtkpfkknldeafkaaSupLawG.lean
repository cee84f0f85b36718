/- A superblock is restored from its sector, and what Decode accepts is the sector of its result (plain facts of layer 46). No conditions. Storing superblocks with ascending generations on a disk without a fuse (plain facts of layer 46). No conditions. The plain law of torn sectors: the mark in front and at the end. No conditions. Plain facts on a crash (layer 44): with all writes kept it performs them; else each sector is as it was, or one of its writes, or a torn beginning of one. No conditions. A superblock is stored behind the previous one, the disk stops at any operation and crashes: the old or the new one is left (plain facts of layer 46). No conditions. How the argument of SuperSurvives is read. No conditions. The walk of SuperSurvives. No conditions. -/
import Derived.Test.YtkpfkknldeafkaaSupP
import Derived.Test.YtkpfkknldeafkaaSecJoinP
import Derived.Test.YtkpfkknldeafkaaDiskGood
import Derived.Test.YtkpfkknldeafkaaSupFin
import Derived.Test.YtkpfkknldeafkaaDiskCrash
import Derived.Test.YtkpfkknldeafkaaDiskRead
import Derived.Test.YtkpfkknldeafkaaRegion
namespace Go.Proofs.Ytkpfkknldeafkaa
open Go.RowKit

theorem trip_enc {x : Sp} (hv : spB x = true) : (encS x).2 = 0 ∧ decS (encS x).1 = (x, 0) ∧ (encS x).1.length = 64 := by
  have he : encS x = (sealedL x.g.toNat 0 1 (encD x), 0) := by unfold encS; rw [if_pos hv]
  rw [he]
  refine ⟨rfl, ?_, enc_len hv⟩
  have h40 := encD_len hv
  obtain ⟨h1, h2, h3, h4, h5, h6, h7, h8, h9, h10⟩ := spB_bounds hv
  have hst : stampB (x.g.toNat : Int) ((0 : Nat) : Int) ((1 : Nat) : Int) = true := by rw [stampB_iff]; omega
  have ho := openS_sealed x.g.toNat 0 1 (encD x) hst h40
  have hg : ((x.g.toNat : Nat) : Int) = x.g := by omega
  unfold decS
  rw [ho]
  simp only
  rw [if_neg (by simp), if_pos ⟨rfl, rfl⟩, hg]
  obtain ⟨e, qe⟩ : ∃ n : Nat, x.e = n := ⟨x.e.toNat, by omega⟩
  obtain ⟨a, qa⟩ : ∃ n : Nat, x.a = n := ⟨x.a.toNat, by omega⟩
  obtain ⟨z, qz⟩ : ∃ n : Nat, x.z = n := ⟨x.z.toNat, by omega⟩
  obtain ⟨p, qp⟩ : ∃ n : Nat, x.p = n := ⟨x.p.toNat, by omega⟩
  have hd : encD x = uintS e ++ uintS a ++ uintS z ++ uintS p := by unfold encD; rw [qe, qa, qz, qp]; simp only [Int.toNat_natCast]
  rw [qe] at h3 h4; rw [qa] at h5 h6; rw [qz] at h7 h8; rw [qp] at h9 h10
  have t1 : takeS (encD x) 0 = (e, ((uintS e).length : Int), 0) := by
    have h := take_uint e (by omega) [] (uintS a ++ (uintS z ++ uintS p))
    rw [hd]; simpa [List.append_assoc] using h
  have t2 : takeS (encD x) ((uintS e).length : Int) = (a, (((uintS e).length + (uintS a).length : Nat) : Int), 0) := by
    have h := take_uint a (by omega) (uintS e) (uintS z ++ uintS p)
    rw [hd]; simpa [List.append_assoc] using h
  have t3 : takeS (encD x) (((uintS e).length + (uintS a).length : Nat) : Int) = (z, (((uintS e).length + (uintS a).length + (uintS z).length : Nat) : Int), 0) := by
    have h := take_uint z (by omega) (uintS e ++ uintS a) (uintS p)
    rw [hd]; simpa [List.append_assoc] using h
  have t4 : takeS (encD x) (((uintS e).length + (uintS a).length + (uintS z).length : Nat) : Int) = (p, (((uintS e).length + (uintS a).length + (uintS z).length + (uintS p).length : Nat) : Int), 0) := by
    have h := take_uint p (by omega) (uintS e ++ uintS a ++ uintS z) []
    rw [hd]; simpa [List.append_assoc, Int.add_assoc] using h
  have k0 : tkN (encD x) 0 = ([], 0, 0) := rfl
  have k4 := tkN_ok (tkN_ok (tkN_ok (tkN_ok k0 t1) t2) t3) t4
  have hmk : mkSp x.g ([] ++ [e] ++ [a] ++ [z] ++ [p]) = x := by
    show (⟨x.g, (e : Int), (a : Int), (z : Int), (p : Int)⟩ : Sp) = x
    rw [← qe, ← qa, ← qz, ← qp]
  have hr := decD_ok (g := x.g) k4 (by rw [hd]; simp only [List.length_append]) (by simp only [bigB, List.nil_append, List.cons_append, List.any_cons, List.any_nil, Bool.or_false, Bool.or_eq_false_iff, decide_eq_false_iff_not]; omega) (by rw [hmk]; exact hv)
  rw [hr, hmk]

theorem tkN_inv (d : List UInt8) : ∀ k, (tkN d k).2.2 = 0 → ∃ (ns : List Nat) (a : Nat), tkN d k = (ns, (a : Int), 0) ∧ ns.length = k ∧ a ≤ d.length ∧ d.take a = ns.flatMap uintS
  | 0, _ => ⟨[], 0, rfl, rfl, Nat.zero_le _, by simp⟩
  | k + 1, h => by
    have h0 : (tkN d k).2.2 = 0 := by
      rcases Decidable.em ((tkN d k).2.2 = 0) with h1 | h1
      · exact h1
      · unfold tkN at h; rw [if_pos h1] at h; exact h
    obtain ⟨ns, a, e1, e2, e3, e4⟩ := tkN_inv d k h0
    by_cases ht : (takeS d a).2.2 = 0
    · obtain ⟨u, rest, q1, q2, q3, q4⟩ := take_inv ht
      refine ⟨ns ++ [u], a + (uintS u).length, tkN_ok e1 q3, by simp [e2], ?_, ?_⟩
      · have : (uintS u).length + rest.length = d.length - a := by rw [← List.length_append, ← q4, List.length_drop]
        omega
      · rw [List.take_add, e4, q4, List.take_left', List.flatMap_append]
        · simp
        · rfl
    · rw [tkN_bad e1 rfl ht] at h; exact absurd h ht
theorem trip_dec {s : List UInt8} {y : Sp} (h : decS s = (y, 0)) : spB y = true ∧ encS y = (s, 0) := by
  unfold decS at h
  by_cases h0 : (openS s).2.2 = 0
  · obtain ⟨g, p, q, d, ho, hst, hdl, hs⟩ := openS_ok h0
    rw [ho] at h
    simp only at h
    rw [if_neg (by simp)] at h
    by_cases hpq : (p : Int) = 0 ∧ (q : Int) = 1
    · rw [if_pos hpq] at h
      obtain ⟨hp, hq⟩ := hpq
      obtain rfl : p = 0 := by omega
      obtain rfl : q = 1 := by omega
      unfold decD at h
      by_cases hk : (tkN d 4).2.2 = 0
      · rw [if_neg (by rw [hk]; simp)] at h
        obtain ⟨ns, a, e1, e2, e3, e4⟩ := tkN_inv d 4 hk
        rw [e1] at h
        simp only at h
        by_cases hc : (a : Int) = (d.length : Int) ∧ bigB ns = false ∧ spB (mkSp (g : Int) ns) = true
        · rw [if_pos hc] at h
          obtain ⟨c1, c2, c3⟩ := hc
          have hy : mkSp (g : Int) ns = y := (Prod.mk.inj h).1
          obtain ⟨n0, n1, n2, n3, rfl⟩ : ∃ n0 n1 n2 n3, ns = [n0, n1, n2, n3] := by
            match ns, e2 with
            | [n0, n1, n2, n3], _ => exact ⟨n0, n1, n2, n3, rfl⟩
          have hd : d = uintS n0 ++ uintS n1 ++ uintS n2 ++ uintS n3 := by
            rw [List.take_of_length_le (by omega)] at e4
            rw [e4]; simp [List.append_assoc]
          have he : encD y = d := by
            rw [← hy, hd]
            show uintS (n0 : Int).toNat ++ uintS (n1 : Int).toNat ++ uintS (n2 : Int).toNat ++ uintS (n3 : Int).toNat = _
            simp only [Int.toNat_natCast]
          have hgy : y.g.toNat = g := by rw [← hy]; exact Int.toNat_natCast g
          have hv : spB y = true := by rw [← hy]; exact c3
          refine ⟨hv, ?_⟩
          unfold encS
          rw [if_pos hv, he, hgy, hs]
        · rw [if_neg hc] at h
          exact absurd (Prod.mk.inj h).2 (by decide)
      · rw [if_pos hk] at h
        exact absurd (Prod.mk.inj h).2 hk
    · rw [if_neg hpq] at h
      exact absurd (Prod.mk.inj h).2 (by decide)
  · rw [if_pos h0] at h
    exact absurd (Prod.mk.inj h).2 h0
end Go.Proofs.Ytkpfkknldeafkaa

namespace Go.Proofs.Ytkpfkknldeafkaa
open Go.RowKit

/-- a valid disk of 16 sectors without pending writes or a fuse, alive -/
structure Calm (d : Dk) : Prop where
  v : validB d = true
  s : d.S.length = 16
  p : d.P = []
  f : d.fuse = 0
  a : d.dead = false
theorem calm_start : Calm d16 := ⟨by decide +kernel, by decide +kernel, rfl, rfl, rfl⟩
theorem calm_read {d : Dk} (h : Calm d) (k : Nat) (hk : k < 16) : readS d k = (d.S.getD k [], 0) := by
  unfold readS
  rw [if_pos ⟨h.v, by unfold hasB; rw [h.s]; simp; omega⟩, h.a, if_neg (by decide), h.p]
  rfl
/-- what is stored: the disk behind it -/
theorem calm_store {d : Dk} (h : Calm d) {x : Sp} (hx : spB x = true) :
    ∃ d2, storeS d x = (d2, 0) ∧ Calm d2 ∧ d2.S = d.S.set (x.g % 2).toNat (encS x).1 := by
  obtain ⟨h1, h2, h3⟩ := (validB_iff d).1 h.v
  obtain ⟨n1, n2, n3, n4, n5, n6⟩ := (numsB_iff d).1 h1
  obtain ⟨t1, t2, t3⟩ := trip_enc hx
  obtain ⟨s, hs⟩ : ∃ s, (encS x).1 = s := ⟨_, rfl⟩
  rw [hs] at t3
  obtain ⟨m, hm⟩ : ∃ m : Nat, x.g % 2 = m := ⟨(x.g % 2).toNat, by omega⟩
  have hm2 : m < 2 := by omega
  obtain ⟨dw, hdw⟩ : ∃ q : Dk, q = addW m s { d with ops := min (d.ops + 1) 1099511627776, fuse := max (d.fuse - 1) 0 } := ⟨_, rfl⟩
  have w1 : dw.S = d.S := by rw [hdw]; rfl
  have w2 : dw.P = [((m : Int), s)] := by rw [hdw]; show d.P ++ [((m : Int), s)] = _; rw [h.p]; rfl
  have w3 : dw.fuse = 0 := by rw [hdw]; show max (d.fuse - 1) 0 = 0; rw [h.f]; rfl
  have w4 : dw.ops = min (d.ops + 1) 1099511627776 := by rw [hdw]; rfl
  have w5 : dw.dead = false := by rw [hdw]; exact h.a
  have hw : writeS d (x.g % 2) s = (dw, 0) := by
    unfold writeS
    rw [hm, if_pos ⟨h.v, by unfold hasB; rw [h.s]; simp; omega, t3⟩, h.a, if_neg (by decide)]
    unfold happenS; rw [h.f, if_neg (by decide), hdw, h.f]
  have hvw : validB dw = true := by
    rw [validB_iff, w1, w2]
    refine ⟨?_, h2, ?_⟩
    · rw [numsB_iff, w1, w3, w4]; omega
    · intro y hy
      rw [List.mem_singleton.1 hy, h.s]
      exact ⟨by simp only; omega, by simp only; omega, t3⟩
  clear hdw
  obtain ⟨d2, hd2⟩ : ∃ q : Dk, q = syncD { dw with ops := min (dw.ops + 1) 1099511627776, fuse := max (dw.fuse - 1) 0 } := ⟨_, rfl⟩
  have u1 : d2.S = d.S.set m s := by
    rw [hd2]; show perform dw.S dw.P = _; rw [w1, w2]; rfl
  have u2 : d2.P = [] := by rw [hd2]; rfl
  have u3 : d2.fuse = 0 := by rw [hd2]; show max (dw.fuse - 1) 0 = 0; rw [w3]; rfl
  have u4 : d2.ops = min (dw.ops + 1) 1099511627776 := by rw [hd2]; rfl
  have u5 : d2.dead = false := by rw [hd2]; exact w5
  have hsy : syncS dw = (d2, 0) := by
    unfold syncS
    rw [if_pos hvw, w5, if_neg (by decide)]
    unfold happenS; rw [w3, if_neg (by decide), hd2, w3]
  clear hd2
  refine ⟨d2, ?_, ⟨?_, by rw [u1, List.length_set]; exact h.s, u2, u3, u5⟩, by rw [u1, hs, hm]; rfl⟩
  · unfold storeS
    rw [if_neg (by rw [t1]; simp), hs, hw]
    simp only
    rw [if_neg (by simp), hsy]
  · rw [validB_iff, u1, u2]
    refine ⟨?_, ?_, fun y hy => absurd hy (by simp)⟩
    · rw [numsB_iff, u1, List.length_set, u3, u4, w4]; omega
    · intro y hy
      rcases List.mem_or_eq_of_mem_set hy with h' | h'
      · exact h2 y h'
      · rw [h']; exact t3

/-- behind stored superblocks, last the latest: every slot holds none or one that is not later; the latest is in its slot -/
structure Alt (d : Dk) (last : Sp) : Prop where
  c : Calm d
  l : ∀ k : Nat, k < 2 → (decS (d.S.getD k [])).2 ≠ 0 ∨ (decS (d.S.getD k [])).1.g ≤ last.g
  z : last = sp0 ∨ (spB last = true ∧ decS (d.S.getD (last.g % 2).toNat []) = (last, 0))
theorem alt_start : Alt d16 sp0 := ⟨calm_start, by decide +kernel, .inl rfl⟩
theorem getD_set (L : List (List UInt8)) (m k : Nat) (s : List UInt8) (hm : m < L.length) : (L.set m s).getD k [] = if k = m then s else L.getD k [] := by
  rw [List.getD_eq_getElem?_getD, List.getElem?_set]
  by_cases h : k = m
  · subst h; rw [if_pos rfl, if_pos hm, if_pos rfl]; rfl
  · rw [if_neg (fun e => h e.symm), if_neg h, List.getD_eq_getElem?_getD]
theorem alt_store {d : Dk} {last x : Sp} (h : Alt d last) (hx : spB x = true) (hg : last.g < x.g) :
    ∃ d2, storeS d x = (d2, 0) ∧ Alt d2 x ∧ loadS d2 = (x, 0) ∧ (x.g = last.g + 1 → 0 < last.g → readS d2 (last.g % 2) = (d2.S.getD (last.g % 2).toNat [], 0) ∧ decS (d2.S.getD (last.g % 2).toNat []) = (last, 0)) := by
  obtain ⟨d2, e1, e2, e3⟩ := calm_store h.c hx
  obtain ⟨t1, t2, t3⟩ := trip_enc hx
  obtain ⟨g1, _⟩ := spB_bounds hx
  have hl : (x.g % 2).toNat < d.S.length := by rw [h.c.s]; omega
  have hget : ∀ k, d2.S.getD k [] = if k = (x.g % 2).toNat then (encS x).1 else d.S.getD k [] := by intro k; rw [e3]; exact getD_set _ _ _ _ hl
  have hself : decS (d2.S.getD (x.g % 2).toNat []) = (x, 0) := by rw [hget, if_pos rfl]; exact t2
  have hle : ∀ k : Nat, k < 2 → (decS (d2.S.getD k [])).2 ≠ 0 ∨ (decS (d2.S.getD k [])).1.g ≤ x.g := by
    intro k hk
    rw [hget]
    split
    · right; rw [t2]; simp
    · rcases h.l k hk with h1 | h1
      · exact .inl h1
      · right; omega
  have hother : ∀ k : Nat, k < 2 → k ≠ (x.g % 2).toNat → (decS (d2.S.getD k [])).2 ≠ 0 ∨ (decS (d2.S.getD k [])).1.g < x.g := by
    intro k hk hne
    rw [hget, if_neg hne]
    rcases h.l k hk with h1 | h1
    · exact .inl h1
    · right; omega
  refine ⟨d2, e1, ⟨e2, hle, .inr ⟨hx, hself⟩⟩, ?_, ?_⟩
  · have r0 := calm_read e2 0 (by omega)
    have r1 := calm_read e2 1 (by omega)
    have hb : bestS (d2.S.getD 0 []) (d2.S.getD 1 []) = (x, true) := by
      unfold bestS
      rcases (show x.g % 2 = 0 ∨ x.g % 2 = 1 by omega) with hm | hm
      · rw [hm] at hself
        have h0 : decS (d2.S.getD 0 []) = (x, 0) := hself
        rw [h0]
        simp only
        rw [if_pos ⟨trivial, hle 1 (by omega)⟩]
      · rw [hm] at hself
        have h0 : decS (d2.S.getD 1 []) = (x, 0) := hself
        have h1 := hother 0 (by omega) (by rw [hm]; decide)
        rw [h0]
        simp only
        rw [if_neg, if_pos trivial]
        rintro ⟨q1, q2⟩
        rcases h1 with h1 | h1
        · exact h1 q1
        · rcases q2 with q2 | q2
          · exact q2 rfl
          · omega
    unfold loadS
    have r0' : readS d2 0 = (d2.S.getD 0 [], 0) := r0
    have r1' : readS d2 1 = (d2.S.getD 1 [], 0) := r1
    rw [r0', r1']
    simp only
    rw [if_neg (by simp), if_neg (by simp), hb]
    simp
  · intro hsucc hpos
    rcases h.z with hz | ⟨hz1, hz2⟩
    · rw [hz] at hpos; exact absurd hpos (by decide)
    · obtain ⟨m, hm⟩ : ∃ m : Nat, last.g % 2 = m := ⟨(last.g % 2).toNat, by omega⟩
      have hm2 : m < 2 := by omega
      rw [hm] at hz2 ⊢
      rw [Int.toNat_natCast] at hz2 ⊢
      refine ⟨calm_read e2 m (by omega), ?_⟩
      rw [hget, if_neg (by omega)]
      exact hz2
end Go.Proofs.Ytkpfkknldeafkaa

namespace Go.Proofs.Ytkpfkknldeafkaa
open Go.RowKit

theorem open_ends {s : List UInt8} {g p q : Int} {d : List UInt8} (h : openS s = ((g, p, q), d, 0)) : s.take 8 = markL g.toNat p.toNat ∧ s.drop 56 = markL g.toNat p.toNat ∧ s.length = 64 := by
  obtain ⟨g', p', q', d', e, hs, hd, hl⟩ := openS_ok (s := s) (by rw [h])
  rw [h] at e
  simp only [Prod.mk.injEq] at e
  obtain ⟨⟨rfl, rfl, rfl⟩, rfl, _⟩ := e
  rw [Int.toNat_natCast, Int.toNat_natCast]
  have hlen := sealedL_length g' p' q' d hd
  subst hl
  refine ⟨?_, ?_, hlen⟩
  · have e1 : sealedL g' p' q' d = markL g' p' ++ (be q' 2 ++ (be d.length 2 ++ (lit (crc (headL g' p' q' d.length ++ bodyL d)) 4 ++ (bodyL d ++ markL g' p')))) := by simp [sealedL, headL, markL, List.append_assoc]
    rw [e1, List.take_left' (markL_length _ _)]
  · have e2 : sealedL g' p' q' d = (headL g' p' q' d.length ++ (lit (crc (headL g' p' q' d.length ++ bodyL d)) 4 ++ bodyL d)) ++ markL g' p' := by simp [sealedL, List.append_assoc]
    rw [e2, List.drop_left' (by simp [headL_length, lit_length, bodyL_length d hd])]

theorem torn_plain {o t : List UInt8} {g p q : Int} {d : List UInt8} {m : Nat} (ht : openS t = ((g, p, q), d, 0)) (hne : o.drop 56 ≠ t.drop 56)
    {tn : List UInt8} (htn : tn = t.take m ++ o.drop m) (hm : m ≤ 64) {g' p' q' er : Int} {d' : List UInt8} (h1 : openS tn = ((g', p', q'), d', er)) {x : Int × Int × Int} {d2 : List UInt8} {er2 : Int} (h2 : openS o = (x, d2, er2)) :
    er ≠ 0 ∨ (er = 0 ∧ g' = g ∧ p' = p ∧ tn = t ∧ tn ≠ o) ∨ (er = 0 ∧ tn ≠ t ∧ ¬ (g' = g ∧ p' = p) ∧ (er2 = 0 → tn = o)) := by
  obtain ⟨t1, t2, t3⟩ := open_ends ht
  by_cases her : er = 0
  · subst her
    obtain ⟨n1, n2, n3⟩ := open_ends h1
    have hlow : m ≤ 56 → tn.drop 56 = o.drop 56 := by
      intro hm56
      rw [htn, List.drop_append, List.length_take, t3, Nat.min_eq_left hm, List.drop_of_length_le (by rw [List.length_take]; omega), List.nil_append, List.drop_drop]
      congr 1; omega
    by_cases hd : tn.drop 56 = t.drop 56
    · have hm56 : 56 < m := by
        rcases Nat.lt_or_ge 56 m with h | h
        · exact h
        · exact absurd ((hlow h).symm.trans hd) hne
      have hfr : tn.take 56 = t.take 56 := by
        rw [htn, List.take_append_of_le_length (by rw [List.length_take]; omega), List.take_take, Nat.min_eq_left (by omega)]
      have htt : tn = t := by rw [← List.take_append_drop 56 tn, hfr, hd, List.take_append_drop]
      refine .inr (.inl ⟨rfl, ?_, ?_, htt, ?_⟩)
      · rw [htt, ht] at h1; simp only [Prod.mk.injEq] at h1; exact h1.1.1.symm
      · rw [htt, ht] at h1; simp only [Prod.mk.injEq] at h1; exact h1.1.2.1.symm
      · intro h; apply hne; rw [← h, htt]
    · refine .inr (.inr ⟨rfl, ?_, ?_, ?_⟩)
      · intro h; apply hd; rw [h]
      · rintro ⟨rfl, rfl⟩; apply hd; rw [n2, t2]
      · intro h0
        subst h0
        obtain ⟨x1, x2, x3⟩ := x
        obtain ⟨o1, o2, _⟩ := open_ends h2
        have hm8 : m < 8 := by
          rcases Nat.lt_or_ge m 8 with h | h
          · exact h
          · exfalso
            apply hd
            have : tn.take 8 = t.take 8 := by rw [htn, List.take_append_of_le_length (by rw [List.length_take]; omega), List.take_take, Nat.min_eq_left h]
            rw [n2, ← n1, this, t1, t2]
        have hdr : tn.drop 8 = o.drop 8 := by
          rw [htn, List.drop_append, List.length_take, t3, Nat.min_eq_left hm, List.drop_of_length_le (by rw [List.length_take]; omega), List.nil_append, List.drop_drop]
          congr 1; omega
        have hta : tn.take 8 = o.take 8 := by rw [n1, ← n2, hlow (by omega), o2, o1]
        rw [← List.take_append_drop 8 tn, hta, hdr, List.take_append_drop]
  · exact .inl her

/-- the facts that the law's two tests need, branch for branch -/
theorem torn_facts {o t tn : List UInt8} {g p g' p' er er2 : Int}
    (h : er ≠ 0 ∨ (er = 0 ∧ g' = g ∧ p' = p ∧ tn = t ∧ tn ≠ o) ∨ (er = 0 ∧ tn ≠ t ∧ ¬ (g' = g ∧ p' = p) ∧ (er2 = 0 → tn = o))) :
    ((er == 0) = false ∧ (er2 != 0) = true) ∨
    ((er == 0) = false ∧ (er != 0) = true ∧ (er2 != 0) = false) ∨
    ((er == 0) = true ∧ (g' == g) = true ∧ (p' == p) = true ∧ (tn == t) = true ∧ (er2 != 0) = true) ∨
    ((er == 0) = true ∧ (er != 0) = false ∧ (g' == g) = true ∧ (p' == p) = true ∧ (tn != t) = false ∧ (er2 != 0) = false ∧ (tn == o) = false ∧ (tn == t) = true) ∨
    ((er == 0) = true ∧ (g' == g) = false ∧ (er2 != 0) = true) ∨
    ((er == 0) = true ∧ (er != 0) = false ∧ (g' == g) = false ∧ (er2 != 0) = false ∧ (tn == o) = true) ∨
    ((er == 0) = true ∧ (g' == g) = true ∧ (p' == p) = false ∧ (er2 != 0) = true) ∨
    ((er == 0) = true ∧ (er != 0) = false ∧ (g' == g) = true ∧ (p' == p) = false ∧ (er2 != 0) = false ∧ (tn == o) = true) := by
  rcases h with h | ⟨rfl, rfl, rfl, rfl, h⟩ | ⟨rfl, h1, h2, h3⟩
  · by_cases h2 : er2 = 0
    · exact .inr (.inl ⟨by simpa using h, by simpa using h, by simp [h2]⟩)
    · exact .inl ⟨by simpa using h, by simpa using h2⟩
  · by_cases h2 : er2 = 0
    · exact .inr (.inr (.inr (.inl ⟨by simp, by simp, by simp, by simp, by simp, by simp [h2], by simpa using h, by simp⟩)))
    · exact .inr (.inr (.inl ⟨by simp, by simp, by simp, by simp, by simpa using h2⟩))
  · by_cases hg : g' = g
    · have hp : p' ≠ p := fun hp => h2 ⟨hg, hp⟩
      by_cases h4 : er2 = 0
      · exact .inr (.inr (.inr (.inr (.inr (.inr (.inr ⟨by simp, by simp, by simp [hg], by simpa using hp, by simp [h4], by simp [h3 h4]⟩))))))
      · exact .inr (.inr (.inr (.inr (.inr (.inr (.inl ⟨by simp, by simp [hg], by simpa using hp, by simpa using h4⟩))))))
    · by_cases h4 : er2 = 0
      · exact .inr (.inr (.inr (.inr (.inr (.inl ⟨by simp, by simp, by simpa using hg, by simp [h4], by simp [h3 h4]⟩)))))
      · exact .inr (.inr (.inr (.inr (.inl ⟨by simp, by simpa using hg, by simpa using h4⟩))))
end Go.Proofs.Ytkpfkknldeafkaa

namespace Go.Proofs.Ytkpfkknldeafkaa
open Go.RowKit

theorem crash_valid {d : Dk} (h : validB d = true) (kb : List Bool) (tear : Int) : validB (crashD d kb tear) = true ∧ (crashD d kb tear).S.length = d.S.length ∧ (crashD d kb tear).P = [] ∧ (crashD d kb tear).dead = false ∧ (crashD d kb tear).fuse = 0 ∧ (crashD d kb tear).ops = d.ops := by
  obtain ⟨h1, h2, h3⟩ := (validB_iff d).1 h
  obtain ⟨n1, n2, n3, n4, n5, n6⟩ := (numsB_iff d).1 h1
  rw [crash_on kb tear h]
  obtain ⟨q1, q2⟩ := foldC_inv (lastI (kf d.P.length kb d.P.length)) tear (fun x hx => (h3 x hx).2.2) h2 (kf d.P.length kb d.P.length)
  refine ⟨?_, q1, rfl, rfl, rfl, rfl⟩
  rw [validB_iff]
  refine ⟨?_, q2, fun x hx => absurd hx (by simp)⟩
  rw [numsB_iff]; simp only; rw [q1]; omega

theorem foldC_all (P : List (Int × List UInt8)) (S : List (List UInt8)) (la : Int) : ∀ k, k ≤ P.length → foldC P S la 0 (kf P.length (List.replicate P.length true) k) = perform S (P.take k)
  | 0, _ => by rw [kf_zero]; rfl
  | k + 1, hk => by
    have hlt : k < P.length := by omega
    rw [kf_yes P.length _ k hlt (by simpa using hlt) (by simp), foldC_snoc, foldC_all P S la k (by omega), perform_take S P k hlt]
    unfold stepC
    rw [if_neg (by intro h; omega)]
theorem crash_all {d : Dk} (h : validB d = true) (k : Nat) (hk : k < d.S.length) : (crashD d (List.replicate d.P.length true) 0).S.getD k [] = lastW (d.S.getD k []) d.P k := by
  obtain ⟨h1, h2, h3⟩ := (validB_iff d).1 h
  rw [crash_on _ _ h]
  simp only
  rw [foldC_all d.P d.S _ d.P.length (Nat.le_refl _), List.take_length]
  exact perform_get d.P d.S k hk (fun x hx => ⟨(h3 x hx).1, (h3 x hx).2.1⟩)

/-- what a sector may be after a crash, by one pending write -/
def mayB (tear : Int) (at_ : Nat) (c : List UInt8) (x : Int × List UInt8) : Bool :=
  decide (x.1 = (at_ : Int)) && (decide (c = x.2) || (decide (0 < tear) && (decide (tear < 64) && decide (c.take tear.toNat = x.2.take tear.toNat))))
theorem foldC_may (P : List (Int × List UInt8)) (S : List (List UInt8)) (la tear : Int) (hP : ∀ x ∈ P, 0 ≤ x.1 ∧ x.1 < (S.length : Int) ∧ x.2.length = 64) (hS : ∀ s ∈ S, s.length = 64) (k : Nat) (hk : k < S.length) :
    ∀ (pre : List (Fin P.length)), (foldC P S la tear pre).getD k [] = S.getD k [] ∨ P.any (mayB tear k ((foldC P S la tear pre).getD k [])) = true := by
  have main : ∀ (l : List (Fin P.length)), (foldC P S la tear l.reverse).getD k [] = S.getD k [] ∨ P.any (mayB tear k ((foldC P S la tear l.reverse).getD k [])) = true := by
    intro l
    induction l with
    | nil => exact .inl rfl
    | cons x l ih =>
    obtain ⟨pre, hpre⟩ : ∃ pre, l.reverse = pre := ⟨_, rfl⟩
    rw [List.reverse_cons, hpre, foldC_snoc]
    rw [hpre] at ih
    obtain ⟨g1, g2⟩ := foldC_inv la tear (fun x hx => (hP x hx).2.2) hS pre
    obtain ⟨p1, p2, p3⟩ := hP _ (List.getElem_mem x.2)
    by_cases hat : P[x.1].1 = (k : Int)
    · right
      rw [List.any_eq_true]
      refine ⟨P[x.1], List.getElem_mem x.2, ?_⟩
      have hto : P[x.1].1.toNat = k := by omega
      have hkl : k < (foldC P S la tear pre).length := by rw [g1]; exact hk
      have hval : (stepC P la tear (foldC P S la tear pre) x).getD k [] = if (x.1 : Int) = la ∧ 1 ≤ tear ∧ tear < 64 then cutW P[x.1].2 ((foldC P S la tear pre).getD k []) tear else P[x.1].2 := by
        unfold stepC
        rw [hto, List.getD_eq_getElem?_getD, List.getElem?_set_self hkl, Option.getD_some]
      rw [hval]
      unfold mayB
      rw [decide_eq_true hat, Bool.true_and]
      split
      · rename_i hc
        have h64 : ((foldC P S la tear pre).getD k []).length = 64 := by
          rw [List.getD_eq_getElem?_getD, List.getElem?_eq_getElem hkl, Option.getD_some]; exact g2 _ (List.getElem_mem hkl)
        have : (cutW P[x.1].2 ((foldC P S la tear pre).getD k []) tear).take tear.toNat = P[x.1].2.take tear.toNat := by
          unfold cutW
          rw [List.take_append_of_le_length (by rw [List.length_take, p3]; omega), List.take_take, Nat.min_self]
        rw [decide_eq_true this, decide_eq_true (show 0 < tear by omega), decide_eq_true hc.2.2]
        simp
      · simp
    · have hkeep : (stepC P la tear (foldC P S la tear pre) x).getD k [] = (foldC P S la tear pre).getD k [] := by
        unfold stepC
        rw [List.getD_eq_getElem?_getD, List.getElem?_set_ne (by omega), ← List.getD_eq_getElem?_getD]
      rw [hkeep]
      exact ih
  intro pre
  have := main pre.reverse
  rwa [List.reverse_reverse] at this
/-- found, behind k of the pending writes -/
def fndB (d : Dk) (tear : Int) (at_ : Nat) (c : List UInt8) (k : Nat) : Bool := decide (c = d.S.getD at_ []) || (d.P.take k).any (mayB tear at_ c)
theorem fnd_zero (d : Dk) (tear : Int) (at_ : Nat) (c : List UInt8) : fndB d tear at_ c 0 = decide (c = d.S.getD at_ []) := by unfold fndB; simp
theorem fnd_succ (d : Dk) (tear : Int) (at_ : Nat) (c : List UInt8) (k : Nat) (h : k < d.P.length) : fndB d tear at_ c (k + 1) = (fndB d tear at_ c k || mayB tear at_ c d.P[k]) := by
  unfold fndB; rw [List.take_succ_eq_append_getElem h, List.any_append, Bool.or_assoc]; simp
theorem fnd_crash {d : Dk} (h : validB d = true) (kb : List Bool) (tear : Int) (k : Nat) (hk : k < d.S.length) : fndB d tear k ((crashD d kb tear).S.getD k []) d.P.length = true := by
  obtain ⟨h1, h2, h3⟩ := (validB_iff d).1 h
  unfold fndB
  rw [List.take_length]
  have := foldC_may d.P d.S (lastI (kf d.P.length kb d.P.length)) tear h3 h2 k hk (kf d.P.length kb d.P.length)
  rw [crash_on kb tear h]
  simp only
  rcases this with h | h
  · rw [decide_eq_true h]; rfl
  · rw [h, Bool.or_true]
end Go.Proofs.Ytkpfkknldeafkaa

namespace Go.Proofs.Ytkpfkknldeafkaa
open Go.RowKit

theorem enc_ends {x : Sp} (hx : spB x = true) : (encS x).1.drop 56 = markL x.g.toNat 0 ∧ (encS x).1.take 8 = markL x.g.toNat 0 := by
  obtain ⟨g1, g2, _⟩ := spB_bounds hx
  have he : encS x = (sealedL x.g.toNat 0 1 (encD x), 0) := by unfold encS; rw [if_pos hx]
  have ho : openS (encS x).1 = ((x.g, 0, 1), encD x, 0) := by
    rw [he]
    have h := openS_sealed x.g.toNat 0 1 (encD x) (by rw [stampB_iff]; omega) (encD_len hx)
    rw [h]
    have : ((x.g.toNat : Nat) : Int) = x.g := by omega
    rw [this]; rfl
  obtain ⟨h1, h2, _⟩ := open_ends ho
  exact ⟨h2, h1⟩
theorem mark_inj {g p g' p' : Nat} (hg : g < 256 ^ 6) (hg' : g' < 256 ^ 6) (h : markL g p = markL g' p') : g = g' := by
  unfold markL at h
  have := (List.append_inj h (by rw [be_length, be_length])).1
  exact be_inj 6 hg hg' this
theorem mark_zero : List.replicate 8 (0 : UInt8) = markL 0 0 := by decide +kernel
/-- what a slot may hold that is older: nothing, or an older superblock -/
def Sl (o : List UInt8) (g : Int) : Prop := o = List.replicate 64 0 ∨ ∃ y, spB y = true ∧ o = (encS y).1 ∧ y.g < g
theorem Sl.len {o : List UInt8} {g : Int} (h : Sl o g) : o.length = 64 := by
  rcases h with h | ⟨y, h1, h2, _⟩
  · rw [h]; simp
  · rw [h2]; exact (trip_enc h1).2.2
theorem Sl.dec {o : List UInt8} {g : Int} (h : Sl o g) : (decS o).2 ≠ 0 ∨ (decS o).1.g < g := by
  rcases h with h | ⟨y, h1, h2, h3⟩
  · left; rw [h]; decide +kernel
  · right; rw [h2, (trip_enc h1).2.1]; exact h3
theorem Sl.mono {o : List UInt8} {g g' : Int} (h : Sl o g) (hg : g ≤ g') : Sl o g' := by
  rcases h with h | ⟨y, h1, h2, h3⟩
  · exact .inl h
  · exact .inr ⟨y, h1, h2, by omega⟩
/-- the number in front of an older sector's last mark -/
theorem Sl.mark {o : List UInt8} {g : Int} (h : Sl o g) (hg : 1 ≤ g) : ∃ n : Nat, o.drop 56 = markL n 0 ∧ (n : Int) < g ∧ (n = 0 ∨ o.take 8 = markL n 0) := by
  rcases h with h | ⟨y, h1, h2, h3⟩
  · refine ⟨0, ?_, by omega, .inl rfl⟩
    rw [h, List.drop_replicate]; exact mark_zero
  · obtain ⟨e1, e2⟩ := enc_ends h1
    obtain ⟨g1, _⟩ := spB_bounds h1
    exact ⟨y.g.toNat, by rw [h2]; exact e1, by omega, .inr (by rw [h2]; exact e2)⟩
theorem torn_dec {x : Sp} (hx : spB x = true) {o : List UInt8} (ho : Sl o x.g) {m : Nat} (hm : m ≤ 64) {s tn : List UInt8} (hs : s = (encS x).1) (htn : tn = s.take m ++ o.drop m) :
    (decS tn).2 ≠ 0 ∨ tn = s ∨ tn = o := by
  by_cases he : (openS tn).2.2 = 0
  · right
    obtain ⟨g, p, q, d, hop, hst, _, _⟩ := openS_ok he
    obtain ⟨n1, n2, n3⟩ := open_ends hop
    rw [Int.toNat_natCast, Int.toNat_natCast] at n1 n2
    obtain ⟨g1, g2, _⟩ := spB_bounds hx
    obtain ⟨k1, k2, _⟩ := (stampB_iff _ _ _).1 hst
    obtain ⟨t2, t1⟩ := enc_ends hx
    have t3 := (trip_enc hx).2.2
    rw [← hs] at t1 t2 t3
    obtain ⟨n, o2, on, o1⟩ := ho.mark g1
    have ol := ho.len
    have b1 : x.g.toNat < 256 ^ 6 := by have : (256 : Nat) ^ 6 = 281474976710656 := by decide
                                        omega
    have b2 : n < 256 ^ 6 := by have : (256 : Nat) ^ 6 = 281474976710656 := by decide
                                omega
    have b3 : g < 256 ^ 6 := by have : (256 : Nat) ^ 6 = 281474976710656 := by decide
                                omega
    have hlow : m ≤ 56 → tn.drop 56 = o.drop 56 := by
      intro hm56
      rw [htn, List.drop_append, List.length_take, t3, Nat.min_eq_left hm, List.drop_of_length_le (by rw [List.length_take]; omega), List.nil_append, List.drop_drop]
      congr 1; omega
    rcases Nat.lt_or_ge m 8 with h8 | h8
    · have hd := hlow (by omega)
      rw [n2, o2] at hd
      have hgn := mark_inj b3 b2 hd
      rcases o1 with o1 | o1
      · omega
      · right
        have hdr : tn.drop 8 = o.drop 8 := by
          rw [htn, List.drop_append, List.length_take, t3, Nat.min_eq_left hm, List.drop_of_length_le (by rw [List.length_take]; omega), List.nil_append, List.drop_drop]
          congr 1; omega
        rw [← List.take_append_drop 8 tn, n1, hd, ← o1, hdr, List.take_append_drop]
    · have h1 : tn.take 8 = s.take 8 := by rw [htn, List.take_append_of_le_length (by rw [List.length_take]; omega), List.take_take, Nat.min_eq_left h8]
      rw [n1, t1] at h1
      rcases Nat.lt_or_ge 56 m with h56 | h56
      · left
        have hfr : tn.take 56 = s.take 56 := by
          rw [htn, List.take_append_of_le_length (by rw [List.length_take]; omega), List.take_take, Nat.min_eq_left (by omega)]
        rw [← List.take_append_drop 56 tn, hfr, n2, h1, ← t2, List.take_append_drop]
      · exfalso
        have hd := hlow h56
        rw [n2, h1, o2] at hd
        have := mark_inj b1 b2 hd
        omega
  · left
    unfold decS
    rw [if_pos he]; exact he

theorem load_two {c : Dk} (hc : Calm c) {x : Sp} {k : Nat} (hk : k < 2) (h1 : decS (c.S.getD k []) = (x, 0)) (h2 : (decS (c.S.getD (1 - k) [])).2 ≠ 0 ∨ (decS (c.S.getD (1 - k) [])).1.g < x.g) : loadS c = (x, 0) := by
  have r0 : readS c 0 = (c.S.getD 0 [], 0) := calm_read hc 0 (by omega)
  have r1 : readS c 1 = (c.S.getD 1 [], 0) := calm_read hc 1 (by omega)
  have hb : bestS (c.S.getD 0 []) (c.S.getD 1 []) = (x, true) := by
    unfold bestS
    rcases (show k = 0 ∨ k = 1 by omega) with rfl | rfl
    · rw [h1]; simp only
      rw [if_pos ⟨trivial, h2.imp id Int.le_of_lt⟩]
    · rw [h1]
      simp only
      rw [if_neg, if_pos trivial]
      rintro ⟨q1, q2⟩
      rcases h2 with h | h
      · exact h q1
      · rcases q2 with q2 | q2
        · exact q2 rfl
        · have h' : (decS (c.S.getD 0 [])).1.g < x.g := h
          omega
  unfold loadS
  rw [r0, r1]
  simp only
  rw [if_neg (by simp), if_neg (by simp), hb]
  simp

theorem sur_plain {d : Dk} {old new : Sp} (hA : Calm d) (ho : spB old = true) (hn : spB new = true) (hg : new.g = old.g + 1) (h1 : decS (d.S.getD (old.g % 2).toNat []) = (old, 0)) (h2 : Sl (d.S.getD (new.g % 2).toNat []) old.g) (n : Int) (kb : List Bool) (tear : Int) :
    ∃ a e y, storeS (fuseS d n) new = (a, e) ∧ ((e = 0 ∧ (n < 1 ∨ 2 < n)) ∨ (e = 18 ∧ 1 ≤ n ∧ n ≤ 2)) ∧ loadS (crashD a kb tear) = (y, 0) ∧ (e = 0 → y = new) ∧ (y = old ∨ y = new) ∧ a.P.length ≤ 16 ∧ a.S.length ≤ 16 ∧ Calm (crashD a kb tear) := by
  obtain ⟨v1, v2, v3⟩ := (validB_iff d).1 hA.v
  obtain ⟨n1, n2, n3, n4, n5, n6⟩ := (numsB_iff d).1 v1
  have hsl := hA.s
  obtain ⟨og1, _⟩ := spB_bounds ho
  obtain ⟨t1, t2, t3⟩ := trip_enc hn
  obtain ⟨s, hs⟩ : ∃ s, (encS new).1 = s := ⟨_, rfl⟩
  obtain ⟨m, hm⟩ : ∃ m : Nat, new.g % 2 = m := ⟨(new.g % 2).toNat, by omega⟩
  obtain ⟨k, hk⟩ : ∃ k : Nat, old.g % 2 = k := ⟨(old.g % 2).toNat, by omega⟩
  have hmk : m = 1 - k ∧ k < 2 ∧ m < 2 ∧ k = 1 - m := by omega
  obtain ⟨mk1, mk2, mk3, mk4⟩ := hmk
  rw [hk, Int.toNat_natCast] at h1
  rw [hm, Int.toNat_natCast] at h2
  rw [hs] at t2 t3
  -- the fused disk
  obtain ⟨N, hN⟩ : ∃ N, min (max n 0) 1099511627776 = N := ⟨_, rfl⟩
  have hf : fuseS d n = { d with fuse := N } := by unfold fuseS; rw [if_pos hA.v, hN]
  obtain ⟨f, hfd⟩ : ∃ f : Dk, f = { d with fuse := N } := ⟨_, rfl⟩
  rw [hf, ← hfd]
  have fS : f.S = d.S := by rw [hfd]
  have fP : f.P = [] := by rw [hfd]; exact hA.p
  have fF : f.fuse = N := by rw [hfd]
  have fO : f.ops = d.ops := by rw [hfd]
  have fD : f.dead = false := by rw [hfd]; exact hA.a
  have fV : validB f = true := by
    rw [validB_iff, fS, fP]
    refine ⟨?_, v2, fun y hy => absurd hy (by simp)⟩
    rw [numsB_iff, fS, fF, fO]; omega
  clear hfd hf
  have hwr : writeS f (new.g % 2) s = happenS f (addW m s) := by
    unfold writeS
    rw [hm, if_pos ⟨fV, by unfold hasB; rw [fS, hsl]; simp; omega, t3⟩, fD, if_neg (by decide)]
  -- what a crash leaves of a disk a whose sectors are those of d, but for the new slot
  have hcr : ∀ a : Dk, validB a = true → a.S.length = 16 → Calm (crashD a kb tear) := by
    intro a hv hl
    obtain ⟨c1, c2, c3, c4, c5, c6⟩ := crash_valid hv kb tear
    exact ⟨c1, by rw [c2]; exact hl, c3, c5, c4⟩
  have hnil : ∀ a : Dk, validB a = true → a.P = [] → (crashD a kb tear).S = a.S := by
    intro a hv hp
    rw [crash_on kb tear hv, hp]; rfl
  have hold : ∀ c : Dk, Calm c → c.S.getD k [] = d.S.getD k [] → ((decS (c.S.getD m [])).2 ≠ 0 ∨ (decS (c.S.getD m [])).1.g < old.g) → loadS c = (old, 0) := by
    intro c hc e1 e2
    refine load_two hc (k := k) mk2 (by rw [e1]; exact h1) ?_
    rw [← mk1]; exact e2
  have hnew : ∀ c : Dk, Calm c → c.S.getD k [] = d.S.getD k [] → c.S.getD m [] = s → loadS c = (new, 0) := by
    intro c hc e1 e2
    refine load_two hc (k := m) mk3 (by rw [e2]; exact t2) ?_
    rw [← mk4, e1, h1]; right; show old.g < new.g; omega
  have hset : ∀ u, (d.S.set m u).getD k [] = d.S.getD k [] ∧ (d.S.set m u).getD m [] = u := by
    intro u
    refine ⟨?_, ?_⟩
    · rw [getD_set _ _ _ _ (by omega), if_neg (by omega)]
    · rw [getD_set _ _ _ _ (by omega), if_pos rfl]
  have hst : storeS f new = if (happenS f (addW m s)).2 ≠ 0 then happenS f (addW m s) else syncS (happenS f (addW m s)).1 := by
    unfold storeS
    rw [if_neg (by rw [t1]; simp), hs, hwr]
  by_cases hN1 : N = 1
  · -- dead at the write
    obtain ⟨a, ha⟩ : ∃ a : Dk, a = { f with ops := min (f.ops + 1) 1099511627776, fuse := 0, dead := true } := ⟨_, rfl⟩
    have hh : happenS f (addW m s) = (a, 18) := by unfold happenS; rw [fF, if_pos hN1, ha]
    have aS : a.S = d.S := by rw [ha]; exact fS
    have aP : a.P = [] := by rw [ha]; exact fP
    have aV : validB a = true := by
      rw [validB_iff, aS, aP]
      refine ⟨?_, v2, fun y hy => absurd hy (by simp)⟩
      rw [numsB_iff, aS, ha]; simp only; rw [fO]; omega
    refine ⟨a, 18, old, ?_, .inr ⟨rfl, by omega, by omega⟩, ?_, fun h => absurd h (by decide), .inl rfl, by rw [aP]; simp, by rw [aS]; omega, hcr a aV (by rw [aS]; exact hsl)⟩
    · rw [hst, hh, if_pos (by simp)]
    · refine hold _ (hcr a aV (by rw [aS]; exact hsl)) (by rw [hnil a aV aP, aS]) ?_
      rw [hnil a aV aP, aS]; exact h2.dec
  · obtain ⟨b, hb⟩ : ∃ b : Dk, b = addW m s { f with ops := min (f.ops + 1) 1099511627776, fuse := max (f.fuse - 1) 0 } := ⟨_, rfl⟩
    have hh : happenS f (addW m s) = (b, 0) := by unfold happenS; rw [if_neg (by rw [fF]; exact hN1), hb]
    have bS : b.S = d.S := by rw [hb]; exact fS
    have bP : b.P = [((m : Int), s)] := by rw [hb]; show f.P ++ [((m : Int), s)] = _; rw [fP]; rfl
    have bF : b.fuse = max (N - 1) 0 := by rw [hb]; show max (f.fuse - 1) 0 = _; rw [fF]
    have bO : b.ops = min (d.ops + 1) 1099511627776 := by rw [hb]; show min (f.ops + 1) _ = _; rw [fO]
    have bD : b.dead = false := by rw [hb]; exact fD
    clear hb
    have hPok : ∀ x ∈ [((m : Int), s)], 0 ≤ x.1 ∧ x.1 < (d.S.length : Int) ∧ x.2.length = 64 := by
      intro y hy
      rw [List.mem_singleton.1 hy, hsl]
      exact ⟨by simp only; omega, by simp only; omega, t3⟩
    have bV : validB b = true := by
      rw [validB_iff, bS, bP]
      refine ⟨?_, v2, hPok⟩
      rw [numsB_iff, bS, bF, bO]; omega
    have hst2 : storeS f new = happenS b syncD := by
      rw [hst, hh]
      simp only
      rw [if_neg (by simp)]
      unfold syncS
      rw [if_pos bV, bD, if_neg (by decide)]
    by_cases hN2 : N = 2
    · -- dead at the sync
      obtain ⟨a, ha⟩ : ∃ a : Dk, a = { b with ops := min (b.ops + 1) 1099511627776, fuse := 0, dead := true } := ⟨_, rfl⟩
      have hh2 : happenS b syncD = (a, 18) := by unfold happenS; rw [bF, if_pos (by omega), ha]
      have aS : a.S = d.S := by rw [ha]; exact bS
      have aP : a.P = [((m : Int), s)] := by rw [ha]; exact bP
      have aV : validB a = true := by
        rw [validB_iff, aS, aP]
        refine ⟨?_, v2, hPok⟩
        rw [numsB_iff, aS, ha]; simp only; rw [bO]; omega
      have hc := hcr a aV (by rw [aS]; exact hsl)
      have hcS : (crashD a kb tear).S = d.S ∨ (crashD a kb tear).S = d.S.set m s ∨ (crashD a kb tear).S = d.S.set m (cutW s (d.S.getD m []) tear) ∧ 1 ≤ tear ∧ tear < 64 := by
        rw [crash_on kb tear aV]
        simp only
        rw [aS, aP]
        show foldC [((m : Int), s)] d.S (lastI (kf 1 kb 1)) tear (kf 1 kb 1) = _ ∨ foldC [((m : Int), s)] d.S (lastI (kf 1 kb 1)) tear (kf 1 kb 1) = _ ∨ foldC [((m : Int), s)] d.S (lastI (kf 1 kb 1)) tear (kf 1 kb 1) = _ ∧ _
        have hkf : kf 1 kb 1 = [] ∨ kf 1 kb 1 = [⟨0, by decide⟩] := by
          rw [kf_step 1 kb 0 (by decide), kf_zero]
          split
          · right; rfl
          · left; rfl
        rcases hkf with hkf | hkf
        · left; rw [hkf]; rfl
        · right; rw [hkf]
          show d.S.set m (if ((0 : Nat) : Int) = ((0 : Nat) : Int) ∧ 1 ≤ tear ∧ tear < 64 then cutW s (d.S.getD m []) tear else s) = _ ∨ d.S.set m (if ((0 : Nat) : Int) = ((0 : Nat) : Int) ∧ 1 ≤ tear ∧ tear < 64 then cutW s (d.S.getD m []) tear else s) = _ ∧ _
          by_cases ht : 1 ≤ tear ∧ tear < 64
          · right; rw [if_pos ⟨rfl, ht⟩]; exact ⟨rfl, ht⟩
          · left; rw [if_neg (fun h => ht h.2)]
      have hres : loadS (crashD a kb tear) = (old, 0) ∨ loadS (crashD a kb tear) = (new, 0) := by
        rcases hcS with hq | hq | ⟨hq, q1, q2⟩
        · left; exact hold _ hc (by rw [hq]) (by rw [hq]; exact h2.dec)
        · right; exact hnew _ hc (by rw [hq]; exact (hset _).1) (by rw [hq]; exact (hset _).2)
        · have hcm : (crashD a kb tear).S.getD m [] = cutW s (d.S.getD m []) tear := by rw [hq]; exact (hset _).2
          have hck : (crashD a kb tear).S.getD k [] = d.S.getD k [] := by rw [hq]; exact (hset _).1
          rcases torn_dec hn (h2.mono (by omega)) (m := tear.toNat) (by omega) hs.symm (show cutW s (d.S.getD m []) tear = _ from rfl) with r | r | r
          · left; refine hold _ hc hck ?_; rw [hcm]; exact .inl r
          · right; refine hnew _ hc hck ?_; rw [hcm]; exact r
          · left; refine hold _ hc hck ?_; rw [hcm, r]; exact h2.dec
      rcases hres with hr | hr
      · exact ⟨a, 18, old, by rw [hst2, hh2], .inr ⟨rfl, by omega, by omega⟩, hr, fun h => absurd h (by decide), .inl rfl, by rw [aP]; simp, by rw [aS]; omega, hc⟩
      · exact ⟨a, 18, new, by rw [hst2, hh2], .inr ⟨rfl, by omega, by omega⟩, hr, fun h => absurd h (by decide), .inr rfl, by rw [aP]; simp, by rw [aS]; omega, hc⟩
    · -- stored
      obtain ⟨a, ha⟩ : ∃ a : Dk, a = syncD { b with ops := min (b.ops + 1) 1099511627776, fuse := max (b.fuse - 1) 0 } := ⟨_, rfl⟩
      have hh2 : happenS b syncD = (a, 0) := by unfold happenS; rw [if_neg (by rw [bF]; omega), ha]
      have aS : a.S = d.S.set m s := by rw [ha]; show perform b.S b.P = _; rw [bS, bP]; rfl
      have aP : a.P = [] := by rw [ha]; rfl
      have aF : a.fuse = max (b.fuse - 1) 0 := by rw [ha]; rfl
      have aO : a.ops = min (b.ops + 1) 1099511627776 := by rw [ha]; rfl
      have aV : validB a = true := by
        rw [validB_iff, aS, aP]
        refine ⟨?_, ?_, fun y hy => absurd hy (by simp)⟩
        · rw [numsB_iff, aS, List.length_set, aF, aO, bF, bO]; omega
        · intro y hy
          rcases List.mem_or_eq_of_mem_set hy with h' | h'
          · exact v2 y h'
          · rw [h']; exact t3
      have hc := hcr a aV (by rw [aS, List.length_set]; exact hsl)
      refine ⟨a, 0, new, by rw [hst2, hh2], .inl ⟨rfl, by omega⟩, ?_, fun _ => rfl, .inr rfl, by rw [aP]; simp, by rw [aS, List.length_set]; omega, hc⟩
      refine hnew _ hc ?_ ?_
      · rw [hnil a aV aP, aS]; exact (hset _).1
      · rw [hnil a aV aP, aS]; exact (hset _).2

/-- the disk on which the old superblock is stored -/
theorem sur_old {d : Dk} {old : Sp} (hA : Calm d) (ho : spB old = true) (h1 : Sl (d.S.getD ((old.g + 1) % 2).toNat []) old.g) :
    ∃ d2, storeS d old = (d2, 0) ∧ Calm d2 ∧ decS (d2.S.getD (old.g % 2).toNat []) = (old, 0) ∧ Sl (d2.S.getD ((old.g + 1) % 2).toNat []) old.g := by
  obtain ⟨d2, e1, e2, e3⟩ := calm_store hA ho
  obtain ⟨t1, t2, t3⟩ := trip_enc ho
  have hsl := hA.s
  refine ⟨d2, e1, e2, ?_, ?_⟩
  · rw [e3, getD_set _ _ _ _ (by omega), if_pos rfl]; exact t2
  · rw [e3, getD_set _ _ _ _ (by omega), if_neg (by omega)]; exact h1
theorem sur_before {x : Sp} {g : Int} (hx : spB x = true) (hg : x.g = g - 1) :
    ∃ d2, storeS d16 x = (d2, 0) ∧ Calm d2 ∧ Sl (d2.S.getD ((g + 1) % 2).toNat []) g := by
  obtain ⟨d2, e1, e2, e3⟩ := calm_store calm_start hx
  have hsl := calm_start.s
  refine ⟨d2, e1, e2, ?_⟩
  rw [e3, getD_set _ _ _ _ (by omega), if_pos (by omega)]
  exact .inr ⟨x, hx, rfl, by omega⟩
theorem sur_start (g : Int) : Sl (d16.S.getD ((g + 1) % 2).toNat []) g := by
  left
  rcases (show ((g + 1) % 2).toNat = 0 ∨ ((g + 1) % 2).toNat = 1 by omega) with h | h <;> rw [h] <;> decide +kernel
end Go.Proofs.Ytkpfkknldeafkaa

namespace Go.Proofs.Ytkpfkknldeafkaa
open Go.ChangeShapes Go.WideShapes Go.ChangeAt Go.RowKit

section
variable {H : Type} {enc : TypeId × Value → H} {W : World} {base : Nat} {spare : Nat → Bool} {held : Bool}
theorem trod_bos {fuel : Nat} {cs : List Value} {x : DataW H × List MemPlace} (h : DataW.trod enc Try.prog W base spare held fuel 50 cs = some x) :
    ∃ (a : Option Addr) (c : Nat) (kb : List Bool), cs = [.slice a kb.length c] ∧ BoS W.heap.size W (.slice a kb.length c) kb := by
  rcases Deep.open_slice Try.underlying50 h with ⟨hcs, _⟩ | ⟨a, len0, cap0, m, n, D, Pl, hcs, _, hl, _, hm, hx, hi⟩
  · exact ⟨none, 0, [], hcs, ⟨none, 0, rfl, Nat.le_refl _, fun hne => absurd rfl hne⟩⟩
  · have hlm : len0 ≤ m := by rw [hm]; split <;> omega
    have hel : ∀ i, i < len0 → ∃ q : Bool, W.cell? (a.add i) = some (.bool q) := by
      intro i hil
      obtain ⟨cs', hc, ht⟩ := hi i (by omega)
      rw [show Try.prog.cellsOf 4 = 1 by kernel_rfl] at hc
      obtain ⟨q, rfl, _⟩ := DataW.trod_bool Try.underlying4 ht
      obtain ⟨_, _, hat⟩ := World.cells?_some hc
      have h0 := hat 0 (by decide)
      rw [Nat.mul_one] at h0
      have : (a.add i).add 0 = a.add i := by unfold Addr.add; split <;> simp_all
      rw [this] at h0
      exact ⟨q, h0⟩
    obtain ⟨F, hF⟩ : ∃ F : Nat → Bool, ∀ i, i < len0 → W.cell? (a.add i) = some (.bool (F i)) :=
      ⟨fun i => if h : i < len0 then (hel i h).choose else false, fun i h => by simp only [dif_pos h]; exact (hel i h).choose_spec⟩
    have hML : ((List.range len0).map F).length = len0 := by simp
    refine ⟨some a, cap0, (List.range len0).map F, by rw [hML]; exact hcs, ⟨some a, cap0, rfl, by rw [hML]; exact hl, fun hne => ?_⟩⟩
    have h0 : 0 < len0 := by
      rcases Nat.eq_zero_or_pos len0 with h | h
      · subst h; simp at hne
      · exact h
    obtain ⟨b, off, spot⟩ := a
    have hspot : spot = none := by simpa [Addr.add] using World.cell?_spot (hF 0 h0)
    subst hspot
    refine ⟨b, off, rfl, ?_, fun i hi2 => ?_⟩
    · have := hF 0 h0
      rw [addr_add] at this
      exact World.block_lt_of_cell? W _ this
    · rw [hML] at hi2
      have := hF i hi2
      rw [addr_add] at this
      simp only [List.getElem_map, List.getElem_range]
      exact this
set_option maxRecDepth 100000 in
theorem open_crash {r : Reach} {b0 : Nat} {v : Value} {d : DataW H} {p : List MemPlace} (hv : Value.okWide Try.prog W r b0 52 v) (h : DataW.Trod enc Try.prog W base spare held 52 v d p) :
    ∃ (b o n : Sp) (fu : Int) (ka : Option Addr) (kc : Nat) (kb : List Bool) (te : Int), v = .agg #[.int .i64 b.g, .int .i64 b.e, .int .i64 b.a, .int .i64 b.z, .int .i64 b.p, .int .i64 o.g, .int .i64 o.e, .int .i64 o.a, .int .i64 o.z, .int .i64 o.p, .int .i64 n.g, .int .i64 n.e, .int .i64 n.a, .int .i64 n.z, .int .i64 n.p, .int .i64 fu, .slice ka kb.length kc, .int .i64 te] ∧
      BoS W.heap.size W (.slice ka kb.length kc) kb := by
  obtain ⟨cs, rfl, hsz⟩ := okWide_struct Try.underlying52 hv
  obtain ⟨l⟩ := cs
  have hC : Try.prog.cellsOf 52 = 18 := by kernel_rfl
  match l, hsz.trans hC with
  | [u0, u1, u2, u3, u4, u5, u6, u7, u8, u9, u10, u11, u12, u13, u14, u15, u16, u17], _ =>
    obtain ⟨fuel, hf⟩ := h
    obtain ⟨ys, n, _, hx, _, hyl, hg⟩ := DataW.trod_struct Try.underlying52 hf
    match ys, hyl with
    | [y0, y1, y2, y3, y4, y5], _ =>
      have g0 : DataW.trod enc Try.prog W base spare held n 23 (([u0, u1, u2, u3, u4, u5, u6, u7, u8, u9, u10, u11, u12, u13, u14, u15, u16, u17].drop 0).take (Try.prog.cellsOf 23)) = some y0 := hg 0 _ rfl
      have g1 : DataW.trod enc Try.prog W base spare held n 23 (([u0, u1, u2, u3, u4, u5, u6, u7, u8, u9, u10, u11, u12, u13, u14, u15, u16, u17].drop 5).take (Try.prog.cellsOf 23)) = some y1 := hg 1 _ rfl
      have g2 : DataW.trod enc Try.prog W base spare held n 23 (([u0, u1, u2, u3, u4, u5, u6, u7, u8, u9, u10, u11, u12, u13, u14, u15, u16, u17].drop 10).take (Try.prog.cellsOf 23)) = some y2 := hg 2 _ rfl
      have g3 : DataW.trod enc Try.prog W base spare held n 3 (([u0, u1, u2, u3, u4, u5, u6, u7, u8, u9, u10, u11, u12, u13, u14, u15, u16, u17].drop 15).take (Try.prog.cellsOf 3)) = some y3 := hg 3 _ rfl
      have g4 : DataW.trod enc Try.prog W base spare held n 50 (([u0, u1, u2, u3, u4, u5, u6, u7, u8, u9, u10, u11, u12, u13, u14, u15, u16, u17].drop 16).take (Try.prog.cellsOf 50)) = some y4 := hg 4 _ rfl
      have g5 : DataW.trod enc Try.prog W base spare held n 3 (([u0, u1, u2, u3, u4, u5, u6, u7, u8, u9, u10, u11, u12, u13, u14, u15, u16, u17].drop 17).take (Try.prog.cellsOf 3)) = some y5 := hg 5 _ rfl
      have c1 : Try.prog.cellsOf 23 = 5 := by kernel_rfl
      have c2 : Try.prog.cellsOf 50 = 1 := by kernel_rfl
      have c3 : Try.prog.cellsOf 3 = 1 := by kernel_rfl
      rw [c1] at g0 g1 g2
      rw [c3] at g3 g5
      rw [c2] at g4
      obtain ⟨b, e0⟩ := trod_super g0
      obtain ⟨o, e1⟩ := trod_super g1
      obtain ⟨nn, e2⟩ := trod_super g2
      obtain ⟨fu, e3, _⟩ := DataW.trod_int Try.underlying3 g3
      obtain ⟨ka, kc, kb, e4, hB⟩ := trod_bos g4
      obtain ⟨te, e5, _⟩ := DataW.trod_int Try.underlying3 g5
      simp [spV] at e0 e1 e2 e3 e4 e5
      obtain ⟨rfl, rfl, rfl, rfl, rfl⟩ := e0
      obtain ⟨rfl, rfl, rfl, rfl, rfl⟩ := e1
      obtain ⟨rfl, rfl, rfl, rfl, rfl⟩ := e2
      subst e3 e4 e5
      exact ⟨b, o, nn, fu, ka, kc, kb, te, rfl, hB⟩
end
end Go.Proofs.Ytkpfkknldeafkaa

namespace Go.Proofs.Ytkpfkknldeafkaa
open Go.RowKit

theorem scells11_below {W W' : World} {b0 i0 b1 i1 b2 i2 b3 i3 b4 i4 b5 i5 b6 i6 b7 i7 b8 i8 b9 i9 b10 i10 : Nat} {u0 u1 u2 u3 u4 u5 u6 u7 u8 u9 u10 : Value} (h : W.cell? ⟨b0, i0, none⟩ = some u0 ∧ W.cell? ⟨b1, i1, none⟩ = some u1 ∧ W.cell? ⟨b2, i2, none⟩ = some u2 ∧ W.cell? ⟨b3, i3, none⟩ = some u3 ∧ W.cell? ⟨b4, i4, none⟩ = some u4 ∧ W.cell? ⟨b5, i5, none⟩ = some u5 ∧ W.cell? ⟨b6, i6, none⟩ = some u6 ∧ W.cell? ⟨b7, i7, none⟩ = some u7 ∧ W.cell? ⟨b8, i8, none⟩ = some u8 ∧ W.cell? ⟨b9, i9, none⟩ = some u9 ∧ W.cell? ⟨b10, i10, none⟩ = some u10) (hb : Below W.heap.size W W') : W'.cell? ⟨b0, i0, none⟩ = some u0 ∧ W'.cell? ⟨b1, i1, none⟩ = some u1 ∧ W'.cell? ⟨b2, i2, none⟩ = some u2 ∧ W'.cell? ⟨b3, i3, none⟩ = some u3 ∧ W'.cell? ⟨b4, i4, none⟩ = some u4 ∧ W'.cell? ⟨b5, i5, none⟩ = some u5 ∧ W'.cell? ⟨b6, i6, none⟩ = some u6 ∧ W'.cell? ⟨b7, i7, none⟩ = some u7 ∧ W'.cell? ⟨b8, i8, none⟩ = some u8 ∧ W'.cell? ⟨b9, i9, none⟩ = some u9 ∧ W'.cell? ⟨b10, i10, none⟩ = some u10 := by
  obtain ⟨h0, h1, h2, h3, h4, h5, h6, h7, h8, h9, h10⟩ := h
  exact ⟨cell1_below h0 hb, cell1_below h1 hb, cell1_below h2 hb, cell1_below h3 hb, cell1_below h4 hb, cell1_below h5 hb, cell1_below h6 hb, cell1_below h7 hb, cell1_below h8 hb, cell1_below h9 hb, cell1_below h10 hb⟩
theorem scells11_sets {W : World} {x y i0 i1 i2 i3 i4 i5 i6 i7 i8 i9 i10 : Nat} {u0 u1 u2 u3 u4 u5 u6 u7 u8 u9 u10 : Value} (h : W.cell? ⟨x, i0, none⟩ = some u0 ∧ W.cell? ⟨x, i1, none⟩ = some u1 ∧ W.cell? ⟨x, i2, none⟩ = some u2 ∧ W.cell? ⟨x, i3, none⟩ = some u3 ∧ W.cell? ⟨x, i4, none⟩ = some u4 ∧ W.cell? ⟨y, i5, none⟩ = some u5 ∧ W.cell? ⟨y, i6, none⟩ = some u6 ∧ W.cell? ⟨y, i7, none⟩ = some u7 ∧ W.cell? ⟨y, i8, none⟩ = some u8 ∧ W.cell? ⟨y, i9, none⟩ = some u9 ∧ W.cell? ⟨y, i10, none⟩ = some u10) (b : Nat) (h_x : b ≠ x) (h_y : b ≠ y) (v0 v1 v2 v3 v4 : Value) :
    (((((W.setCell ⟨b, 0, none⟩ v0).setCell ⟨b, 1, none⟩ v1).setCell ⟨b, 2, none⟩ v2).setCell ⟨b, 3, none⟩ v3).setCell ⟨b, 4, none⟩ v4).cell? ⟨x, i0, none⟩ = some u0 ∧ (((((W.setCell ⟨b, 0, none⟩ v0).setCell ⟨b, 1, none⟩ v1).setCell ⟨b, 2, none⟩ v2).setCell ⟨b, 3, none⟩ v3).setCell ⟨b, 4, none⟩ v4).cell? ⟨x, i1, none⟩ = some u1 ∧ (((((W.setCell ⟨b, 0, none⟩ v0).setCell ⟨b, 1, none⟩ v1).setCell ⟨b, 2, none⟩ v2).setCell ⟨b, 3, none⟩ v3).setCell ⟨b, 4, none⟩ v4).cell? ⟨x, i2, none⟩ = some u2 ∧ (((((W.setCell ⟨b, 0, none⟩ v0).setCell ⟨b, 1, none⟩ v1).setCell ⟨b, 2, none⟩ v2).setCell ⟨b, 3, none⟩ v3).setCell ⟨b, 4, none⟩ v4).cell? ⟨x, i3, none⟩ = some u3 ∧ (((((W.setCell ⟨b, 0, none⟩ v0).setCell ⟨b, 1, none⟩ v1).setCell ⟨b, 2, none⟩ v2).setCell ⟨b, 3, none⟩ v3).setCell ⟨b, 4, none⟩ v4).cell? ⟨x, i4, none⟩ = some u4 ∧ (((((W.setCell ⟨b, 0, none⟩ v0).setCell ⟨b, 1, none⟩ v1).setCell ⟨b, 2, none⟩ v2).setCell ⟨b, 3, none⟩ v3).setCell ⟨b, 4, none⟩ v4).cell? ⟨y, i5, none⟩ = some u5 ∧ (((((W.setCell ⟨b, 0, none⟩ v0).setCell ⟨b, 1, none⟩ v1).setCell ⟨b, 2, none⟩ v2).setCell ⟨b, 3, none⟩ v3).setCell ⟨b, 4, none⟩ v4).cell? ⟨y, i6, none⟩ = some u6 ∧ (((((W.setCell ⟨b, 0, none⟩ v0).setCell ⟨b, 1, none⟩ v1).setCell ⟨b, 2, none⟩ v2).setCell ⟨b, 3, none⟩ v3).setCell ⟨b, 4, none⟩ v4).cell? ⟨y, i7, none⟩ = some u7 ∧ (((((W.setCell ⟨b, 0, none⟩ v0).setCell ⟨b, 1, none⟩ v1).setCell ⟨b, 2, none⟩ v2).setCell ⟨b, 3, none⟩ v3).setCell ⟨b, 4, none⟩ v4).cell? ⟨y, i8, none⟩ = some u8 ∧ (((((W.setCell ⟨b, 0, none⟩ v0).setCell ⟨b, 1, none⟩ v1).setCell ⟨b, 2, none⟩ v2).setCell ⟨b, 3, none⟩ v3).setCell ⟨b, 4, none⟩ v4).cell? ⟨y, i9, none⟩ = some u9 ∧ (((((W.setCell ⟨b, 0, none⟩ v0).setCell ⟨b, 1, none⟩ v1).setCell ⟨b, 2, none⟩ v2).setCell ⟨b, 3, none⟩ v3).setCell ⟨b, 4, none⟩ v4).cell? ⟨y, i10, none⟩ = some u10 := by
  obtain ⟨h0, h1, h2, h3, h4, h5, h6, h7, h8, h9, h10⟩ := h
  exact ⟨cell1_sets h0 h_x _ _ _ _ _, cell1_sets h1 h_x _ _ _ _ _, cell1_sets h2 h_x _ _ _ _ _, cell1_sets h3 h_x _ _ _ _ _, cell1_sets h4 h_x _ _ _ _ _, cell1_sets h5 h_y _ _ _ _ _, cell1_sets h6 h_y _ _ _ _ _, cell1_sets h7 h_y _ _ _ _ _, cell1_sets h8 h_y _ _ _ _ _, cell1_sets h9 h_y _ _ _ _ _, cell1_sets h10 h_y _ _ _ _ _⟩
set_option maxRecDepth 100000 in
set_option maxHeartbeats 64000000 in
theorem survivesWalk (b o n : Sp) (fu : Int) (ka : Option Addr) (kc : Nat) (kb : List Bool) (te : Int) (w : World) (hK : BoS w.heap.size w (.slice ka kb.length kc) kb) :
    Calls Try.prog 9 #[.agg #[.int .i64 b.g, .int .i64 b.e, .int .i64 b.a, .int .i64 b.z, .int .i64 b.p, .int .i64 o.g, .int .i64 o.e, .int .i64 o.a, .int .i64 o.z, .int .i64 o.p, .int .i64 n.g, .int .i64 n.e, .int .i64 n.a, .int .i64 n.z, .int .i64 n.p, .int .i64 fu, .slice ka kb.length kc, .int .i64 te]] w fun e w' => e = .returned (.bool true) ∧ Below w.heap.size w w' := by
  have HX := Lib.hid (Bx.new w #[.int .i64 b.g, .int .i64 b.e, .int .i64 b.a, .int .i64 b.z, .int .i64 b.p, .int .i64 o.g, .int .i64 o.e, .int .i64 o.a, .int .i64 o.z, .int .i64 o.p, .int .i64 n.g, .int .i64 n.e, .int .i64 n.a, .int .i64 n.z, .int .i64 n.p, .int .i64 fu, .slice ka kb.length kc, .int .i64 te] 52); have HB := Lib.hid ((Below.refl w.heap.size w).alloc (Nat.le_refl _) (.cells #[.int .i64 b.g, .int .i64 b.e, .int .i64 b.a, .int .i64 b.z, .int .i64 b.p, .int .i64 o.g, .int .i64 o.e, .int .i64 o.a, .int .i64 o.z, .int .i64 o.p, .int .i64 n.g, .int .i64 n.e, .int .i64 n.a, .int .i64 n.z, .int .i64 n.p, .int .i64 fu, .slice ka kb.length kc, .int .i64 te] 52))
  have HK := Lib.hid (hK.below HB.out); clear hK
  go_enter Try.func9, Try.ntmps9
  go_upto_region 1 with (fail)
  generalize hW : w.alloc (.cells #[.int .i64 b.g, .int .i64 b.e, .int .i64 b.a, .int .i64 b.z, .int .i64 b.p, .int .i64 o.g, .int .i64 o.e, .int .i64 o.a, .int .i64 o.z, .int .i64 o.p, .int .i64 n.g, .int .i64 n.e, .int .i64 n.a, .int .i64 n.z, .int .i64 n.p, .int .i64 fu, .slice ka kb.length kc, .int .i64 te] 52) = v0 at HX HB HK ⊢
  clear hW
  have x5 : v0.cell? ⟨w.heap.size, 5, none⟩ = some (.int .i64 o.g) := HX.out.cell 5
  have x6 : v0.cell? ⟨w.heap.size, 6, none⟩ = some (.int .i64 o.e) := HX.out.cell 6
  have x7 : v0.cell? ⟨w.heap.size, 7, none⟩ = some (.int .i64 o.a) := HX.out.cell 7
  have x8 : v0.cell? ⟨w.heap.size, 8, none⟩ = some (.int .i64 o.z) := HX.out.cell 8
  have x9 : v0.cell? ⟨w.heap.size, 9, none⟩ = some (.int .i64 o.p) := HX.out.cell 9
  cases ho : spB o with
  | false =>
    have HO := Lib.hid ho; clear ho
    go_wp2_with fail
    refine (RSValid_any o _).mono ?_
    rw [HO.out]
    rintro e v1 ⟨rfl, hb1⟩
    clear x5 x6 x7 x8 x9
    have HX := Lib.hid (HX.out.call hb1)
    have HK := Lib.hid (HK.out.below (hb1.mono HB.out.size)); have HB := Lib.hid (btrans HB.out HB.out.size hb1); clear hb1
    go_wp2_with fail
    refine (works_any _).mono ?_
    rintro e wz ⟨rfl, hbz⟩
    have HZ := Lib.hid hbz; clear hbz
    go_wp2_with fail
    go_ret
    exact ⟨rfl, btrans HB.out HB.out.size HZ.out⟩
  | true =>
    have HO := Lib.hid ho; clear ho
    go_wp2_with fail
    refine (RSValid_any o _).mono ?_
    rw [HO.out]
    rintro e v1 ⟨rfl, hb1⟩
    clear x5 x6 x7 x8 x9
    have HX := Lib.hid (HX.out.call hb1)
    have HK := Lib.hid (HK.out.below (hb1.mono HB.out.size)); have HB := Lib.hid (btrans HB.out HB.out.size hb1); clear hb1
    have x10 : v1.cell? ⟨w.heap.size, 10, none⟩ = some (.int .i64 n.g) := HX.out.cell 10
    have x11 : v1.cell? ⟨w.heap.size, 11, none⟩ = some (.int .i64 n.e) := HX.out.cell 11
    have x12 : v1.cell? ⟨w.heap.size, 12, none⟩ = some (.int .i64 n.a) := HX.out.cell 12
    have x13 : v1.cell? ⟨w.heap.size, 13, none⟩ = some (.int .i64 n.z) := HX.out.cell 13
    have x14 : v1.cell? ⟨w.heap.size, 14, none⟩ = some (.int .i64 n.p) := HX.out.cell 14
    cases hn : spB n with
    | false =>
      have HN := Lib.hid hn; clear hn
      go_wp2_with fail
      refine (RSValid_any n _).mono ?_
      rw [HN.out]
      rintro e v2 ⟨rfl, hb1⟩
      clear x10 x11 x12 x13 x14
      have HX := Lib.hid (HX.out.call hb1)
      have HK := Lib.hid (HK.out.below (hb1.mono HB.out.size)); have HB := Lib.hid (btrans HB.out HB.out.size hb1); clear hb1
      go_wp2_with fail
      refine (works_any _).mono ?_
      rintro e wz ⟨rfl, hbz⟩
      have HZ := Lib.hid hbz; clear hbz
      go_wp2_with fail
      go_ret
      exact ⟨rfl, btrans HB.out HB.out.size HZ.out⟩
    | true =>
      have HN := Lib.hid hn; clear hn
      go_wp2_with fail
      refine (RSValid_any n _).mono ?_
      rw [HN.out]
      rintro e v2 ⟨rfl, hb1⟩
      clear x10 x11 x12 x13 x14
      have HX := Lib.hid (HX.out.call hb1)
      have HK := Lib.hid (HK.out.below (hb1.mono HB.out.size)); have HB := Lib.hid (btrans HB.out HB.out.size hb1); clear hb1
      have x5 : v2.cell? ⟨w.heap.size, 5, none⟩ = some (.int .i64 o.g) := HX.out.cell 5
      have x10 : v2.cell? ⟨w.heap.size, 10, none⟩ = some (.int .i64 n.g) := HX.out.cell 10
      have x16 : v2.cell? ⟨w.heap.size, 16, none⟩ = some (.slice ka kb.length kc) := HX.out.cell 16
      obtain ⟨og1, og2, _⟩ := spB_bounds HO.out
      have hw1 : IntKind.i64.wrap (o.g + 1) = o.g + 1 := by rw [IntKind.wrap_i64]; omega
      by_cases hg : n.g = o.g + 1
      · have tg : (n.g != o.g + 1) = false := by rw [hg]; simp
        have HG := Lib.hid hg; clear hg
        by_cases hk : (40 : Int) < (kb.length : Int)
        · skip
          go_wp2_with fail
          refine (works_any _).mono ?_
          rintro e wz ⟨rfl, hbz⟩
          have HZ := Lib.hid hbz; clear hbz
          go_wp2_with fail
          go_ret
          exact ⟨rfl, btrans HB.out HB.out.size HZ.out⟩
        · skip
          obtain ⟨d0, hd0⟩ : ∃ d, d = d16 := ⟨_, rfl⟩
          have E1 := Lib.hid (show newS 16 = (d0, 0) by rw [hd0]; exact ex2)
          have HC0 := Lib.hid (show Calm d0 by rw [hd0]; exact calm_start)
          have HS0 := Lib.hid (show Sl (d0.S.getD ((o.g + 1) % 2).toNat []) o.g by rw [hd0]; exact sur_start o.g)
          have HBF := Lib.hid (show spB b = true → b.g = o.g - 1 → ∃ d2, storeS d0 b = (d2, 0) ∧ Calm d2 ∧ Sl (d2.S.getD ((o.g + 1) % 2).toNat []) o.g by rw [hd0]; exact sur_before)
          clear hd0
          go_wp2_with fail
          refine (RNew_any 16 _).mono ?_
          rw [E1.out]
          rintro e w1 ⟨a, c, a', c', rfl, hO1, hb1⟩
          clear x5 x10 x16
          have HX := Lib.hid (HX.out.call hb1)
          have HK := Lib.hid (HK.out.below (hb1.mono HB.out.size)); have HB := Lib.hid (btrans HB.out HB.out.size hb1); clear hb1
          have zw : w.heap.size < w1.heap.size := HX.out.lt
          have hal := (Below.refl w1.heap.size w1).alloc (Nat.le_refl _) (.cells #[.slice a d0.S.length c, .slice a' d0.P.length c', .int .i64 d0.fuse, .int .i64 d0.ops, .bool d0.dead] 38)
          have HT := Lib.hid ((hO1.lists (d := d0) (by rw [HC0.out.p]; simp) (by rw [HC0.out.s]; simp)).below hal); have HD := Lib.hid (Bx.new w1 #[.slice a d0.S.length c, .slice a' d0.P.length c', .int .i64 d0.fuse, .int .i64 d0.ops, .bool d0.dead] 38)
          have HX := Lib.hid (HX.out.call hal)
          have HK := Lib.hid (HK.out.below (hal.mono HB.out.size)); have HB := Lib.hid (btrans HB.out HB.out.size hal); clear hal
          clear hO1
          go_upto_region 4 with (fail)
          generalize hW : w1.alloc (.cells #[.slice a d0.S.length c, .slice a' d0.P.length c', .int .i64 d0.fuse, .int .i64 d0.ops, .bool d0.dead] 38) = v1 at HX HB HK HT HD ⊢
          clear hW
          have zD := HD.out.lt
          go_cut [54] from 42 to 137 (fun s W => ∃ t : Bool, s = .bool t ∧ (t = true → spB b = true ∧ b.g = o.g - 1) ∧ Below v1.heap.size v1 W)
          case first =>
            have x0 : v1.cell? ⟨w.heap.size, 0, none⟩ = some (.int .i64 b.g) := HX.out.cell 0
            have x1 : v1.cell? ⟨w.heap.size, 1, none⟩ = some (.int .i64 b.e) := HX.out.cell 1
            have x2 : v1.cell? ⟨w.heap.size, 2, none⟩ = some (.int .i64 b.a) := HX.out.cell 2
            have x3 : v1.cell? ⟨w.heap.size, 3, none⟩ = some (.int .i64 b.z) := HX.out.cell 3
            have x4 : v1.cell? ⟨w.heap.size, 4, none⟩ = some (.int .i64 b.p) := HX.out.cell 4
            have x5 : v1.cell? ⟨w.heap.size, 5, none⟩ = some (.int .i64 o.g) := HX.out.cell 5
            have hw2 : IntKind.i64.wrap (o.g - 1) = o.g - 1 := by rw [IntKind.wrap_i64]; omega
            cases hb : spB b with
            | false =>
              have HV := Lib.hid hb; clear hb
              go_wp2_with fail
              refine (RSValid_any b _).mono ?_
              rw [HV.out]
              rintro e v2 ⟨rfl, hb1⟩
              have HB1 := Lib.hid hb1; clear hb1
              go_wp2_with fail
              go_meet
              exact ⟨_, rfl, (fun h => by cases h), HB1.out⟩
            | true =>
              have HV := Lib.hid hb; clear hb
              by_cases hg2 : b.g = o.g - 1
              · have tg2 : (b.g == o.g - 1) = true := by rw [hg2]; simp
                have HG2 := Lib.hid hg2; clear hg2
                go_wp2_with fail
                refine (RSValid_any b _).mono ?_
                rw [HV.out]
                rintro e v2 ⟨rfl, hb1⟩
                have x0 : v2.cell? ⟨w.heap.size, 0, none⟩ = some (.int .i64 b.g) := cell1_below x0 hb1
                have x5 : v2.cell? ⟨w.heap.size, 5, none⟩ = some (.int .i64 o.g) := cell1_below x5 hb1
                have HB1 := Lib.hid hb1; clear hb1
                go_wp2_with fail
                go_meet
                exact ⟨_, rfl, (fun h => ⟨HV.out, HG2.out⟩), HB1.out⟩
              · have tg2 : (b.g == o.g - 1) = false := by rw [beq_eq_false_iff_ne]; exact hg2
                have HG2 := Lib.hid hg2; clear hg2
                go_wp2_with fail
                refine (RSValid_any b _).mono ?_
                rw [HV.out]
                rintro e v2 ⟨rfl, hb1⟩
                have x0 : v2.cell? ⟨w.heap.size, 0, none⟩ = some (.int .i64 b.g) := cell1_below x0 hb1
                have x5 : v2.cell? ⟨w.heap.size, 5, none⟩ = some (.int .i64 o.g) := cell1_below x5 hb1
                have HB1 := Lib.hid hb1; clear hb1
                go_wp2_with fail
                go_meet
                exact ⟨_, rfl, (fun h => by cases h), HB1.out⟩
          case rest =>
            obtain ⟨t, rfl, ht, hbc⟩ := hcut
            have HTT := Lib.hid ht; clear ht
            have HX := Lib.hid (HX.out.call hbc)
            have HD := Lib.hid (HD.out.call hbc)
            have HT := Lib.hid (HT.out.below hbc)
            have HK := Lib.hid (HK.out.below (hbc.mono HB.out.size)); have HB := Lib.hid (btrans HB.out HB.out.size hbc); clear hbc
            go_upto_if 54 with (fail)
            go_cut [5, 6] from 42 to 137 (fun s5 s6 W => ∃ (d1 : Dk) (a1 : Option Addr) (c1 : Nat) (a2 : Option Addr) (c2 : Nat), Calm d1 ∧ Sl (d1.S.getD ((o.g + 1) % 2).toNat []) o.g ∧ Lists W a1 c1 a2 c2 d1 ∧ Bx w1.heap.size #[.slice a1 d1.S.length c1, .slice a2 d1.P.length c2, .int .i64 d1.fuse, .int .i64 d1.ops, .bool d1.dead] 38 W ∧ Bx w.heap.size #[.int .i64 b.g, .int .i64 b.e, .int .i64 b.a, .int .i64 b.z, .int .i64 b.p, .int .i64 o.g, .int .i64 o.e, .int .i64 o.a, .int .i64 o.z, .int .i64 o.p, .int .i64 n.g, .int .i64 n.e, .int .i64 n.a, .int .i64 n.z, .int .i64 n.p, .int .i64 fu, .slice ka kb.length kc, .int .i64 te] 52 W ∧ w1.heap.size + 1 ≤ W.heap.size ∧ BoS w.heap.size W (.slice ka kb.length kc) kb ∧ Below w.heap.size w W)
            case first =>
              cases t with
              | false =>
                go_wp2_with fail
                go_meet
                exact ⟨_, _, _, _, _, HC0.out, HS0.out, HT.out, HD.out, HX.out, HD.out.lt, HK.out, HB.out⟩
              | true =>
                obtain ⟨t1, t2⟩ := HTT.out rfl
                obtain ⟨d2, e1, e2, e3⟩ := HBF.out t1 t2
                have HQ := Lib.hid e1; have HC2 := Lib.hid e2; have HS2 := Lib.hid e3; clear e1 e2 e3 t1 t2
                have r0 : wc.cell? ⟨w1.heap.size, 0, none⟩ = some (.slice a d0.S.length c) := HD.out.cell 0
                have r1 : wc.cell? ⟨w1.heap.size, 1, none⟩ = some (.slice a' d0.P.length c') := HD.out.cell 1
                have r2 : wc.cell? ⟨w1.heap.size, 2, none⟩ = some (.int .i64 d0.fuse) := HD.out.cell 2
                have r3 : wc.cell? ⟨w1.heap.size, 3, none⟩ = some (.int .i64 d0.ops) := HD.out.cell 3
                have r4 : wc.cell? ⟨w1.heap.size, 4, none⟩ = some (.bool d0.dead) := HD.out.cell 4
                have x0 : wc.cell? ⟨w.heap.size, 0, none⟩ = some (.int .i64 b.g) := HX.out.cell 0
                have x1 : wc.cell? ⟨w.heap.size, 1, none⟩ = some (.int .i64 b.e) := HX.out.cell 1
                have x2 : wc.cell? ⟨w.heap.size, 2, none⟩ = some (.int .i64 b.a) := HX.out.cell 2
                have x3 : wc.cell? ⟨w.heap.size, 3, none⟩ = some (.int .i64 b.z) := HX.out.cell 3
                have x4 : wc.cell? ⟨w.heap.size, 4, none⟩ = some (.int .i64 b.p) := HX.out.cell 4
                go_wp2_with fail
                refine (SStore_any _ _ _ _ d0 b _ HT.out (by rw [HC0.out.p]; simp)).mono ?_
                rw [HQ.out]
                rintro e w3 ⟨a1, c1, a2, c2, rfl, hO3, hb1⟩
                clear r0 r1 r2 r3 r4 x0 x1 x2 x3 x4
                have HX := Lib.hid (HX.out.call hb1)
                have HD := Lib.hid (HD.out.call hb1)
                have HT := Lib.hid (HT.out.below hb1)
                have HK := Lib.hid (HK.out.below (hb1.mono HB.out.size)); have HB := Lib.hid (btrans HB.out HB.out.size hb1); clear hb1
                have hal := (Below.refl w3.heap.size w3).alloc (Nat.le_refl _) (.cells #[.slice a1 d2.S.length c1, .slice a2 d2.P.length c2, .int .i64 d2.fuse, .int .i64 d2.ops, .bool d2.dead] 38)
                have HT := Lib.hid ((hO3.lists (d := d2) (by rw [HC2.out.p]; simp) (by rw [HC2.out.s]; simp)).below hal); have HN2 := Lib.hid (Bx.new w3 #[.slice a1 d2.S.length c1, .slice a2 d2.P.length c2, .int .i64 d2.fuse, .int .i64 d2.ops, .bool d2.dead] 38)
                have HX := Lib.hid (HX.out.call hal)
                have HD := Lib.hid (HD.out.call hal)
                have HK := Lib.hid (HK.out.below (hal.mono HB.out.size)); have HB := Lib.hid (btrans HB.out HB.out.size hal); clear hal
                clear hO3
                go_upto_region 6 with (fail)
                generalize hW : w3.alloc (.cells #[.slice a1 d2.S.length c1, .slice a2 d2.P.length c2, .int .i64 d2.fuse, .int .i64 d2.ops, .bool d2.dead] 38) = v3 at HX HB HK HT HD HN2 ⊢
                clear hW
                have r0 : v3.cell? ⟨w3.heap.size, 0, none⟩ = some (.slice a1 d2.S.length c1) := HN2.out.cell 0
                have r1 : v3.cell? ⟨w3.heap.size, 1, none⟩ = some (.slice a2 d2.P.length c2) := HN2.out.cell 1
                have r2 : v3.cell? ⟨w3.heap.size, 2, none⟩ = some (.int .i64 d2.fuse) := HN2.out.cell 2
                have r3 : v3.cell? ⟨w3.heap.size, 3, none⟩ = some (.int .i64 d2.ops) := HN2.out.cell 3
                have r4 : v3.cell? ⟨w3.heap.size, 4, none⟩ = some (.bool d2.dead) := HN2.out.cell 4
                have q0 : v3.cell? ⟨w1.heap.size, 0, none⟩ = some (.slice a d0.S.length c) := HD.out.cell 0
                have q1 : v3.cell? ⟨w1.heap.size, 1, none⟩ = some (.slice a' d0.P.length c') := HD.out.cell 1
                have q2 : v3.cell? ⟨w1.heap.size, 2, none⟩ = some (.int .i64 d0.fuse) := HD.out.cell 2
                have q3 : v3.cell? ⟨w1.heap.size, 3, none⟩ = some (.int .i64 d0.ops) := HD.out.cell 3
                have q4 : v3.cell? ⟨w1.heap.size, 4, none⟩ = some (.bool d0.dead) := HD.out.cell 4
                have g0 := HD.out.free 0
                have g1 := HD.out.free 1
                have g2 := HD.out.free 2
                have g3 := HD.out.free 3
                have g4 := HD.out.free 4
                go_wp2_with fail
                go_meet
                exact ⟨_, _, _, _, _, HC2.out, HS2.out, HT.out.sets_box HD.out (.slice a1 d2.S.length c1) (.slice a2 d2.P.length c2) (.int .i64 d2.fuse) (.int .i64 d2.ops) (.bool d2.dead), HD.out.sets (.slice a1 d2.S.length c1) (.slice a2 d2.P.length c2) (.int .i64 d2.fuse) (.int .i64 d2.ops) (.bool d2.dead), HX.out.sets_ne (c := w1.heap.size) (by have := HX.out.lt; omega) (.slice a1 d2.S.length c1) (.slice a2 d2.P.length c2) (.int .i64 d2.fuse) (.int .i64 d2.ops) (.bool d2.dead), (HD.out.sets (.slice a1 d2.S.length c1) (.slice a2 d2.P.length c2) (.int .i64 d2.fuse) (.int .i64 d2.ops) (.bool d2.dead)).lt, HK.out.below (below_sets (Below.refl _ _) w1.heap.size (by omega) (.slice a1 d2.S.length c1) (.slice a2 d2.P.length c2) (.int .i64 d2.fuse) (.int .i64 d2.ops) (.bool d2.dead)), below_sets HB.out w1.heap.size (by omega) (.slice a1 d2.S.length c1) (.slice a2 d2.P.length c2) (.int .i64 d2.fuse) (.int .i64 d2.ops) (.bool d2.dead)⟩
            case rest =>
              clear HX HD HT HK HB HTT HC0 HS0 HBF E1
              obtain ⟨d1, a1, c1, a2, c2, h1, h2, h3, h4, h5, hz, h6, h7⟩ := hcut
              have HC1 := Lib.hid h1; have HS1 := Lib.hid h2; have HT := Lib.hid h3; have HD := Lib.hid h4; have HX := Lib.hid h5; have HK := Lib.hid h6; have HB := Lib.hid h7; clear h1 h2 h3 h4 h5 h6 h7
              obtain ⟨d2, e1, e2, e3, e4⟩ := sur_old HC1.out HO.out HS1.out
              have HQ := Lib.hid e1; have HC2 := Lib.hid e2; have HD2 := Lib.hid e3; have HS2 := Lib.hid e4; clear e1 e2 e3 e4
              have r0 : wc.cell? ⟨w1.heap.size, 0, none⟩ = some (.slice a1 d1.S.length c1) := HD.out.cell 0
              have r1 : wc.cell? ⟨w1.heap.size, 1, none⟩ = some (.slice a2 d1.P.length c2) := HD.out.cell 1
              have r2 : wc.cell? ⟨w1.heap.size, 2, none⟩ = some (.int .i64 d1.fuse) := HD.out.cell 2
              have r3 : wc.cell? ⟨w1.heap.size, 3, none⟩ = some (.int .i64 d1.ops) := HD.out.cell 3
              have r4 : wc.cell? ⟨w1.heap.size, 4, none⟩ = some (.bool d1.dead) := HD.out.cell 4
              have x5 : wc.cell? ⟨w.heap.size, 5, none⟩ = some (.int .i64 o.g) := HX.out.cell 5
              have x6 : wc.cell? ⟨w.heap.size, 6, none⟩ = some (.int .i64 o.e) := HX.out.cell 6
              have x7 : wc.cell? ⟨w.heap.size, 7, none⟩ = some (.int .i64 o.a) := HX.out.cell 7
              have x8 : wc.cell? ⟨w.heap.size, 8, none⟩ = some (.int .i64 o.z) := HX.out.cell 8
              have x9 : wc.cell? ⟨w.heap.size, 9, none⟩ = some (.int .i64 o.p) := HX.out.cell 9
              go_wp2_with fail
              refine (SStore_any _ _ _ _ d1 o _ HT.out (by rw [HC1.out.p]; simp)).mono ?_
              rw [HQ.out]
              rintro e w3 ⟨a3, c3, a4, c4, rfl, hO3, hb1⟩
              clear r0 r1 r2 r3 r4 x5 x6 x7 x8 x9
              have HX := Lib.hid (HX.out.call hb1)
              have HD := Lib.hid (HD.out.call hb1)
              have HK := Lib.hid (HK.out.below (hb1.mono HB.out.size)); have HB := Lib.hid (btrans HB.out HB.out.size hb1); clear hb1
              have r0 : w3.cell? ⟨w1.heap.size, 0, none⟩ = some (.slice a1 d1.S.length c1) := HD.out.cell 0
              have r1 : w3.cell? ⟨w1.heap.size, 1, none⟩ = some (.slice a2 d1.P.length c2) := HD.out.cell 1
              have r2 : w3.cell? ⟨w1.heap.size, 2, none⟩ = some (.int .i64 d1.fuse) := HD.out.cell 2
              have r3 : w3.cell? ⟨w1.heap.size, 3, none⟩ = some (.int .i64 d1.ops) := HD.out.cell 3
              have r4 : w3.cell? ⟨w1.heap.size, 4, none⟩ = some (.bool d1.dead) := HD.out.cell 4
              have g0 := HD.out.free 0
              have g1 := HD.out.free 1
              have g2 := HD.out.free 2
              have g3 := HD.out.free 3
              have g4 := HD.out.free 4
              have HT := Lib.hid (hO3.lists (d := d2) (by rw [HC2.out.p]; simp) (by rw [HC2.out.s]; simp))
              clear hO3
              go_upto_region 10 with (fail)
              clear r0 r1 r2 r3 r4 g0 g1 g2 g3 g4
              have HT := Lib.hid (HT.out.sets_box HD.out (.slice a3 d2.S.length c3) (.slice a4 d2.P.length c4) (.int .i64 d2.fuse) (.int .i64 d2.ops) (.bool d2.dead)); have HX := Lib.hid (HX.out.sets_ne (c := w1.heap.size) (by omega) (.slice a3 d2.S.length c3) (.slice a4 d2.P.length c4) (.int .i64 d2.fuse) (.int .i64 d2.ops) (.bool d2.dead)); have HK := Lib.hid (HK.out.below (below_sets (Below.refl _ _) w1.heap.size (by omega) (.slice a3 d2.S.length c3) (.slice a4 d2.P.length c4) (.int .i64 d2.fuse) (.int .i64 d2.ops) (.bool d2.dead))); have HB := Lib.hid (below_sets HB.out w1.heap.size (by omega) (.slice a3 d2.S.length c3) (.slice a4 d2.P.length c4) (.int .i64 d2.fuse) (.int .i64 d2.ops) (.bool d2.dead)); have HD := Lib.hid (HD.out.sets (.slice a3 d2.S.length c3) (.slice a4 d2.P.length c4) (.int .i64 d2.fuse) (.int .i64 d2.ops) (.bool d2.dead))
              generalize hW : (((((w3.setCell ⟨w1.heap.size, 0, none⟩ (.slice a3 d2.S.length c3)).setCell ⟨w1.heap.size, 1, none⟩ (.slice a4 d2.P.length c4)).setCell ⟨w1.heap.size, 2, none⟩ (.int .i64 d2.fuse)).setCell ⟨w1.heap.size, 3, none⟩ (.int .i64 d2.ops)).setCell ⟨w1.heap.size, 4, none⟩ (.bool d2.dead)) = v4 at HX HB HK HT HD ⊢
              clear hW
              obtain ⟨af, e3, y, s1, s2, s3, s4, s5, s6, s7, s8⟩ := sur_plain HC2.out HO.out HN.out HG.out HD2.out (by rw [HG.out]; exact HS2.out) fu kb te
              have HQ1 := Lib.hid s1; have HQ2 := Lib.hid s2; have HQ3 := Lib.hid s3; have HQ4 := Lib.hid s4; have HQ5 := Lib.hid s5; have HAP := Lib.hid s6; have HAS := Lib.hid s7; have HCC := Lib.hid s8
              obtain ⟨df, hdf⟩ : ∃ df, fuseS d2 fu = df := ⟨_, rfl⟩
              rw [hdf] at s1
              have HQ1 := Lib.hid s1
              have fp : df.P.length ≤ 16 := by rw [← hdf]; unfold fuseS; split <;> simp [HC2.out.p]
              have fs : df.S.length ≤ 16 := by rw [← hdf]; unfold fuseS; split <;> simp [HC2.out.s]
              have HFP := Lib.hid fp; have HFS := Lib.hid fs
              have HDF := Lib.hid hdf; clear hdf fp fs s1 s2 s3 s4 s5 s6 s7 s8
              have x10 : v4.cell? ⟨w.heap.size, 10, none⟩ = some (.int .i64 n.g) := HX.out.cell 10
              have x11 : v4.cell? ⟨w.heap.size, 11, none⟩ = some (.int .i64 n.e) := HX.out.cell 11
              have x12 : v4.cell? ⟨w.heap.size, 12, none⟩ = some (.int .i64 n.a) := HX.out.cell 12
              have x13 : v4.cell? ⟨w.heap.size, 13, none⟩ = some (.int .i64 n.z) := HX.out.cell 13
              have x14 : v4.cell? ⟨w.heap.size, 14, none⟩ = some (.int .i64 n.p) := HX.out.cell 14
              have x15 : v4.cell? ⟨w.heap.size, 15, none⟩ = some (.int .i64 fu) := HX.out.cell 15
              have r0 : v4.cell? ⟨w1.heap.size, 0, none⟩ = some (.slice a3 d2.S.length c3) := HD.out.cell 0
              have r1 : v4.cell? ⟨w1.heap.size, 1, none⟩ = some (.slice a4 d2.P.length c4) := HD.out.cell 1
              have r2 : v4.cell? ⟨w1.heap.size, 2, none⟩ = some (.int .i64 d2.fuse) := HD.out.cell 2
              have r3 : v4.cell? ⟨w1.heap.size, 3, none⟩ = some (.int .i64 d2.ops) := HD.out.cell 3
              have r4 : v4.cell? ⟨w1.heap.size, 4, none⟩ = some (.bool d2.dead) := HD.out.cell 4
              have hs12 : v4.drew.cell? ⟨w1.heap.size, 0, none⟩ = some (.slice a3 d2.S.length c3) ∧ v4.drew.cell? ⟨w1.heap.size, 1, none⟩ = some (.slice a4 d2.P.length c4) ∧ v4.drew.cell? ⟨w1.heap.size, 2, none⟩ = some (.int .i64 d2.fuse) ∧ v4.drew.cell? ⟨w1.heap.size, 3, none⟩ = some (.int .i64 d2.ops) ∧ v4.drew.cell? ⟨w1.heap.size, 4, none⟩ = some (.bool d2.dead) ∧ v4.drew.cell? ⟨w.heap.size, 15, none⟩ = some (.int .i64 fu) ∧ v4.drew.cell? ⟨w.heap.size, 10, none⟩ = some (.int .i64 n.g) ∧ v4.drew.cell? ⟨w.heap.size, 11, none⟩ = some (.int .i64 n.e) ∧ v4.drew.cell? ⟨w.heap.size, 12, none⟩ = some (.int .i64 n.a) ∧ v4.drew.cell? ⟨w.heap.size, 13, none⟩ = some (.int .i64 n.z) ∧ v4.drew.cell? ⟨w.heap.size, 14, none⟩ = some (.int .i64 n.p) := ⟨r0, r1, r2, r3, r4, x15, x10, x11, x12, x13, x14⟩
              have HS12 := Lib.hid hs12; clear hs12 r0 r1 r2 r3 r4 x10 x11 x12 x13 x14 x15
              go_upto_region 12 with (fail)
              go_cut [7, 8] from 42 to 137 (fun s7 s8 W => ∃ bb a5 c5 a6 c6, s7 = .int .i64 e3 ∧ s8 = .pointer (some ⟨bb, 0, none⟩) ∧ Bx bb #[.slice a5 af.S.length c5, .slice a6 af.P.length c6, .int .i64 af.fuse, .int .i64 af.ops, .bool af.dead] 38 W ∧ Lists W a5 c5 a6 c6 af ∧ Below v4.heap.size v4 W)
              case first =>
                refine wp_region_held_drew (S := (fun w' => w'.cell? ⟨w1.heap.size, 0, none⟩ = some (.slice a3 d2.S.length c3) ∧ w'.cell? ⟨w1.heap.size, 1, none⟩ = some (.slice a4 d2.P.length c4) ∧ w'.cell? ⟨w1.heap.size, 2, none⟩ = some (.int .i64 d2.fuse) ∧ w'.cell? ⟨w1.heap.size, 3, none⟩ = some (.int .i64 d2.ops) ∧ w'.cell? ⟨w1.heap.size, 4, none⟩ = some (.bool d2.dead) ∧ w'.cell? ⟨w.heap.size, 15, none⟩ = some (.int .i64 fu) ∧ w'.cell? ⟨w.heap.size, 10, none⟩ = some (.int .i64 n.g) ∧ w'.cell? ⟨w.heap.size, 11, none⟩ = some (.int .i64 n.e) ∧ w'.cell? ⟨w.heap.size, 12, none⟩ = some (.int .i64 n.a) ∧ w'.cell? ⟨w.heap.size, 13, none⟩ = some (.int .i64 n.z) ∧ w'.cell? ⟨w.heap.size, 14, none⟩ = some (.int .i64 n.p))) (by kernel_rfl) ?_ (fun hHeld => ?_)
                · exact HS12.out
                refine takeH (i := 0) (v := ?vv1) 75 rfl rfl (by kernel_rfl) (by kernel_rfl) (by kernel_rfl) (fun _ _ _ h => h) (Or.inl ⟨by kernel_rfl, ?yy1⟩) (by assumption) ?_
                case yy1 => intro w hSw; (try dsimp only at hSw); go_simp; (try with_reducible rfl)
                simp only [List.setIfInBounds_toArray, List.set_cons_zero, List.set_cons_succ]
                refine takeH (i := 1) (v := ?vv2) 76 rfl rfl (by kernel_rfl) (by kernel_rfl) (by kernel_rfl) (fun _ _ _ h => h) (Or.inl ⟨by kernel_rfl, ?yy2⟩) (by assumption) ?_
                case yy2 => intro w hSw; (try dsimp only at hSw); go_simp; (try with_reducible rfl)
                simp only [List.setIfInBounds_toArray, List.set_cons_zero, List.set_cons_succ]
                refine takeH (i := 2) (v := ?vv3) 77 rfl rfl (by kernel_rfl) (by kernel_rfl) (by kernel_rfl) (fun _ _ _ h => h) (Or.inl ⟨by kernel_rfl, ?yy3⟩) (by assumption) ?_
                case yy3 => intro w hSw; (try dsimp only at hSw); go_simp; (try with_reducible rfl)
                simp only [List.setIfInBounds_toArray, List.set_cons_zero, List.set_cons_succ]
                refine takeH (i := 4) (v := ?vv4) 79 rfl rfl (by kernel_rfl) (by kernel_rfl) (by kernel_rfl) (fun _ _ _ h => h) (Or.inl ⟨by kernel_rfl, ?yy4⟩) (by assumption) ?_
                case yy4 => intro w hSw; (try dsimp only at hSw); go_simp; (try with_reducible rfl)
                simp only [List.setIfInBounds_toArray, List.set_cons_zero, List.set_cons_succ]
                refine takeH (i := 5) (v := ?vv5) 80 rfl rfl (by kernel_rfl) (by kernel_rfl) (by kernel_rfl) (fun _ _ _ h => h) (Or.inl ⟨by kernel_rfl, ?yy5⟩) (by assumption) ?_
                case yy5 => intro w hSw; (try dsimp only at hSw); go_simp; (try with_reducible rfl)
                simp only [List.setIfInBounds_toArray, List.set_cons_zero, List.set_cons_succ]
                refine wpAnyH_ready (rs := [3, 10]) (by kernel_rfl) (by simp) ?_
                refine (AllReadyH.cons rfl (fun K hK => ?_) (AllReadyH.cons rfl (fun K hK => ?_) AllReadyH.nil))
                · skip
                  go_simp
                  (refine (Fuse_any _ _ _ _ d2 fu _ (HT.out.below (Below.refl v4.heap.size v4).drew)).mono ?_; rw [HDF.out]; rintro e w5 ⟨a7, c7, a8, c8, rfl, hO5, hb5⟩)
                  (try go_wp2_with fail)
                  refine hK.out _ _ ?_ (fun hHeld => ?_)
                  · exact scells11_below hHeld hb5
                  clear hK K
                  (try simp only [Act.put, List.setIfInBounds_toArray, List.set_cons_zero, List.set_cons_succ])
                  refine wpAnyH_ready (rs := [6, 10]) (by kernel_rfl) (by simp) ?_
                  refine (AllReadyH.cons rfl (fun K hK => ?_) (AllReadyH.cons rfl (fun K hK => ?_) AllReadyH.nil))
                  · skip
                    go_simp
                    (refine (SStore_any _ _ _ _ df n _ (hO5.lists (d := df) (by have := HFP.out; omega) (by have := HFS.out; omega)) (by have := HFP.out; omega)).mono ?_; rw [HQ1.out]; rintro e w6 ⟨a5, c5, a6, c6, rfl, hO6, hb6⟩)
                    (try go_wp2_with fail)
                    refine hK.out _ _ ?_ (fun hHeld => ?_)
                    · exact scells11_below hHeld hb6
                    clear hK K
                    (try simp only [Act.put, List.setIfInBounds_toArray, List.set_cons_zero, List.set_cons_succ])
                    refine takeH (i := 7) (v := ?vv6) 74 rfl rfl (by kernel_rfl) (by kernel_rfl) (by kernel_rfl) (fun _ _ _ h => h) (Or.inl ⟨by kernel_rfl, ?yy6⟩) (by assumption) ?_
                    case yy6 => intro w hSw; (try dsimp only at hSw); go_simp; (try with_reducible rfl)
                    simp only [List.setIfInBounds_toArray, List.set_cons_zero, List.set_cons_succ]
                    refine takeH (i := 8) (v := ?vv7) 82 rfl rfl (by kernel_rfl) (by kernel_rfl) (by kernel_rfl) (fun _ _ _ h => h) (Or.inl ⟨by kernel_rfl, ?yy7⟩) (by assumption) ?_
                    case yy7 => intro w hSw; (try dsimp only at hSw); go_simp; (try with_reducible rfl)
                    simp only [List.setIfInBounds_toArray, List.set_cons_zero, List.set_cons_succ]
                    refine takeH (i := 9) (v := ?vv8) 83 rfl rfl (by kernel_rfl) (by kernel_rfl) (by kernel_rfl) (fun _ _ _ h => h) (Or.inl ⟨by kernel_rfl, ?yy8⟩) (by assumption) ?_
                    case yy8 => intro w hSw; (try dsimp only at hSw); go_simp; (try with_reducible rfl)
                    simp only [List.setIfInBounds_toArray, List.set_cons_zero, List.set_cons_succ]
                    refine wpAnyH_ready (rs := [10]) (by kernel_rfl) (by simp) ?_
                    refine (AllReadyH.cons rfl (fun K hK => ?_) AllReadyH.nil)
                    go_simp
                    skip
                    (try go_wp2_with fail)
                    refine hK.out _ _ ?_ (fun hHeld => ?_)
                    · exact scells11_below hHeld ((Below.refl _ _).alloc (Nat.le_refl _) _)
                    clear hK K
                    (try simp only [Act.put, List.setIfInBounds_toArray, List.set_cons_zero, List.set_cons_succ])
                    refine wpAnyH_ready (rs := [11]) (by kernel_rfl) (by simp) ?_
                    refine (AllReadyH.cons rfl (fun K hK => ?_) AllReadyH.nil)
                    go_simp
                    skip
                    (try go_wp2_with fail)
                    refine hK.out _ _ ?_ (fun hHeld => ?_)
                    · exact scells11_below (by assumption) (hb6.alloc hb6.size _)
                    clear hK K
                    (try simp only [Act.put, List.setIfInBounds_toArray, List.set_cons_zero, List.set_cons_succ])
                    refine takeH (i := 12) (v := ?vv9) 7 rfl rfl (by kernel_rfl) (by kernel_rfl) (by kernel_rfl) (fun _ _ _ h => h) (Or.inl ⟨by kernel_rfl, ?yy9⟩) (by assumption) ?_
                    case yy9 => intro w hSw; (try dsimp only at hSw); go_simp; (try with_reducible rfl)
                    simp only [List.setIfInBounds_toArray, List.set_cons_zero, List.set_cons_succ]
                    refine wpAnyH_done (by kernel_rfl) ?_ _
                    go_wp2_with fail
                    go_meet
                    exact ⟨_, _, _, _, _, rfl, rfl, Bx.new w6 _ _, ((hO6.alloc _).lists (d := af) (by have := HAP.out; omega) (by have := HAS.out; omega)), (btrans (btrans (Below.refl v4.heap.size v4).drew (Nat.le_refl _) hb5) (btrans (Below.refl v4.heap.size v4).drew (Nat.le_refl _) hb5).size hb6).alloc (btrans (btrans (Below.refl v4.heap.size v4).drew (Nat.le_refl _) hb5) (btrans (Below.refl v4.heap.size v4).drew (Nat.le_refl _) hb5).size hb6).size _⟩
                  · skip
                    go_simp
                    skip
                    (try go_wp2_with fail)
                    refine hK.out _ _ ?_ (fun hHeld => ?_)
                    · exact scells11_below hHeld ((Below.refl _ _).alloc (Nat.le_refl _) _)
                    clear hK K
                    (try simp only [Act.put, List.setIfInBounds_toArray, List.set_cons_zero, List.set_cons_succ])
                    refine wpAnyH_ready (rs := [6]) (by kernel_rfl) (by simp) ?_
                    refine (AllReadyH.cons rfl (fun K hK => ?_) AllReadyH.nil)
                    have HB5A := Lib.hid ((btrans (Below.refl v4.heap.size v4).drew (Nat.le_refl _) hb5).alloc (btrans (Below.refl v4.heap.size v4).drew (Nat.le_refl _) hb5).size (.cells #[.slice none 0 0, .slice none 0 0, .int .i64 0, .int .i64 0, .bool false] 38))
                    go_simp
                    (refine (SStore_any _ _ _ _ df n _ ((hO5.lists (d := df) (by have := HFP.out; omega) (by have := HFS.out; omega)).below ((Below.refl _ _).alloc (Nat.le_refl _) _)) (by have := HFP.out; omega)).mono ?_; rw [HQ1.out]; rintro e w6 ⟨a5, c5, a6, c6, rfl, hO6, hb6⟩)
                    (try go_wp2_with fail)
                    refine hK.out _ _ ?_ (fun hHeld => ?_)
                    · exact scells11_below hHeld hb6
                    clear hK K
                    (try simp only [Act.put, List.setIfInBounds_toArray, List.set_cons_zero, List.set_cons_succ])
                    have hBB : Bx w5.heap.size #[.slice none 0 0, .slice none 0 0, .int .i64 0, .int .i64 0, .bool false] 38 w6 := (Bx.new w5 _ _).call hb6
                    refine takeH (i := 7) (v := ?vv10) 74 rfl rfl (by kernel_rfl) (by kernel_rfl) (by kernel_rfl) (fun _ _ _ h => h) (Or.inl ⟨by kernel_rfl, ?yy10⟩) (by assumption) ?_
                    case yy10 => intro w hSw; (try dsimp only at hSw); go_simp; (try with_reducible rfl)
                    simp only [List.setIfInBounds_toArray, List.set_cons_zero, List.set_cons_succ]
                    refine takeH (i := 8) (v := ?vv11) 82 rfl rfl (by kernel_rfl) (by kernel_rfl) (by kernel_rfl) (fun _ _ _ h => h) (Or.inl ⟨by kernel_rfl, ?yy11⟩) (by assumption) ?_
                    case yy11 => intro w hSw; (try dsimp only at hSw); go_simp; (try with_reducible rfl)
                    simp only [List.setIfInBounds_toArray, List.set_cons_zero, List.set_cons_succ]
                    refine takeH (i := 9) (v := ?vv12) 83 rfl rfl (by kernel_rfl) (by kernel_rfl) (by kernel_rfl) (fun _ _ _ h => h) (Or.inl ⟨by kernel_rfl, ?yy12⟩) (by assumption) ?_
                    case yy12 => intro w hSw; (try dsimp only at hSw); go_simp; (try with_reducible rfl)
                    simp only [List.setIfInBounds_toArray, List.set_cons_zero, List.set_cons_succ]
                    refine wpAnyH_ready (rs := [11]) (by kernel_rfl) (by simp) ?_
                    refine (AllReadyH.cons rfl (fun K hK => ?_) AllReadyH.nil)
                    have r0 : w6.cell? ⟨w5.heap.size, 0, none⟩ = some (.slice none 0 0) := hBB.cell 0
                    have r1 : w6.cell? ⟨w5.heap.size, 1, none⟩ = some (.slice none 0 0) := hBB.cell 1
                    have r2 : w6.cell? ⟨w5.heap.size, 2, none⟩ = some (.int .i64 0) := hBB.cell 2
                    have r3 : w6.cell? ⟨w5.heap.size, 3, none⟩ = some (.int .i64 0) := hBB.cell 3
                    have r4 : w6.cell? ⟨w5.heap.size, 4, none⟩ = some (.bool false) := hBB.cell 4
                    have g0 := hBB.free 0
                    have g1 := hBB.free 1
                    have g2 := hBB.free 2
                    have g3 := hBB.free 3
                    have g4 := hBB.free 4
                    have zv4 : w1.heap.size < v4.heap.size := HD.out.lt
                    have zx4 : w.heap.size < v4.heap.size := HX.out.lt
                    have zv5 : v4.heap.size ≤ w5.heap.size := hb5.size
                    go_simp
                    skip
                    (try go_wp2_with fail)
                    refine hK.out _ _ ?_ (fun hHeld => ?_)
                    · exact scells11_sets (by assumption) (w5.heap.size) (by omega) (by omega) _ _ _ _ _
                    clear hK K
                    (try simp only [Act.put, List.setIfInBounds_toArray, List.set_cons_zero, List.set_cons_succ])
                    refine takeH (i := 12) (v := ?vv13) 7 rfl rfl (by kernel_rfl) (by kernel_rfl) (by kernel_rfl) (fun _ _ _ h => h) (Or.inl ⟨by kernel_rfl, ?yy13⟩) (by assumption) ?_
                    case yy13 => intro w hSw; (try dsimp only at hSw); go_simp; (try with_reducible rfl)
                    simp only [List.setIfInBounds_toArray, List.set_cons_zero, List.set_cons_succ]
                    refine wpAnyH_done (by kernel_rfl) ?_ _
                    go_wp2_with fail
                    go_meet
                    exact ⟨_, _, _, _, _, rfl, rfl, hBB.sets _ _ _ _ _, (((hO6.mono (B' := w5.heap.size + 1) (by first | omega | simp)).sets w5.heap.size (by omega) _ _ _ _ _).lists (d := af) (by have := HAP.out; omega) (by have := HAS.out; omega)), below_sets (btrans HB5A.out HB5A.out.size hb6) w5.heap.size (by omega) _ _ _ _ _⟩
                · skip
                  go_simp
                  skip
                  (try go_wp2_with fail)
                  refine hK.out _ _ ?_ (fun hHeld => ?_)
                  · exact scells11_below hHeld ((Below.refl _ _).alloc (Nat.le_refl _) _)
                  clear hK K
                  (try simp only [Act.put, List.setIfInBounds_toArray, List.set_cons_zero, List.set_cons_succ])
                  refine wpAnyH_ready (rs := [3]) (by kernel_rfl) (by simp) ?_
                  refine (AllReadyH.cons rfl (fun K hK => ?_) AllReadyH.nil)
                  have HBA := Lib.hid ((Below.refl v4.heap.size v4).drew.alloc (Nat.le_refl _) (.cells #[.slice none 0 0, .slice none 0 0, .int .i64 0, .int .i64 0, .bool false] 38))
                  go_simp
                  (refine (Fuse_any _ _ _ _ d2 fu _ (HT.out.below HBA.out)).mono ?_; rw [HDF.out]; rintro e w5 ⟨a7, c7, a8, c8, rfl, hO5, hb5⟩)
                  (try go_wp2_with fail)
                  refine hK.out _ _ ?_ (fun hHeld => ?_)
                  · exact scells11_below hHeld hb5
                  clear hK K
                  (try simp only [Act.put, List.setIfInBounds_toArray, List.set_cons_zero, List.set_cons_succ])
                  have HB5 := Lib.hid (btrans HBA.out HBA.out.size hb5)
                  have hBA : Bx v4.heap.size #[.slice none 0 0, .slice none 0 0, .int .i64 0, .int .i64 0, .bool false] 38 w5 := (Bx.new v4.drew _ _).call hb5
                  refine wpAnyH_ready (rs := [6]) (by kernel_rfl) (by simp) ?_
                  refine (AllReadyH.cons rfl (fun K hK => ?_) AllReadyH.nil)
                  go_simp
                  (refine (SStore_any _ _ _ _ df n _ (hO5.lists (d := df) (by have := HFP.out; omega) (by have := HFS.out; omega)) (by have := HFP.out; omega)).mono ?_; rw [HQ1.out]; rintro e w6 ⟨a5, c5, a6, c6, rfl, hO6, hb6⟩)
                  (try go_wp2_with fail)
                  refine hK.out _ _ ?_ (fun hHeld => ?_)
                  · exact scells11_below hHeld hb6
                  clear hK K
                  (try simp only [Act.put, List.setIfInBounds_toArray, List.set_cons_zero, List.set_cons_succ])
                  have hBB : Bx v4.heap.size #[.slice none 0 0, .slice none 0 0, .int .i64 0, .int .i64 0, .bool false] 38 w6 := hBA.call hb6
                  refine takeH (i := 7) (v := ?vv14) 74 rfl rfl (by kernel_rfl) (by kernel_rfl) (by kernel_rfl) (fun _ _ _ h => h) (Or.inl ⟨by kernel_rfl, ?yy14⟩) (by assumption) ?_
                  case yy14 => intro w hSw; (try dsimp only at hSw); go_simp; (try with_reducible rfl)
                  simp only [List.setIfInBounds_toArray, List.set_cons_zero, List.set_cons_succ]
                  refine takeH (i := 8) (v := ?vv15) 82 rfl rfl (by kernel_rfl) (by kernel_rfl) (by kernel_rfl) (fun _ _ _ h => h) (Or.inl ⟨by kernel_rfl, ?yy15⟩) (by assumption) ?_
                  case yy15 => intro w hSw; (try dsimp only at hSw); go_simp; (try with_reducible rfl)
                  simp only [List.setIfInBounds_toArray, List.set_cons_zero, List.set_cons_succ]
                  refine takeH (i := 9) (v := ?vv16) 83 rfl rfl (by kernel_rfl) (by kernel_rfl) (by kernel_rfl) (fun _ _ _ h => h) (Or.inl ⟨by kernel_rfl, ?yy16⟩) (by assumption) ?_
                  case yy16 => intro w hSw; (try dsimp only at hSw); go_simp; (try with_reducible rfl)
                  simp only [List.setIfInBounds_toArray, List.set_cons_zero, List.set_cons_succ]
                  refine wpAnyH_ready (rs := [11]) (by kernel_rfl) (by simp) ?_
                  refine (AllReadyH.cons rfl (fun K hK => ?_) AllReadyH.nil)
                  have r0 : w6.cell? ⟨v4.heap.size, 0, none⟩ = some (.slice none 0 0) := hBB.cell 0
                  have r1 : w6.cell? ⟨v4.heap.size, 1, none⟩ = some (.slice none 0 0) := hBB.cell 1
                  have r2 : w6.cell? ⟨v4.heap.size, 2, none⟩ = some (.int .i64 0) := hBB.cell 2
                  have r3 : w6.cell? ⟨v4.heap.size, 3, none⟩ = some (.int .i64 0) := hBB.cell 3
                  have r4 : w6.cell? ⟨v4.heap.size, 4, none⟩ = some (.bool false) := hBB.cell 4
                  have g0 := hBB.free 0
                  have g1 := hBB.free 1
                  have g2 := hBB.free 2
                  have g3 := hBB.free 3
                  have g4 := hBB.free 4
                  have zv4 : w1.heap.size < v4.heap.size := HD.out.lt
                  have zx4 : w.heap.size < v4.heap.size := HX.out.lt
                  have zv5 : v4.heap.size + 1 ≤ w5.heap.size := hBA.lt
                  go_simp
                  skip
                  (try go_wp2_with fail)
                  refine hK.out _ _ ?_ (fun hHeld => ?_)
                  · exact scells11_sets (by assumption) (v4.heap.size) (by omega) (by omega) _ _ _ _ _
                  clear hK K
                  (try simp only [Act.put, List.setIfInBounds_toArray, List.set_cons_zero, List.set_cons_succ])
                  refine takeH (i := 12) (v := ?vv17) 7 rfl rfl (by kernel_rfl) (by kernel_rfl) (by kernel_rfl) (fun _ _ _ h => h) (Or.inl ⟨by kernel_rfl, ?yy17⟩) (by assumption) ?_
                  case yy17 => intro w hSw; (try dsimp only at hSw); go_simp; (try with_reducible rfl)
                  simp only [List.setIfInBounds_toArray, List.set_cons_zero, List.set_cons_succ]
                  refine wpAnyH_done (by kernel_rfl) ?_ _
                  go_wp2_with fail
                  go_meet
                  exact ⟨_, _, _, _, _, rfl, rfl, hBB.sets _ _ _ _ _, (((hO6.mono (B' := v4.heap.size + 1) (by first | omega | simp)).sets v4.heap.size (by omega) _ _ _ _ _).lists (d := af) (by have := HAP.out; omega) (by have := HAS.out; omega)), below_sets (btrans HB5.out HB5.out.size hb6) v4.heap.size (Nat.le_refl _) _ _ _ _ _⟩
              case rest =>
                obtain ⟨bb, a5, c5, a6, c6, rfl, rfl, h1, h2, hbc⟩ := hcut
                have HN2 := Lib.hid h1; have HT := Lib.hid h2; clear h1 h2 HD HS12
                have HX := Lib.hid (HX.out.call hbc)
                have HK := Lib.hid (HK.out.below (hbc.mono HB.out.size)); have HB := Lib.hid (btrans HB.out HB.out.size hbc); clear hbc
                have hgo : (n.g == o.g) = false := by rw [beq_eq_false_iff_ne, HG.out]; omega
                obtain ⟨HYN, HYE⟩ : (e3 = 0 → y = n) ∧ (y = o ∨ y = n) := ⟨HQ4.out, HQ5.out⟩
                have HYN := Lib.hid HYN; have HYE := Lib.hid HYE
                rcases HQ2.out with ⟨he, hf⟩ | ⟨he, hf1, hf2⟩
                · subst he; obtain rfl := (HYN.out rfl).symm; clear HYN HYE HQ4 HQ5 HQ2
                  rcases hf with hf | hf
                  · have hf0 : fu < 1 := hf
                    have r0 : wc.cell? ⟨bb, 0, none⟩ = some (.slice a5 af.S.length c5) := HN2.out.cell 0
                    have r1 : wc.cell? ⟨bb, 1, none⟩ = some (.slice a6 af.P.length c6) := HN2.out.cell 1
                    have r2 : wc.cell? ⟨bb, 2, none⟩ = some (.int .i64 af.fuse) := HN2.out.cell 2
                    have r3 : wc.cell? ⟨bb, 3, none⟩ = some (.int .i64 af.ops) := HN2.out.cell 3
                    have r4 : wc.cell? ⟨bb, 4, none⟩ = some (.bool af.dead) := HN2.out.cell 4
                    have x15 : wc.cell? ⟨w.heap.size, 15, none⟩ = some (.int .i64 fu) := HX.out.cell 15
                    have x16 : wc.cell? ⟨w.heap.size, 16, none⟩ = some (.slice ka kb.length kc) := HX.out.cell 16
                    have x17 : wc.cell? ⟨w.heap.size, 17, none⟩ = some (.int .i64 te) := HX.out.cell 17
                    go_wp2_with fail
                    refine (Crash_any _ _ _ _ _ _ af kb te _ HT.out (HK.out.mono HB.out.size)).mono ?_
                    rintro e w7 ⟨a7, c7, a8, c8, rfl, hO7, hb7⟩
                    clear r0 r1 r2 r3 r4 x15 x16 x17
                    have HT7 := Lib.hid (hO7.lists (d := crashD af kb te) (by rw [HCC.out.p]; simp) (by rw [HCC.out.s]; simp)); clear hO7
                    have HX := Lib.hid (HX.out.call hb7); have HB := Lib.hid (btrans HB.out HB.out.size hb7); clear hb7 HK HT HN2
                    go_wp2_with fail
                    refine (SLoad_any _ _ _ _ (crashD af kb te) _ HT7.out).mono ?_
                    rw [HQ3.out]
                    simp only [spV]
                    rintro e w8 ⟨rfl, hb8⟩
                    have HX := Lib.hid (HX.out.call hb8); have HB := Lib.hid (btrans HB.out HB.out.size hb8); clear hb8 HT7
                    have hal := (Below.refl w8.heap.size w8).alloc (Nat.le_refl _) (.cells #[.int .i64 n.g, .int .i64 n.e, .int .i64 n.a, .int .i64 n.z, .int .i64 n.p] 23)
                    have HY := Lib.hid (Bx.new w8 #[.int .i64 n.g, .int .i64 n.e, .int .i64 n.a, .int .i64 n.z, .int .i64 n.p] 23); have HX := Lib.hid (HX.out.call hal); have HB := Lib.hid (btrans HB.out HB.out.size hal); clear hal
                    go_upto_region 16 with (fail)
                    generalize hW : w8.alloc (.cells #[.int .i64 n.g, .int .i64 n.e, .int .i64 n.a, .int .i64 n.z, .int .i64 n.p] 23) = v9 at HX HB HY ⊢
                    clear hW
                    have r0 : v9.cell? ⟨w8.heap.size, 0, none⟩ = some (.int .i64 n.g) := HY.out.cell 0
                    have r1 : v9.cell? ⟨w8.heap.size, 1, none⟩ = some (.int .i64 n.e) := HY.out.cell 1
                    have r2 : v9.cell? ⟨w8.heap.size, 2, none⟩ = some (.int .i64 n.a) := HY.out.cell 2
                    have r3 : v9.cell? ⟨w8.heap.size, 3, none⟩ = some (.int .i64 n.z) := HY.out.cell 3
                    have r4 : v9.cell? ⟨w8.heap.size, 4, none⟩ = some (.int .i64 n.p) := HY.out.cell 4
                    have x5 : v9.cell? ⟨w.heap.size, 5, none⟩ = some (.int .i64 o.g) := HX.out.cell 5
                    have x6 : v9.cell? ⟨w.heap.size, 6, none⟩ = some (.int .i64 o.e) := HX.out.cell 6
                    have x7 : v9.cell? ⟨w.heap.size, 7, none⟩ = some (.int .i64 o.a) := HX.out.cell 7
                    have x8 : v9.cell? ⟨w.heap.size, 8, none⟩ = some (.int .i64 o.z) := HX.out.cell 8
                    have x9 : v9.cell? ⟨w.heap.size, 9, none⟩ = some (.int .i64 o.p) := HX.out.cell 9
                    have x10 : v9.cell? ⟨w.heap.size, 10, none⟩ = some (.int .i64 n.g) := HX.out.cell 10
                    have x11 : v9.cell? ⟨w.heap.size, 11, none⟩ = some (.int .i64 n.e) := HX.out.cell 11
                    have x12 : v9.cell? ⟨w.heap.size, 12, none⟩ = some (.int .i64 n.a) := HX.out.cell 12
                    have x13 : v9.cell? ⟨w.heap.size, 13, none⟩ = some (.int .i64 n.z) := HX.out.cell 13
                    have x14 : v9.cell? ⟨w.heap.size, 14, none⟩ = some (.int .i64 n.p) := HX.out.cell 14
                    go_wp2_with fail
                    refine (works_any _).mono ?_
                    rintro e wz ⟨rfl, hbz⟩
                    have HZ := Lib.hid hbz; clear hbz
                    go_wp2_with fail
                    go_ret
                    exact ⟨rfl, btrans HB.out HB.out.size HZ.out⟩
                  · have hf0 : ¬ fu < 1 := by omega
                    have hf3 : 2 < fu := hf
                    have r0 : wc.cell? ⟨bb, 0, none⟩ = some (.slice a5 af.S.length c5) := HN2.out.cell 0
                    have r1 : wc.cell? ⟨bb, 1, none⟩ = some (.slice a6 af.P.length c6) := HN2.out.cell 1
                    have r2 : wc.cell? ⟨bb, 2, none⟩ = some (.int .i64 af.fuse) := HN2.out.cell 2
                    have r3 : wc.cell? ⟨bb, 3, none⟩ = some (.int .i64 af.ops) := HN2.out.cell 3
                    have r4 : wc.cell? ⟨bb, 4, none⟩ = some (.bool af.dead) := HN2.out.cell 4
                    have x15 : wc.cell? ⟨w.heap.size, 15, none⟩ = some (.int .i64 fu) := HX.out.cell 15
                    have x16 : wc.cell? ⟨w.heap.size, 16, none⟩ = some (.slice ka kb.length kc) := HX.out.cell 16
                    have x17 : wc.cell? ⟨w.heap.size, 17, none⟩ = some (.int .i64 te) := HX.out.cell 17
                    go_wp2_with fail
                    refine (Crash_any _ _ _ _ _ _ af kb te _ HT.out (HK.out.mono HB.out.size)).mono ?_
                    rintro e w7 ⟨a7, c7, a8, c8, rfl, hO7, hb7⟩
                    clear r0 r1 r2 r3 r4 x15 x16 x17
                    have HT7 := Lib.hid (hO7.lists (d := crashD af kb te) (by rw [HCC.out.p]; simp) (by rw [HCC.out.s]; simp)); clear hO7
                    have HX := Lib.hid (HX.out.call hb7); have HB := Lib.hid (btrans HB.out HB.out.size hb7); clear hb7 HK HT HN2
                    go_wp2_with fail
                    refine (SLoad_any _ _ _ _ (crashD af kb te) _ HT7.out).mono ?_
                    rw [HQ3.out]
                    simp only [spV]
                    rintro e w8 ⟨rfl, hb8⟩
                    have HX := Lib.hid (HX.out.call hb8); have HB := Lib.hid (btrans HB.out HB.out.size hb8); clear hb8 HT7
                    have hal := (Below.refl w8.heap.size w8).alloc (Nat.le_refl _) (.cells #[.int .i64 n.g, .int .i64 n.e, .int .i64 n.a, .int .i64 n.z, .int .i64 n.p] 23)
                    have HY := Lib.hid (Bx.new w8 #[.int .i64 n.g, .int .i64 n.e, .int .i64 n.a, .int .i64 n.z, .int .i64 n.p] 23); have HX := Lib.hid (HX.out.call hal); have HB := Lib.hid (btrans HB.out HB.out.size hal); clear hal
                    go_upto_region 16 with (fail)
                    generalize hW : w8.alloc (.cells #[.int .i64 n.g, .int .i64 n.e, .int .i64 n.a, .int .i64 n.z, .int .i64 n.p] 23) = v9 at HX HB HY ⊢
                    clear hW
                    have r0 : v9.cell? ⟨w8.heap.size, 0, none⟩ = some (.int .i64 n.g) := HY.out.cell 0
                    have r1 : v9.cell? ⟨w8.heap.size, 1, none⟩ = some (.int .i64 n.e) := HY.out.cell 1
                    have r2 : v9.cell? ⟨w8.heap.size, 2, none⟩ = some (.int .i64 n.a) := HY.out.cell 2
                    have r3 : v9.cell? ⟨w8.heap.size, 3, none⟩ = some (.int .i64 n.z) := HY.out.cell 3
                    have r4 : v9.cell? ⟨w8.heap.size, 4, none⟩ = some (.int .i64 n.p) := HY.out.cell 4
                    have x5 : v9.cell? ⟨w.heap.size, 5, none⟩ = some (.int .i64 o.g) := HX.out.cell 5
                    have x6 : v9.cell? ⟨w.heap.size, 6, none⟩ = some (.int .i64 o.e) := HX.out.cell 6
                    have x7 : v9.cell? ⟨w.heap.size, 7, none⟩ = some (.int .i64 o.a) := HX.out.cell 7
                    have x8 : v9.cell? ⟨w.heap.size, 8, none⟩ = some (.int .i64 o.z) := HX.out.cell 8
                    have x9 : v9.cell? ⟨w.heap.size, 9, none⟩ = some (.int .i64 o.p) := HX.out.cell 9
                    have x10 : v9.cell? ⟨w.heap.size, 10, none⟩ = some (.int .i64 n.g) := HX.out.cell 10
                    have x11 : v9.cell? ⟨w.heap.size, 11, none⟩ = some (.int .i64 n.e) := HX.out.cell 11
                    have x12 : v9.cell? ⟨w.heap.size, 12, none⟩ = some (.int .i64 n.a) := HX.out.cell 12
                    have x13 : v9.cell? ⟨w.heap.size, 13, none⟩ = some (.int .i64 n.z) := HX.out.cell 13
                    have x14 : v9.cell? ⟨w.heap.size, 14, none⟩ = some (.int .i64 n.p) := HX.out.cell 14
                    go_wp2_with fail
                    refine (works_any _).mono ?_
                    rintro e wz ⟨rfl, hbz⟩
                    have HZ := Lib.hid hbz; clear hbz
                    go_wp2_with fail
                    go_ret
                    exact ⟨rfl, btrans HB.out HB.out.size HZ.out⟩
                · subst he; clear HYN HQ4 HQ5 HQ2
                  have hf0 : ¬ fu < 1 := by omega
                  have hf3 : ¬ 2 < fu := by omega
                  rcases HYE.out with hy | hy
                  · obtain rfl := hy.symm
                    clear HYE
                    have r0 : wc.cell? ⟨bb, 0, none⟩ = some (.slice a5 af.S.length c5) := HN2.out.cell 0
                    have r1 : wc.cell? ⟨bb, 1, none⟩ = some (.slice a6 af.P.length c6) := HN2.out.cell 1
                    have r2 : wc.cell? ⟨bb, 2, none⟩ = some (.int .i64 af.fuse) := HN2.out.cell 2
                    have r3 : wc.cell? ⟨bb, 3, none⟩ = some (.int .i64 af.ops) := HN2.out.cell 3
                    have r4 : wc.cell? ⟨bb, 4, none⟩ = some (.bool af.dead) := HN2.out.cell 4
                    have x15 : wc.cell? ⟨w.heap.size, 15, none⟩ = some (.int .i64 fu) := HX.out.cell 15
                    have x16 : wc.cell? ⟨w.heap.size, 16, none⟩ = some (.slice ka kb.length kc) := HX.out.cell 16
                    have x17 : wc.cell? ⟨w.heap.size, 17, none⟩ = some (.int .i64 te) := HX.out.cell 17
                    go_wp2_with fail
                    refine (Crash_any _ _ _ _ _ _ af kb te _ HT.out (HK.out.mono HB.out.size)).mono ?_
                    rintro e w7 ⟨a7, c7, a8, c8, rfl, hO7, hb7⟩
                    clear r0 r1 r2 r3 r4 x15 x16 x17
                    have HT7 := Lib.hid (hO7.lists (d := crashD af kb te) (by rw [HCC.out.p]; simp) (by rw [HCC.out.s]; simp)); clear hO7
                    have HX := Lib.hid (HX.out.call hb7); have HB := Lib.hid (btrans HB.out HB.out.size hb7); clear hb7 HK HT HN2
                    go_wp2_with fail
                    refine (SLoad_any _ _ _ _ (crashD af kb te) _ HT7.out).mono ?_
                    rw [HQ3.out]
                    simp only [spV]
                    rintro e w8 ⟨rfl, hb8⟩
                    have HX := Lib.hid (HX.out.call hb8); have HB := Lib.hid (btrans HB.out HB.out.size hb8); clear hb8 HT7
                    have hal := (Below.refl w8.heap.size w8).alloc (Nat.le_refl _) (.cells #[.int .i64 o.g, .int .i64 o.e, .int .i64 o.a, .int .i64 o.z, .int .i64 o.p] 23)
                    have HY := Lib.hid (Bx.new w8 #[.int .i64 o.g, .int .i64 o.e, .int .i64 o.a, .int .i64 o.z, .int .i64 o.p] 23); have HX := Lib.hid (HX.out.call hal); have HB := Lib.hid (btrans HB.out HB.out.size hal); clear hal
                    go_upto_region 16 with (fail)
                    generalize hW : w8.alloc (.cells #[.int .i64 o.g, .int .i64 o.e, .int .i64 o.a, .int .i64 o.z, .int .i64 o.p] 23) = v9 at HX HB HY ⊢
                    clear hW
                    have r0 : v9.cell? ⟨w8.heap.size, 0, none⟩ = some (.int .i64 o.g) := HY.out.cell 0
                    have r1 : v9.cell? ⟨w8.heap.size, 1, none⟩ = some (.int .i64 o.e) := HY.out.cell 1
                    have r2 : v9.cell? ⟨w8.heap.size, 2, none⟩ = some (.int .i64 o.a) := HY.out.cell 2
                    have r3 : v9.cell? ⟨w8.heap.size, 3, none⟩ = some (.int .i64 o.z) := HY.out.cell 3
                    have r4 : v9.cell? ⟨w8.heap.size, 4, none⟩ = some (.int .i64 o.p) := HY.out.cell 4
                    have x5 : v9.cell? ⟨w.heap.size, 5, none⟩ = some (.int .i64 o.g) := HX.out.cell 5
                    have x6 : v9.cell? ⟨w.heap.size, 6, none⟩ = some (.int .i64 o.e) := HX.out.cell 6
                    have x7 : v9.cell? ⟨w.heap.size, 7, none⟩ = some (.int .i64 o.a) := HX.out.cell 7
                    have x8 : v9.cell? ⟨w.heap.size, 8, none⟩ = some (.int .i64 o.z) := HX.out.cell 8
                    have x9 : v9.cell? ⟨w.heap.size, 9, none⟩ = some (.int .i64 o.p) := HX.out.cell 9
                    have x10 : v9.cell? ⟨w.heap.size, 10, none⟩ = some (.int .i64 n.g) := HX.out.cell 10
                    have x11 : v9.cell? ⟨w.heap.size, 11, none⟩ = some (.int .i64 n.e) := HX.out.cell 11
                    have x12 : v9.cell? ⟨w.heap.size, 12, none⟩ = some (.int .i64 n.a) := HX.out.cell 12
                    have x13 : v9.cell? ⟨w.heap.size, 13, none⟩ = some (.int .i64 n.z) := HX.out.cell 13
                    have x14 : v9.cell? ⟨w.heap.size, 14, none⟩ = some (.int .i64 n.p) := HX.out.cell 14
                    go_wp2_with fail
                    refine (works_any _).mono ?_
                    rintro e wz ⟨rfl, hbz⟩
                    have HZ := Lib.hid hbz; clear hbz
                    go_wp2_with fail
                    go_ret
                    exact ⟨rfl, btrans HB.out HB.out.size HZ.out⟩
                  · obtain rfl := hy.symm
                    clear HYE
                    have r0 : wc.cell? ⟨bb, 0, none⟩ = some (.slice a5 af.S.length c5) := HN2.out.cell 0
                    have r1 : wc.cell? ⟨bb, 1, none⟩ = some (.slice a6 af.P.length c6) := HN2.out.cell 1
                    have r2 : wc.cell? ⟨bb, 2, none⟩ = some (.int .i64 af.fuse) := HN2.out.cell 2
                    have r3 : wc.cell? ⟨bb, 3, none⟩ = some (.int .i64 af.ops) := HN2.out.cell 3
                    have r4 : wc.cell? ⟨bb, 4, none⟩ = some (.bool af.dead) := HN2.out.cell 4
                    have x15 : wc.cell? ⟨w.heap.size, 15, none⟩ = some (.int .i64 fu) := HX.out.cell 15
                    have x16 : wc.cell? ⟨w.heap.size, 16, none⟩ = some (.slice ka kb.length kc) := HX.out.cell 16
                    have x17 : wc.cell? ⟨w.heap.size, 17, none⟩ = some (.int .i64 te) := HX.out.cell 17
                    go_wp2_with fail
                    refine (Crash_any _ _ _ _ _ _ af kb te _ HT.out (HK.out.mono HB.out.size)).mono ?_
                    rintro e w7 ⟨a7, c7, a8, c8, rfl, hO7, hb7⟩
                    clear r0 r1 r2 r3 r4 x15 x16 x17
                    have HT7 := Lib.hid (hO7.lists (d := crashD af kb te) (by rw [HCC.out.p]; simp) (by rw [HCC.out.s]; simp)); clear hO7
                    have HX := Lib.hid (HX.out.call hb7); have HB := Lib.hid (btrans HB.out HB.out.size hb7); clear hb7 HK HT HN2
                    go_wp2_with fail
                    refine (SLoad_any _ _ _ _ (crashD af kb te) _ HT7.out).mono ?_
                    rw [HQ3.out]
                    simp only [spV]
                    rintro e w8 ⟨rfl, hb8⟩
                    have HX := Lib.hid (HX.out.call hb8); have HB := Lib.hid (btrans HB.out HB.out.size hb8); clear hb8 HT7
                    have hal := (Below.refl w8.heap.size w8).alloc (Nat.le_refl _) (.cells #[.int .i64 n.g, .int .i64 n.e, .int .i64 n.a, .int .i64 n.z, .int .i64 n.p] 23)
                    have HY := Lib.hid (Bx.new w8 #[.int .i64 n.g, .int .i64 n.e, .int .i64 n.a, .int .i64 n.z, .int .i64 n.p] 23); have HX := Lib.hid (HX.out.call hal); have HB := Lib.hid (btrans HB.out HB.out.size hal); clear hal
                    go_upto_region 16 with (fail)
                    generalize hW : w8.alloc (.cells #[.int .i64 n.g, .int .i64 n.e, .int .i64 n.a, .int .i64 n.z, .int .i64 n.p] 23) = v9 at HX HB HY ⊢
                    clear hW
                    have r0 : v9.cell? ⟨w8.heap.size, 0, none⟩ = some (.int .i64 n.g) := HY.out.cell 0
                    have r1 : v9.cell? ⟨w8.heap.size, 1, none⟩ = some (.int .i64 n.e) := HY.out.cell 1
                    have r2 : v9.cell? ⟨w8.heap.size, 2, none⟩ = some (.int .i64 n.a) := HY.out.cell 2
                    have r3 : v9.cell? ⟨w8.heap.size, 3, none⟩ = some (.int .i64 n.z) := HY.out.cell 3
                    have r4 : v9.cell? ⟨w8.heap.size, 4, none⟩ = some (.int .i64 n.p) := HY.out.cell 4
                    have x5 : v9.cell? ⟨w.heap.size, 5, none⟩ = some (.int .i64 o.g) := HX.out.cell 5
                    have x6 : v9.cell? ⟨w.heap.size, 6, none⟩ = some (.int .i64 o.e) := HX.out.cell 6
                    have x7 : v9.cell? ⟨w.heap.size, 7, none⟩ = some (.int .i64 o.a) := HX.out.cell 7
                    have x8 : v9.cell? ⟨w.heap.size, 8, none⟩ = some (.int .i64 o.z) := HX.out.cell 8
                    have x9 : v9.cell? ⟨w.heap.size, 9, none⟩ = some (.int .i64 o.p) := HX.out.cell 9
                    have x10 : v9.cell? ⟨w.heap.size, 10, none⟩ = some (.int .i64 n.g) := HX.out.cell 10
                    have x11 : v9.cell? ⟨w.heap.size, 11, none⟩ = some (.int .i64 n.e) := HX.out.cell 11
                    have x12 : v9.cell? ⟨w.heap.size, 12, none⟩ = some (.int .i64 n.a) := HX.out.cell 12
                    have x13 : v9.cell? ⟨w.heap.size, 13, none⟩ = some (.int .i64 n.z) := HX.out.cell 13
                    have x14 : v9.cell? ⟨w.heap.size, 14, none⟩ = some (.int .i64 n.p) := HX.out.cell 14
                    go_wp2_with fail
                    refine (works_any _).mono ?_
                    rintro e wz ⟨rfl, hbz⟩
                    have HZ := Lib.hid hbz; clear hbz
                    go_wp2_with fail
                    go_ret
                    exact ⟨rfl, btrans HB.out HB.out.size HZ.out⟩
      · have tg : (n.g != o.g + 1) = true := by rw [bne_iff_ne]; exact hg
        go_wp2_with fail
        refine (works_any _).mono ?_
        rintro e wz ⟨rfl, hbz⟩
        have HZ := Lib.hid hbz; clear hbz
        go_wp2_with fail
        go_ret
        exact ⟨rfl, btrans HB.out HB.out.size HZ.out⟩
theorem survivesLaw (b o n : Sp) (fu : Int) (ka : Option Addr) (kc : Nat) (kb : List Bool) (te : Int) {w0 : World} (hK : BoS w0.heap.size w0 (.slice ka kb.length kc) kb) (w : World) (hw : w0 = w := by rfl) :
    Calls Try.prog 9 #[.agg #[.int .i64 b.g, .int .i64 b.e, .int .i64 b.a, .int .i64 b.z, .int .i64 b.p, .int .i64 o.g, .int .i64 o.e, .int .i64 o.a, .int .i64 o.z, .int .i64 o.p, .int .i64 n.g, .int .i64 n.e, .int .i64 n.a, .int .i64 n.z, .int .i64 n.p, .int .i64 fu, .slice ka kb.length kc, .int .i64 te]] w fun e w' => e = .returned (.bool true) ∧ Below w.heap.size w w' := by
  subst hw; exact survivesWalk b o n fu ka kc kb te w0 hK
end Go.Proofs.Ytkpfkknldeafkaa

