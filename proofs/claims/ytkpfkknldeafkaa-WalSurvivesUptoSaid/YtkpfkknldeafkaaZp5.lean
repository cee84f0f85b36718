/- What the claim needs of: WalPb, WalPc, WalPd, WalPe, WalPf, WalHa, WalHb, WalAc, WalDo, WalBx, WalUp. No conditions. -/
import Derived.Test.YtkpfkknldeafkaaZp4
import Derived.Test.YtkpfkknldeafkaaRows
import Derived.WalkKit
import Derived.WalkSpells
import Derived.WalkLawsBesides
import Derived.Lib.SlBytesRow
import Derived.Lib.Hide
import Derived.Laws.Bits64
import Derived.Laws.CopyOwn
import Derived.Lib.BufferWrite
import Derived.Deep.RegionLaw
import Derived.Deep.DeepCutAuto
import Derived.ChangeAlike
import Derived.RegionTactic
import Derived.Deep.RegionHeld3
import Derived.Laws.ResultCell
import Derived.RangeFuncNested
import Derived.RangeFuncBound
import Derived.RangeFuncCalls
import Derived.RangeFuncLeaves
import Derived.Shelf.Abstract
import Derived.Shelf.RegionOpen
import Derived.OwnWalkIn
import Derived.TacticsInMore
import Derived.LoopNIn
import Derived.LoopIn
import Derived.Laws.AppendOwnNone
import Derived.Deep.DeepAppendWide
import Derived.Laws.OwnMore
import Derived.Deep.AppendLies
import Derived.Outline
import Derived.Shelf.Bits.Mul64
import Derived.OrdersIn
import Derived.TacticsIn
import Derived.Deep.QuietTactic
import Derived.BigQuiet
import Derived.Deep.Cut
import Derived.Deep.CutRange
import Derived.ProofKit
import Derived.OpenShut
import Derived.Lib.SmallJoins
import Derived.SliceStrings
import Derived.Deep.Slices
import Derived.SizedLaws
import Derived.ArgAppend
import Derived.Lib.AppendStr
import Derived.Tactics
import Derived.Tactics2
import Derived.Defers
import Derived.Recover
import Derived.Laws.Pointers
namespace Go.Proofs.Ytkpfkknldeafkaa
open Go.RowKit

/-- a valid disk of n sectors without pending writes, alive -/
structure Qt (n : Nat) (d : Dk) : Prop where
  v : validB d = true
  s : d.S.length = n
  p : d.P = []
  a : d.dead = false
theorem qt_len {n : Nat} {d : Dk} (h : Qt n d) : 16 ≤ n ∧ n ≤ 1024 := by have := valid_len h.v; rw [h.s] at this; exact this
theorem qt_read {n : Nat} {d : Dk} (h : Qt n d) (k : Nat) (hk : k < n) : readS d k = (d.S.getD k [], 0) := by
  unfold readS
  rw [if_pos ⟨h.v, by unfold hasB; rw [h.s]; simp; omega⟩, h.a, if_neg (by decide), h.p]
  rfl
theorem qt_reg {n : Nat} {d : Dk} (h : Qt n d) (f m : Nat) (hf : f + m ≤ n) : regS d (f : Int) m = (d.S.drop f).take m := by
  have hs := h.s
  apply List.ext_getElem
  · rw [regS_length, List.length_take, List.length_drop]; omega
  · intro i h1 h2
    rw [regS_length] at h1
    have eg : (regS d (f : Int) m)[i] = (readS d ((f : Int) + (i : Int))).1 := by simp [regS]
    rw [eg, List.getElem_take, List.getElem_drop]
    have e : (f : Int) + (i : Int) = ((f + i : Nat) : Int) := by omega
    rw [e, qt_read h (f + i) (by omega), List.getD_eq_getElem?_getD, List.getElem?_eq_getElem (by omega)]
    rfl
theorem getD_at {L : List (List UInt8)} {i : Nat} (h : i < L.length) : L.getD i [] = L[i] := by rw [List.getD_eq_getElem?_getD, List.getElem?_eq_getElem h]; rfl
theorem reg_congr {S S' : List (List UInt8)} {f m : Nat} (hl : S.length = S'.length) (h : ∀ k, f ≤ k → k < f + m → S.getD k [] = S'.getD k []) : (S.drop f).take m = (S'.drop f).take m := by
  apply List.ext_getElem
  · rw [List.length_take, List.length_drop, List.length_take, List.length_drop, hl]
  · intro i h1 h2
    rw [List.length_take, List.length_drop] at h1 h2
    rw [List.getElem_take, List.getElem_drop, List.getElem_take, List.getElem_drop]
    have := h (f + i) (by omega) (by omega)
    rw [getD_at (by omega), getD_at (by omega)] at this
    exact this

/-- the writes of sectors from f on -/
def wl : Nat → List (List UInt8) → List (Int × List UInt8)
  | _, [] => []
  | f, s :: r => ((f : Int), s) :: wl (f + 1) r
theorem wl_mem : ∀ (L : List (List UInt8)) (f : Nat) (x : Int × List UInt8), x ∈ wl f L → (f : Int) ≤ x.1 ∧ x.1 < (f : Int) + L.length ∧ x.2 ∈ L
  | [], _, _, h => by simp [wl] at h
  | s :: r, f, x, h => by
    unfold wl at h
    rcases List.mem_cons.1 h with h | h
    · subst h; simp; omega
    · obtain ⟨h1, h2, h3⟩ := wl_mem r (f + 1) x h
      refine ⟨by omega, by simp only [List.length_cons]; omega, by simp [h3]⟩
theorem wl_get : ∀ (L : List (List UInt8)) (f i : Nat) (h : i < (wl f L).length), ((wl f L)[i].1 = ((f + i : Nat) : Int)) ∧ (wl f L)[i].2 = L.getD i []
  | [], _, i, h => by simp [wl] at h
  | s :: r, f, 0, h => ⟨rfl, rfl⟩
  | s :: r, f, i + 1, h => by
    have hh : i < (wl (f + 1) r).length := by unfold wl at h; simpa using h
    obtain ⟨h1, h2⟩ := wl_get r (f + 1) i hh
    refine ⟨?_, ?_⟩
    · show (wl (f + 1) r)[i].1 = _; rw [h1]; omega
    · show (wl (f + 1) r)[i].2 = _; rw [h2]; rfl
theorem wl_length : ∀ (L : List (List UInt8)) (f : Nat), (wl f L).length = L.length
  | [], _ => rfl
  | _ :: r, f => by unfold wl; rw [List.length_cons, wl_length r, List.length_cons]
theorem wl_last : ∀ (L : List (List UInt8)) (f k : Nat) (s : List UInt8), lastW s (wl f L) k = if f ≤ k ∧ k < f + L.length then L.getD (k - f) [] else s
  | [], f, k, s => by rw [if_neg (by simp)]; rfl
  | t :: r, f, k, s => by
    have e : lastW s (wl f (t :: r)) k = lastW (if (f : Int) = (k : Int) then t else s) (wl (f + 1) r) k := rfl
    rw [e, wl_last r (f + 1) k]
    simp only [List.length_cons]
    by_cases h1 : f = k
    · subst h1
      rw [if_neg (by omega), if_pos rfl, if_pos (by omega), Nat.sub_self]; rfl
    · by_cases h2 : f + 1 ≤ k ∧ k < f + 1 + r.length
      · rw [if_pos h2, if_pos (by omega), show k - f = (k - (f + 1)) + 1 by omega]; rfl
      · rw [if_neg h2, if_neg (by omega), if_neg (by omega)]
/-- sectors of S replaced from f on -/
def Put (S : List (List UInt8)) (f : Nat) (L : List (List UInt8)) (S2 : List (List UInt8)) : Prop :=
  S2.length = S.length ∧ ∀ k, k < S.length → S2.getD k [] = if f ≤ k ∧ k < f + L.length then L.getD (k - f) [] else S.getD k []
theorem put_perform {S : List (List UInt8)} {f : Nat} {L : List (List UInt8)} (h : f + L.length ≤ S.length) : Put S f L (perform S (wl f L)) := by
  refine ⟨perform_len _ _, fun k hk => ?_⟩
  rw [perform_get (wl f L) S k hk (fun x hx => by obtain ⟨h1, h2, _⟩ := wl_mem L f x hx; omega), wl_last]

theorem sync64 {P : List (Int × List UInt8)} {S : List (List UInt8)} (hP : ∀ x ∈ P, x.2.length = 64) (hS : ∀ s ∈ S, s.length = 64) : ∀ s ∈ perform S P, s.length = 64 := by
  induction P generalizing S with
  | nil => exact hS
  | cons x r ih =>
    refine ih (S := S.set x.1.toNat x.2) (fun y hy => hP y (by simp [hy])) ?_
    intro s hs
    rcases List.mem_or_eq_of_mem_set hs with h | h
    · exact hS s h
    · rw [h]; exact hP x (by simp)
/-- the outcome of a sequence of writes and a sync: it is done, or the disk died with some writes pending -/
def WrOut (d : Dk) (f : Nat) (L : List (List UInt8)) (d2 : Dk) (e : Int) : Prop :=
  validB d2 = true ∧ ((e = 18 ∧ d2.dead = true ∧ d2.S = d.S ∧ d.fuse ≠ 0 ∧ ∃ k, d2.P = d.P ++ (wl f L).take k) ∨
    (e = 0 ∧ d2.dead = false ∧ d2.S = perform d.S (d.P ++ wl f L) ∧ d2.P = [] ∧ (d.fuse = 0 → d2.fuse = 0)))
theorem wr_out : ∀ (L : List (List UInt8)) (d : Dk) (f : Nat), validB d = true → d.dead = false → (∀ s ∈ L, s.length = 64) → f + L.length ≤ d.S.length →
    ∃ d2 e, wrF L d (f : Int) = (d2, e) ∧ WrOut d f L d2 e
  | [], d, f, hv, ha, _, _ => by
    obtain ⟨v1, v2, v3⟩ := (validB_iff d).1 hv
    obtain ⟨n1, n2, n3, n4, n5, n6⟩ := (numsB_iff d).1 v1
    rw [wrF_nil]
    unfold syncS
    rw [if_pos hv, ha, if_neg (by decide)]
    unfold happenS
    by_cases hf : d.fuse = 1
    · rw [if_pos hf]
      refine ⟨_, _, rfl, ?_, .inl ⟨rfl, rfl, rfl, by omega, 0, by simp⟩⟩
      rw [validB_iff]
      refine ⟨?_, v2, v3⟩
      rw [numsB_iff]; simp only; omega
    · rw [if_neg hf]
      have hlen := perform_len d.S d.P
      refine ⟨_, _, rfl, ?_, .inr ⟨rfl, ha, by show perform d.S d.P = _; unfold wl; rw [List.append_nil], rfl, fun h0 => by show max (d.fuse - 1) 0 = 0; rw [h0]; rfl⟩⟩
      rw [validB_iff]
      refine ⟨?_, sync64 (fun x hx => (v3 x hx).2.2) v2, fun x hx => absurd hx (by simp [syncD])⟩
      rw [numsB_iff]
      show 16 ≤ (perform d.S d.P).length ∧ (perform d.S d.P).length ≤ 1024 ∧ 0 ≤ max (d.fuse - 1) 0 ∧ max (d.fuse - 1) 0 ≤ 1099511627776 ∧ 0 ≤ min (d.ops + 1) 1099511627776 ∧ min (d.ops + 1) 1099511627776 ≤ 1099511627776
      rw [hlen]; omega
  | s :: r, d, f, hv, ha, h64, hfit => by
    obtain ⟨v1, v2, v3⟩ := (validB_iff d).1 hv
    obtain ⟨n1, n2, n3, n4, n5, n6⟩ := (numsB_iff d).1 v1
    rw [List.length_cons] at hfit
    have hs := h64 s (by simp)
    have hw : writeS d (f : Int) s = happenS d (addW (f : Int) s) := by
      unfold writeS
      rw [if_pos ⟨hv, by unfold hasB; simp; omega, hs⟩, ha, if_neg (by decide)]
    by_cases hf : d.fuse = 1
    · have hh : writeS d (f : Int) s = ({ d with ops := min (d.ops + 1) 1099511627776, fuse := 0, dead := true }, 18) := by rw [hw]; unfold happenS; rw [if_pos hf]
      rw [wrF_no (by rw [hh]; show (18 : Int) ≠ 0; decide), hh]
      refine ⟨_, _, rfl, ?_, .inl ⟨rfl, rfl, rfl, by omega, 0, by simp⟩⟩
      rw [validB_iff]
      refine ⟨?_, v2, v3⟩
      rw [numsB_iff]; simp only; omega
    · obtain ⟨b, hb⟩ : ∃ b : Dk, b = addW (f : Int) s { d with ops := min (d.ops + 1) 1099511627776, fuse := max (d.fuse - 1) 0 } := ⟨_, rfl⟩
      have hh : writeS d (f : Int) s = (b, 0) := by rw [hw]; unfold happenS; rw [if_neg hf, hb]
      have bS : b.S = d.S := by rw [hb]; rfl
      have bP : b.P = d.P ++ [((f : Int), s)] := by rw [hb]; rfl
      have bF : b.fuse = max (d.fuse - 1) 0 := by rw [hb]; rfl
      have bO : b.ops = min (d.ops + 1) 1099511627776 := by rw [hb]; rfl
      have bD : b.dead = false := by rw [hb]; exact ha
      clear hb
      have bV : validB b = true := by
        rw [validB_iff, bS, bP]
        refine ⟨?_, v2, ?_⟩
        · rw [numsB_iff, bS, bF, bO]; omega
        · intro y hy
          rcases List.mem_append.1 hy with hy | hy
          · exact v3 y hy
          · rw [List.mem_singleton.1 hy]
            exact ⟨by simp only; omega, by simp only; omega, hs⟩
      rw [wrF_ok (by rw [hh]), hh]
      simp only
      have e1 : (f : Int) + 1 = ((f + 1 : Nat) : Int) := by omega
      rw [e1]
      obtain ⟨d2, e, q1, q2, q3⟩ := wr_out r b (f + 1) bV bD (fun t ht => h64 t (by simp [ht])) (by rw [bS]; omega)
      refine ⟨d2, e, q1, q2, ?_⟩
      rw [bS, bP, bF] at q3
      have e2 : d.P ++ wl f (s :: r) = d.P ++ [((f : Int), s)] ++ wl (f + 1) r := by rw [List.append_assoc]; rfl
      rcases q3 with ⟨r1, r2, r3, r4, k, r5⟩ | ⟨r1, r2, r3, r4, r5⟩
      · refine .inl ⟨r1, r2, r3, by omega, k + 1, ?_⟩
        rw [r5, List.append_assoc]; rfl
      · refine .inr ⟨r1, r2, by rw [r3, e2], r4, fun h0 => r5 (by rw [h0]; rfl)⟩
theorem wr_put {n : Nat} {d d2 : Dk} {f : Nat} {L : List (List UInt8)} {e : Int} (hq : Qt n d) (hf : f + L.length ≤ n) (h : WrOut d f L d2 e) (he : e = 0) : Qt n d2 ∧ Put d.S f L d2.S ∧ (d.fuse = 0 → d2.fuse = 0) := by
  obtain ⟨h1, h2 | ⟨_, h3, h4, h5, h6⟩⟩ := h
  · have := h2.1; omega
  · rw [hq.p, List.nil_append] at h4
    have hp := put_perform (S := d.S) (f := f) (L := L) (by rw [hq.s]; exact hf)
    rw [← h4] at hp
    exact ⟨⟨h1, by rw [hp.1]; exact hq.s, h5, h3⟩, hp, h6⟩

/-! ### a crash -/
/-- after a crash: each sector as it was, or written, or written down to a torn beginning -/
def Left (S : List (List UInt8)) (f : Nat) (L : List (List UInt8)) (S2 : List (List UInt8)) : Prop :=
  S2.length = S.length ∧ ∀ k, k < S.length → S2.getD k [] = S.getD k [] ∨ (f ≤ k ∧ k < f + L.length ∧ ∃ m : Nat, m ≤ 64 ∧ S2.getD k [] = (L.getD (k - f) []).take m ++ (S.getD k []).drop m)
theorem foldC_left {P : List (Int × List UInt8)} {S : List (List UInt8)} {f : Nat} {L : List (List UInt8)} (la tear : Int) (hP : ∀ i (h : i < P.length), P[i].1 = ((f + i : Nat) : Int) ∧ P[i].2 = L.getD i [] ∧ i < L.length) (hL : ∀ s ∈ L, s.length = 64) (hS : ∀ s ∈ S, s.length = 64) (kb : List Bool) :
    ∀ m, m ≤ P.length → (foldC P S la tear (kf P.length kb m)).length = S.length ∧
      (∀ k, k < S.length → (f + m ≤ k ∨ k < f) → (foldC P S la tear (kf P.length kb m)).getD k [] = S.getD k []) ∧
      Left S f L (foldC P S la tear (kf P.length kb m))
  | 0, _ => by
    rw [kf_zero]
    exact ⟨rfl, fun k _ _ => rfl, rfl, fun k _ => .inl rfl⟩
  | m + 1, hm => by
    obtain ⟨h1, h2, h3, h4⟩ := foldC_left la tear hP hL hS kb m (by omega)
    have hk := kf_step P.length kb m (by omega)
    by_cases hb : kb[m]?.getD false = true
    · rw [if_pos hb] at hk
      rw [hk, foldC_snoc]
      obtain ⟨F, hF⟩ : ∃ F, foldC P S la tear (kf P.length kb m) = F := ⟨_, rfl⟩
      rw [hF] at h1 h2 h3 h4 ⊢
      obtain ⟨p1, p2, p3⟩ := hP m (by omega)
      unfold stepC
      simp only
      rw [p1, p2, Int.toNat_natCast]
      obtain ⟨u, hu⟩ : ∃ u, (if ((m : Nat) : Int) = la ∧ 1 ≤ tear ∧ tear < 64 then cutW (L.getD m []) (F.getD (f + m) []) tear else L.getD m []) = u := ⟨_, rfl⟩
      rw [hu]
      have hset : ∀ k, k < S.length → (F.set (f + m) u).getD k [] = if k = f + m then u else F.getD k [] := by
        intro k hk
        rw [List.getD_eq_getElem?_getD, List.getElem?_set]
        by_cases h : f + m = k
        · rw [if_pos h, if_pos (by omega), if_pos h.symm]; rfl
        · rw [if_neg h, if_neg (fun e => h e.symm), List.getD_eq_getElem?_getD]
      refine ⟨by rw [List.length_set]; exact h1, ?_, by rw [List.length_set]; exact h3, ?_⟩
      · intro k hk hf
        rw [hset k hk, if_neg (by omega), h2 k hk (by omega)]
      · intro k hk
        rw [hset k hk]
        by_cases hkm : k = f + m
        · subst hkm
          rw [if_pos rfl]
          right
          refine ⟨by omega, by omega, ?_⟩
          rw [show f + m - f = m by omega]
          have hold := h2 (f + m) hk (by omega)
          have hlm : (L.getD m []).length = 64 := by rw [getD_at p3]; exact hL _ (List.getElem_mem _)
          have hsm : (S.getD (f + m) []).length = 64 := by rw [getD_at hk]; exact hS _ (List.getElem_mem _)
          rw [← hu, hold]
          split
          · rename_i hc
            exact ⟨tear.toNat, by omega, rfl⟩
          · refine ⟨64, by omega, ?_⟩
            rw [List.take_of_length_le (by omega), List.drop_of_length_le (by omega), List.append_nil]
        · rw [if_neg hkm]
          exact h4 k hk
    · rw [if_neg hb, List.append_nil] at hk
      rw [hk]
      exact ⟨h1, fun k hk hh => h2 k hk (by omega), h3, h4⟩
theorem crash_left {n : Nat} {d d2 : Dk} {f : Nat} {L : List (List UInt8)} {e : Int} (hq : Qt n d) (_hf : f + L.length ≤ n) (hL : ∀ s ∈ L, s.length = 64) (h : WrOut d f L d2 e) (he : e ≠ 0) (kb : List Bool) (tear : Int) :
    Qt n (crashD d2 kb tear) ∧ (crashD d2 kb tear).fuse = 0 ∧ Left d.S f L (crashD d2 kb tear).S := by
  obtain ⟨h1, ⟨_, h3, h4, _, m, h5⟩ | h2⟩ := h
  · rw [hq.p, List.nil_append] at h5
    obtain ⟨c1, c2, c3, c4, c5, c6⟩ := crash_valid h1 kb tear
    refine ⟨⟨c1, by rw [c2, h4]; exact hq.s, c3, c4⟩, c5, ?_⟩
    obtain ⟨_, v2, _⟩ := (validB_iff d).1 hq.v
    rw [crash_on kb tear h1]
    simp only
    rw [h4]
    refine (foldC_left (f := f) (L := L) _ tear ?_ hL v2 kb d2.P.length (Nat.le_refl _)).2.2
    intro i hi
    have hw := wl_length L f
    have hi2 : i < (wl f L).length := by rw [h5, List.length_take] at hi; omega
    obtain ⟨g1, g2⟩ := wl_get L f i hi2
    have e1 : d2.P[i] = (wl f L)[i] := by
      have : d2.P[i]? = some (wl f L)[i] := by
        rw [h5, List.getElem?_take, if_pos (by rw [h5, List.length_take] at hi; omega), List.getElem?_eq_getElem hi2]
      rw [List.getElem?_eq_getElem hi] at this
      exact Option.some.inj this
    rw [e1]
    exact ⟨g1, g2, by omega⟩
  · exact absurd h2.1 he
theorem crash_quiet {n : Nat} {d : Dk} (hq : Qt n d) (kb : List Bool) (tear : Int) : Qt n (crashD d kb tear) ∧ (crashD d kb tear).fuse = 0 ∧ (crashD d kb tear).S = d.S := by
  obtain ⟨c1, c2, c3, c4, c5, c6⟩ := crash_valid hq.v kb tear
  refine ⟨⟨c1, by rw [c2]; exact hq.s, c3, c4⟩, c5, ?_⟩
  rw [crash_on kb tear hq.v, hq.p]; rfl
end Go.Proofs.Ytkpfkknldeafkaa
namespace Go.Proofs.Ytkpfkknldeafkaa
open Go.RowKit

/-! ### the sectors of a record -/
theorem split_secs {g : Int} {l : List UInt8} {S : List (List UInt8)} (h : splitS g l = (S, 0)) :
    1 ≤ g ∧ g ≤ 1099511627776 ∧ 1 ≤ S.length ∧ S.length ≤ 1024 ∧ S.length = pieces l.length ∧ (∀ i, i < S.length → S[i]? = some (secAt g.toNat l i)) ∧
      ∀ i (hi : i < S.length), ∃ d : List UInt8, stampB g.toNat i S.length = true ∧ d.length ≤ 40 ∧ S[i] = sealedL g.toNat i S.length d ∧ openS S[i] = ((g, (i : Int), (S.length : Int)), d, 0) := by
  obtain ⟨h1, h2, h3, h4⟩ := split_ok h
  have hp := pieces_pos l.length
  have hl : S.length = pieces l.length := by rw [h4, secs_length]
  have hget : ∀ i, i < S.length → S[i]? = some (secAt g.toNat l i) := by
    intro i hi
    have := secs_get g.toNat l (pieces l.length) i (by omega)
    rw [← h4] at this; exact this
  refine ⟨h1, h2, by omega, by omega, hl, hget, fun i hi => ?_⟩
  have e1 : S[i] = secAt g.toNat l i := by
    have := hget i hi
    rw [List.getElem?_eq_getElem hi] at this; exact Option.some.inj this
  have hst : stampB (g.toNat : Int) (i : Int) ((pieces l.length : Nat) : Int) = true := by rw [stampB_iff]; omega
  have hd : ((l.drop (i * 40)).take 40).length ≤ 40 := by rw [List.length_take]; omega
  refine ⟨(l.drop (i * 40)).take 40, by rw [hl]; exact hst, hd, by rw [e1, hl]; rfl, ?_⟩
  have ho := openS_sealed g.toNat i (pieces l.length) _ hst hd
  rw [e1, hl]
  unfold secAt
  rw [ho]
  have : ((g.toNat : Nat) : Int) = g := by omega
  rw [this]
theorem split_len64 {g : Int} {l : List UInt8} {S : List (List UInt8)} (h : splitS g l = (S, 0)) : ∀ s ∈ S, s.length = 64 := by
  obtain ⟨_, _, _, _, _, _, h7⟩ := split_secs h
  intro s hs
  obtain ⟨i, hi, rfl⟩ := List.getElem_of_mem hs
  obtain ⟨d, _, hd, he, _⟩ := h7 i hi
  rw [he]; exact sealedL_length _ _ _ _ hd

/-! ### older sectors -/
def Old (e : Int) (s : List UInt8) : Prop := s = List.replicate 64 0 ∨ ∃ g p q : Nat, ∃ d : List UInt8, stampB g p q = true ∧ d.length ≤ 40 ∧ s = sealedL g p q d ∧ (g : Int) < e
theorem Old.mono {e e' : Int} {s : List UInt8} (h : Old e s) (he : e ≤ e') : Old e' s := by
  rcases h with h | ⟨g, p, q, d, h1, h2, h3, h4⟩
  · exact .inl h
  · exact .inr ⟨g, p, q, d, h1, h2, h3, by omega⟩
theorem Old.len {e : Int} {s : List UInt8} (h : Old e s) : s.length = 64 := by
  rcases h with h | ⟨g, p, q, d, h1, h2, h3, h4⟩
  · rw [h]; simp
  · rw [h3]; exact sealedL_length _ _ _ _ h2
/-- a sector that no record of the epoch e begins or contains -/
def Bad (e : Int) (s : List UInt8) : Prop := (openS s).2.2 ≠ 0 ∨ (openS s).1.1 < e
theorem Old.bad {e : Int} {s : List UInt8} (h : Old e s) : Bad e s := by
  rcases h with h | ⟨g, p, q, d, h1, h2, h3, h4⟩
  · left; rw [h, ex_zero]; simp
  · right; rw [h3, openS_sealed g p q d h1 h2]; exact h4
theorem Old.split {g e : Int} {l : List UInt8} {S : List (List UInt8)} (h : splitS g l = (S, 0)) (he : g < e) : ∀ s ∈ S, Old e s := by
  obtain ⟨h1, _, _, _, _, _, h7⟩ := split_secs h
  intro s hs
  obtain ⟨i, hi, rfl⟩ := List.getElem_of_mem hs
  obtain ⟨d, hst, hd, hs, _⟩ := h7 i hi
  exact .inr ⟨g.toNat, i, S.length, d, by rw [Int.toNat_of_nonneg (by omega)] at *; exact hst, hd, hs, by omega⟩
theorem pow_six : (256 : Nat) ^ 6 = 281474976710656 := by decide
/-- a new sector torn over an older one: it does not open, or it is the new one, or the old one -/
theorem torn_sec {e g : Int} {p q : Nat} {d t o tn : List UInt8} {m : Nat} (hst : stampB g.toNat p q = true) (hd : d.length ≤ 40) (ht : t = sealedL g.toNat p q d) (ho : Old e o) (he : e ≤ g) (hg : 1 ≤ g) (hm : m ≤ 64) (htn : tn = t.take m ++ o.drop m) :
    (openS tn).2.2 ≠ 0 ∨ tn = t ∨ tn = o := by
  by_cases hx : (openS tn).2.2 = 0
  · right
    obtain ⟨g1, p1, q1, d1, hop, hst1, _, _⟩ := openS_ok hx
    obtain ⟨n1, n2, n3⟩ := open_ends hop
    rw [Int.toNat_natCast, Int.toNat_natCast] at n1 n2
    obtain ⟨k1, k2, _⟩ := (stampB_iff _ _ _).1 hst1
    obtain ⟨j1, j2, _⟩ := (stampB_iff _ _ _).1 hst
    have hot := openS_sealed g.toNat p q d hst hd
    rw [← ht] at hot
    obtain ⟨t1, t2, t3⟩ := open_ends hot
    rw [Int.toNat_natCast, Int.toNat_natCast] at t1 t2
    have ol := ho.len
    obtain ⟨a, ap, o2, oa, o1⟩ : ∃ a ap : Nat, o.drop 56 = markL a ap ∧ (a : Int) < g ∧ (a = 0 ∨ o.take 8 = markL a ap) := by
      rcases ho with h | ⟨g0, p0, q0, d0, h1, h2, h3, h4⟩
      · refine ⟨0, 0, ?_, by omega, .inl rfl⟩
        rw [h, List.drop_replicate]; exact mark_zero
      · have hoo := openS_sealed g0 p0 q0 d0 h1 h2
        rw [← h3] at hoo
        obtain ⟨e1, e2, _⟩ := open_ends hoo
        rw [Int.toNat_natCast, Int.toNat_natCast] at e1 e2
        exact ⟨g0, p0, e2, by omega, .inr e1⟩
    have b1 : g.toNat < 256 ^ 6 := by rw [pow_six]; omega
    have b2 : a < 256 ^ 6 := by rw [pow_six]; omega
    have b3 : g1 < 256 ^ 6 := by rw [pow_six]; omega
    have hlow : m ≤ 56 → tn.drop 56 = o.drop 56 := by
      intro hm56
      rw [htn, List.drop_append, List.length_take, t3, Nat.min_eq_left hm, List.drop_of_length_le (by rw [List.length_take]; omega), List.nil_append, List.drop_drop]
      congr 1; omega
    rcases Nat.lt_or_ge m 8 with h8 | h8
    · have hdd := hlow (by omega)
      have hgn := hdd
      rw [n2, o2] at hgn
      have hgn2 := mark_inj b3 b2 hgn
      rcases o1 with o1 | o1
      · omega
      · right
        have hdr : tn.drop 8 = o.drop 8 := by
          rw [htn, List.drop_append, List.length_take, t3, Nat.min_eq_left hm, List.drop_of_length_le (by rw [List.length_take]; omega), List.nil_append, List.drop_drop]
          congr 1; omega
        rw [← List.take_append_drop 8 tn, n1, hgn, ← o1, hdr, List.take_append_drop]
    · have h1 : tn.take 8 = t.take 8 := by rw [htn, List.take_append_of_le_length (by rw [List.length_take]; omega), List.take_take, Nat.min_eq_left h8]
      rw [n1, t1] at h1
      rcases Nat.lt_or_ge 56 m with h56 | h56
      · left
        have hfr : tn.take 56 = t.take 56 := by
          rw [htn, List.take_append_of_le_length (by rw [List.length_take]; omega), List.take_take, Nat.min_eq_left (by omega)]
        rw [← List.take_append_drop 56 tn, hfr, n2, h1, ← t2, List.take_append_drop]
      · exfalso
        have hdd := hlow h56
        rw [n2, h1, o2] at hdd
        have := mark_inj b1 b2 hdd
        omega
  · exact .inl hx

/-! ### joins -/
theorem join_no {L : List (List UInt8)} {least most : Int} (h : ∀ s, L[0]? = some s → Bad least s) : (joinS L least most).2.2.2 = false := by
  unfold joinS
  cases hs : L[0]? with
  | none => rfl
  | some s =>
    simp only
    rw [if_neg]
    · rfl
    · rintro ⟨h1, h2, _⟩
      rcases h s hs with h | h
      · exact h h1
      · omega
theorem join_all {g : Int} {l : List UInt8} {S X : List (List UInt8)} (h : splitS g l = (S, 0)) (hl : S.length ≤ X.length) (hx : ∀ i, i < S.length → X.getD i [] = S.getD i []) {least most : Int} (h1 : least ≤ g) (h2 : g ≤ most) :
    joinS X least most = (l, g, (S.length : Int), true) := by
  obtain ⟨g1, g2, s1, s2, s3, s4, _⟩ := split_secs h
  have := join_secs g.toNat l (by omega) (by omega) X (fun k hk => by
    have h3 := hx k (by omega)
    rw [getD_at (by omega), getD_at (by omega)] at h3
    rw [List.getElem?_eq_getElem (by omega), h3, ← List.getElem?_eq_getElem]
    exact s4 k (by omega)) (by omega) least most
  rw [this, Int.toNat_of_nonneg (by omega), if_pos ⟨h1, h2⟩, s3]
theorem join_part {g e : Int} {l : List UInt8} {S X : List (List UInt8)} (h : splitS g l = (S, 0)) (_hl : S.length ≤ X.length) (hx : ∀ i, i < S.length → Bad e (X.getD i []) ∨ X.getD i [] = S.getD i []) (he : e ≤ g) :
    (∀ i, i < S.length → X.getD i [] = S.getD i []) ∨ ∀ least most, e ≤ least → (joinS X least most).2.2.2 = false := by
  obtain ⟨g1, g2, s1, s2, s3, s4, s5⟩ := split_secs h
  by_cases hall : ∀ i, i < S.length → X.getD i [] = S.getD i []
  · exact .inl hall
  · right
    intro least most hle
    obtain ⟨k, hk, hne⟩ : ∃ k, k < S.length ∧ X.getD k [] ≠ S.getD k [] := by
      refine Classical.byContradiction fun hc => hall fun i hi => ?_
      refine Classical.byContradiction fun hc2 => hc ⟨i, hi, hc2⟩
    have hbk : Bad e (X.getD k []) := by
      rcases hx k hk with h' | h'
      · exact h'
      · exact absurd h' hne
    rw [← Bool.not_eq_true]
    intro hj
    obtain ⟨rec, g', k', hjj, q1, q2, q3, q4, q5⟩ := join_ok hj
    obtain ⟨r1, r2, r3, r4, r5, r6, r7⟩ := split_secs q5
    have htl : (X.take k').length = k' := by rw [List.length_take]; omega
    have hopen : ∀ i, i < k' → openS (X.getD i []) = ((g', (i : Int), (k' : Int)), (openS (X.getD i [])).2.1, 0) := by
      intro i hi
      have hiX : i < X.length := by omega
      obtain ⟨dd, _, _, _, ho⟩ := r7 i (by omega)
      rw [List.getElem_take] at ho
      have ho : openS X[i] = ((g', (i : Int), ((X.take k').length : Int)), dd, 0) := ho
      rw [htl] at ho
      rw [getD_at (by omega), ho]
    have h0 : X.getD 0 [] = S.getD 0 [] := by
      rcases hx 0 (by omega) with h' | h'
      · exfalso
        unfold Bad at h'
        rw [hopen 0 (by omega)] at h'
        simp only at h'
        rcases h' with h' | h'
        · exact h' rfl
        · omega
      · exact h'
    obtain ⟨d0, _, _, _, ho0⟩ := s5 0 (by omega)
    have hx0 := hopen 0 (by omega)
    rw [h0, getD_at (by omega), ho0] at hx0
    simp only [Prod.mk.injEq] at hx0
    obtain ⟨⟨rfl, _, hkk⟩, _⟩ := hx0
    have hkk' : k' = S.length := by omega
    have hxk := hopen k (by omega)
    unfold Bad at hbk
    rw [hxk] at hbk
    simp only at hbk
    rcases hbk with h' | h'
    · exact h' rfl
    · omega

/-! ### the log -/
/-- the sectors U hold the records R, of generations from e on up to top, in ascending order -/
def Lg (top : Int) : Int → List (List UInt8) → List (List UInt8) → Prop
  | _, U, [] => U = []
  | e, U, r :: R => ∃ (g : Int) (S V : List (List UInt8)), e ≤ g ∧ g ≤ top ∧ splitS g r = (S, 0) ∧ U = S ++ V ∧ Lg top g V R
theorem Lg.top {top top' : Int} (h : top ≤ top') : ∀ {R : List (List UInt8)} {e : Int} {U : List (List UInt8)}, Lg top e U R → Lg top' e U R
  | [], _, _, hl => hl
  | _ :: _, _, _, ⟨g, S, V, h1, h2, h3, h4, h5⟩ => ⟨g, S, V, h1, by omega, h3, h4, Lg.top h h5⟩
theorem Lg.snoc {top : Int} {r : List UInt8} {T : List (List UInt8)} (ht : splitS top r = (T, 0)) : ∀ {R : List (List UInt8)} {e : Int} {U : List (List UInt8)}, Lg top e U R → e ≤ top → Lg top e (U ++ T) (R ++ [r])
  | [], e, U, hl, he => by
    have hU : U = [] := hl
    subst hU
    exact ⟨top, T, [], he, Int.le_refl _, ht, by simp, rfl⟩
  | _ :: _, e, U, ⟨g, S, V, h1, h2, h3, h4, h5⟩, he => ⟨g, S, V ++ T, h1, h2, h3, by rw [h4, List.append_assoc], Lg.snoc ht h5 h2⟩
theorem Lg.len {top : Int} : ∀ {R : List (List UInt8)} {e : Int} {U : List (List UInt8)}, Lg top e U R → R.length ≤ U.length
  | [], _, _, _ => by simp
  | _ :: _, _, _, ⟨g, S, V, h1, h2, h3, h4, h5⟩ => by
    have := Lg.len h5
    have := (split_secs h3).2.2.1
    subst h4
    simp only [List.length_cons, List.length_append]; omega
theorem Lg.old {top e2 : Int} (h : top < e2) : ∀ {R : List (List UInt8)} {e : Int} {U : List (List UInt8)}, Lg top e U R → ∀ s ∈ U, Old e2 s
  | [], _, U, hl => by
    have hU : U = [] := hl
    subst hU
    intro s hs; cases hs
  | _ :: _, _, _, ⟨g, S, V, h1, h2, h3, h4, h5⟩ => by
    intro s hs
    subst h4
    rcases List.mem_append.1 hs with hs | hs
    · exact Old.split h3 (by omega) s hs
    · exact Lg.old h h5 s hs
theorem Lg.rec {top : Int} {X : List (List UInt8)} : ∀ {R : List (List UInt8)} {e : Int} {U : List (List UInt8)}, Lg top e U R → (∀ least, e ≤ least → (joinS X least top).2.2.2 = false) → recS (U ++ X) e top = (R, U.length)
  | [], e, U, hl, hX => by
    have hU : U = [] := hl
    subst hU
    exact recS_none (hX e (Int.le_refl _))
  | r :: R, e, U, ⟨g, S, V, h1, h2, h3, h4, h5⟩, hX => by
    subst h4
    have ih := Lg.rec h5 (fun least hle => hX least (by omega))
    have hj := join_all (X := (S ++ V) ++ X) h3 (by simp only [List.length_append]; omega) (fun i hi => by
      rw [List.append_assoc, List.getD_eq_getElem?_getD, List.getElem?_append_left hi, ← List.getD_eq_getElem?_getD]) h1 h2
    rw [recS_some hj]
    have e1 : ((S ++ V) ++ X).drop S.length = V ++ X := by rw [List.append_assoc, List.drop_left']; rfl
    rw [e1, ih]
    simp only [List.length_append]
end Go.Proofs.Ytkpfkknldeafkaa
namespace Go.Proofs.Ytkpfkknldeafkaa
open Go.RowKit

structure Ct where
  image : List UInt8
  pos : Int
  recs : List (List UInt8)
deriving DecidableEq
def ar (n : Nat) : Nat := (n - 2) / 4
def aof (n : Nat) (a : Int) : Nat := if a = 2 then 2 + ar n else 2
theorem aof_le (n : Nat) (a : Int) : 2 ≤ aof n a ∧ aof n a + ar n ≤ 2 + 2 * ar n := by unfold aof; split <;> omega
theorem aof_eq (n : Nat) {a : Int} (h : 1 ≤ a ∧ a ≤ 2) : 2 + (a - 1) * (ar n : Int) = (aof n a : Int) := by
  unfold aof
  rcases (show a = 1 ∨ a = 2 by omega) with rfl | rfl
  · rw [if_neg (by decide)]; omega
  · rw [if_pos rfl]; omega
theorem ar_eq {n : Nat} {d : Dk} (h : d.S.length = n) : arN d = ar n := by unfold arN ar; rw [h]
theorem sz_eq {n : Nat} {d : Dk} (h : d.S.length = n) : szN d = n - 2 - 2 * ar n := by unfold szN; rw [h, ar_eq h]
theorem ar_bounds {n : Nat} (h : 16 ≤ n) : 3 ≤ ar n ∧ 2 + 2 * ar n + 8 ≤ n ∧ ar n ≤ n - 2 - 2 * ar n := by unfold ar; omega
/-- the checkpoint of a superblock -/
def Ckp (n : Nat) (S : List (List UInt8)) (x : Sp) (im : List UInt8) : Prop :=
  (x.a = 0 ∧ im = []) ∨ (1 ≤ x.a ∧ x.a ≤ 2 ∧ ∃ SL, splitS x.e im = (SL, 0) ∧ SL.length ≤ ar n ∧ (im.length : Int) = x.z ∧ ∀ i, i < SL.length → S.getD (aof n x.a + i) [] = SL.getD i [])
/-- the log of a superblock: u sectors hold the records, the others are older than its epoch -/
def Log (n : Nat) (S : List (List UInt8)) (x : Sp) (u : Int) (R : List (List UInt8)) : Prop :=
  ∃ U V, S.drop (2 + 2 * ar n) = U ++ V ∧ (U.length : Int) = u ∧ Lg x.g x.e U R ∧ ∀ s ∈ V, Old x.e s
theorem ckp_congr {n : Nat} {S S' : List (List UInt8)} {x : Sp} {im : List UInt8} (h : Ckp n S x im) (hs : ∀ k, aof n x.a ≤ k → k < aof n x.a + ar n → S'.getD k [] = S.getD k []) : Ckp n S' x im := by
  rcases h with h | ⟨h1, h2, SL, h3, h4, h5, h6⟩
  · exact .inl h
  · exact .inr ⟨h1, h2, SL, h3, h4, h5, fun i hi => by rw [hs _ (by omega) (by omega)]; exact h6 i hi⟩
theorem drop_congr {S S' : List (List UInt8)} {f : Nat} (hl : S'.length = S.length) (h : ∀ k, f ≤ k → k < S.length → S'.getD k [] = S.getD k []) : S'.drop f = S.drop f := by
  have e := reg_congr (S := S') (S' := S) (f := f) (m := S.length - f) hl (fun k h1 h2 => h k h1 (by omega))
  rwa [List.take_of_length_le (by rw [List.length_drop, hl]; omega), List.take_of_length_le (by rw [List.length_drop]; omega)] at e
theorem log_congr {n : Nat} {S S' : List (List UInt8)} {x : Sp} {u : Int} {R : List (List UInt8)} (h : Log n S x u R) (hl : S'.length = S.length) (hs : ∀ k, 2 + 2 * ar n ≤ k → k < S.length → S'.getD k [] = S.getD k []) : Log n S' x u R := by
  obtain ⟨U, V, h1, h2⟩ := h
  exact ⟨U, V, by rw [drop_congr hl hs]; exact h1, h2⟩

/-! ### what is read -/
theorem qt_load {n : Nat} {d : Dk} (hc : Qt n d) {x : Sp} {k : Nat} (hk : k < 2) (h1 : decS (d.S.getD k []) = (x, 0)) (h2 : (decS (d.S.getD (1 - k) [])).2 ≠ 0 ∨ (decS (d.S.getD (1 - k) [])).1.g < x.g) : loadS d = (x, 0) := by
  obtain ⟨n1, n2⟩ := qt_len hc
  have r0 : readS d 0 = (d.S.getD 0 [], 0) := qt_read hc 0 (by omega)
  have r1 : readS d 1 = (d.S.getD 1 [], 0) := qt_read hc 1 (by omega)
  have hb : bestS (d.S.getD 0 []) (d.S.getD 1 []) = (x, true) := by
    unfold bestS
    rcases (show k = 0 ∨ k = 1 by omega) with rfl | rfl
    · rw [h1]; simp only
      rw [if_pos ⟨trivial, h2.imp id Int.le_of_lt⟩]
    · rw [h1]
      simp only
      rw [if_neg, if_pos trivial]
      rintro ⟨q1, q2⟩
      rcases h2 with h | h
      · exact h q1
      · rcases q2 with q2 | q2
        · exact q2 rfl
        · have h' : (decS (d.S.getD 0 [])).1.g < x.g := h
          omega
  unfold loadS
  rw [r0, r1]
  simp only
  rw [if_neg (by simp), if_neg (by simp), hb]
  simp
theorem ck_read {n : Nat} {d : Dk} (hq : Qt n d) {x : Sp} {im : List UInt8} (h : Ckp n d.S x im) : ckS d x = (im, true) := by
  obtain ⟨n1, n2⟩ := qt_len hq
  obtain ⟨b1, b2, b3⟩ := ar_bounds n1
  rcases h with ⟨h1, h2⟩ | ⟨h1, h2, SL, h3, h4, h5, h6⟩
  · unfold ckS; rw [if_pos h1, h2]
  · have ha := aof_eq n ⟨h1, h2⟩
    obtain ⟨a1, a2⟩ := aof_le n x.a
    have hr := qt_reg hq (aof n x.a) (ar n) (by omega)
    have hl : ((d.S.drop (aof n x.a)).take (ar n)).length = ar n := by rw [List.length_take, List.length_drop, hq.s]; omega
    have hj := join_all (X := (d.S.drop (aof n x.a)).take (ar n)) h3 (by omega) (fun i hi => by
      rw [getD_at (by omega), List.getElem_take, List.getElem_drop, ← h6 i hi, getD_at (by rw [hq.s]; omega)]) (Int.le_refl _) (Int.le_refl _)
    unfold ckS
    rw [if_neg (by omega), ar_eq hq.s, ha, hr, hj]
    simp only
    rw [h5]; simp
theorem log_reg {n : Nat} {d : Dk} (hq : Qt n d) (x : Sp) : logS d x = recS (d.S.drop (2 + 2 * ar n)) x.e x.g := by
  obtain ⟨n1, n2⟩ := qt_len hq
  obtain ⟨b1, b2, b3⟩ := ar_bounds n1
  have e : (2 : Int) + 2 * (ar n : Int) = ((2 + 2 * ar n : Nat) : Int) := by omega
  unfold logS
  rw [ar_eq hq.s, sz_eq hq.s, e, qt_reg hq _ _ (by omega), List.take_of_length_le (by rw [List.length_drop, hq.s]; omega)]
theorem head_old {e : Int} {V : List (List UInt8)} (h : ∀ s ∈ V, Old e s) (least most : Int) (hl : e ≤ least) : (joinS V least most).2.2.2 = false := by
  refine join_no fun s hs => ?_
  have hm : s ∈ V := List.mem_of_getElem? hs
  rcases (h s hm).bad with h' | h'
  · exact .inl h'
  · right; omega
theorem log_read {n : Nat} {d : Dk} (hq : Qt n d) {x : Sp} {u : Int} {R : List (List UInt8)} (h : Log n d.S x u R) : (logS d x).1 = R ∧ ((logS d x).2 : Int) = u := by
  obtain ⟨U, V, h1, h2, h3, h4⟩ := h
  rw [log_reg hq, h1, Lg.rec h3 (fun least hl => head_old h4 least _ hl)]
  exact ⟨rfl, h2⟩

/-! ### a journal and its contents -/
structure Inv (n : Nat) (d : Dk) (j : Jn) (c : Ct) : Prop where
  q : Qt n d
  x : spB j.x = true
  s1 : d.S.getD (j.x.g % 2).toNat [] = (encS j.x).1
  s2 : Sl (d.S.getD ((j.x.g + 1) % 2).toNat []) j.x.g
  ck : Ckp n d.S j.x c.image
  p : c.pos = j.x.p
  lg : Log n d.S j.x j.n c.recs
  r : j.r = (c.recs.length : Int)
/-- what an opening finds on a disk -/
structure Rd (n : Nat) (d : Dk) (x : Sp) (c : Ct) : Prop where
  q : Qt n d
  v : spB x = true
  l : loadS d = (x, 0)
  k : ckS d x = (c.image, true)
  g : (logS d x).1 = c.recs
  p : c.pos = x.p
theorem two_slots {g : Int} : ∃ k : Nat, k < 2 ∧ (g % 2).toNat = k ∧ ((g + 1) % 2).toNat = 1 - k := ⟨(g % 2).toNat, by omega, rfl, by omega⟩
theorem slots_load {n : Nat} {d : Dk} (hq : Qt n d) {x : Sp} (hx : spB x = true) (s1 : d.S.getD (x.g % 2).toNat [] = (encS x).1) (s2 : Sl (d.S.getD ((x.g + 1) % 2).toNat []) x.g) : loadS d = (x, 0) := by
  obtain ⟨k, k2, e1, e2⟩ := two_slots (g := x.g)
  rw [e1] at s1
  rw [e2] at s2
  exact qt_load hq k2 (by rw [s1]; exact (trip_enc hx).2.1) s2.dec
theorem Inv.rd {n : Nat} {d : Dk} {j : Jn} {c : Ct} (h : Inv n d j c) : Rd n d j.x c :=
  ⟨h.q, h.x, slots_load h.q h.x h.s1 h.s2, ck_read h.q h.ck, (log_read h.q h.lg).1, h.p⟩
theorem Inv.fits {n : Nat} {d : Dk} {j : Jn} {c : Ct} (h : Inv n d j c) : jB d j = true ∧ 0 ≤ j.n ∧ j.n ≤ ((n - 2 - 2 * ar n : Nat) : Int) ∧ 0 ≤ j.r ∧ j.r ≤ j.n := by
  obtain ⟨n1, n2⟩ := qt_len h.q
  obtain ⟨b1, b2, b3⟩ := ar_bounds n1
  obtain ⟨U, V, h1, h2, h3, h4⟩ := h.lg
  have hl := congrArg List.length h1
  rw [List.length_drop, List.length_append, h.q.s] at hl
  have h5 := Lg.len h3
  have h6 := h.r
  have hb : 0 ≤ j.n ∧ j.n ≤ ((n - 2 - 2 * ar n : Nat) : Int) ∧ 0 ≤ j.r ∧ j.r ≤ j.n := by omega
  refine ⟨?_, hb⟩
  unfold jB
  rw [h.x, areas_ok h.q.v, sz_eq h.q.s, Bool.true_and, decide_eq_true_iff]
  exact hb
/-- a disk whose other sectors are as before -/
theorem Inv.same {n : Nat} {d d2 : Dk} {j : Jn} {c : Ct} (h : Inv n d j c) (hq : Qt n d2) (hs : ∀ k, k < n → (k < 2 ∨ (aof n j.x.a ≤ k ∧ k < aof n j.x.a + ar n ∧ j.x.a ≠ 0) ∨ 2 + 2 * ar n ≤ k) → d2.S.getD k [] = d.S.getD k []) : Inv n d2 j c := by
  obtain ⟨n1, n2⟩ := qt_len h.q
  obtain ⟨b1, b2, b3⟩ := ar_bounds n1
  obtain ⟨a1, a2⟩ := aof_le n j.x.a
  refine ⟨hq, h.x, ?_, ?_, ?_, h.p, log_congr h.lg (by rw [hq.s, h.q.s]) (fun k k1 k2 => hs k (by rw [h.q.s] at k2; exact k2) (.inr (.inr k1))), h.r⟩
  · rw [hs _ (by omega) (.inl (by omega))]; exact h.s1
  · rw [hs _ (by omega) (.inl (by omega))]; exact h.s2
  · by_cases h0 : j.x.a = 0
    · rcases h.ck with h' | ⟨h', _⟩
      · exact .inl h'
      · omega
    · exact ckp_congr h.ck (fun k k1 k2 => hs k (by omega) (.inr (.inl ⟨k1, k2, h0⟩)))
/-- what is left after a crash: an opening finds the contents c or c2 -/
def Lst (n : Nat) (d : Dk) (top : Int) (c c2 : Ct) : Prop := d.fuse = 0 ∧ ∃ x, x.g ≤ top ∧ (Rd n d x c ∨ Rd n d x c2)
theorem Inv.crash {n : Nat} {d : Dk} {j : Jn} {c : Ct} (h : Inv n d j c) (c2 : Ct) (kb : List Bool) (tear : Int) : Lst n (crashD d kb tear) j.x.g c c2 := by
  obtain ⟨q1, q2, q3⟩ := crash_quiet h.q kb tear
  exact ⟨q2, j.x, Int.le_refl _, .inl (h.same q1 (fun k _ _ => by rw [q3])).rd⟩

/-! ### a superblock is stored -/
theorem store_wr {d : Dk} {x : Sp} (hx : spB x = true) : storeS d x = wrF [(encS x).1] d (x.g % 2) := by
  obtain ⟨t1, _⟩ := trip_enc hx
  have hr : wrF [(encS x).1] d (x.g % 2) = if (writeS d (x.g % 2) (encS x).1).2 = 0 then wrF [] (writeS d (x.g % 2) (encS x).1).1 (x.g % 2 + 1) else writeS d (x.g % 2) (encS x).1 := rfl
  unfold storeS
  rw [if_neg (by rw [t1]; simp), hr, wrF_nil]
  by_cases h : (writeS d (x.g % 2) (encS x).1).2 = 0
  · rw [if_pos h, if_neg (by rw [h]; simp)]
  · rw [if_neg h, if_pos h]
theorem store_out {n : Nat} {d : Dk} (hq : Qt n d) {x : Sp} (hx : spB x = true) : ∃ d2 e, storeS d x = (d2, e) ∧ WrOut d (x.g % 2).toNat [(encS x).1] d2 e := by
  obtain ⟨n1, n2⟩ := qt_len hq
  obtain ⟨_, _, t3⟩ := trip_enc hx
  obtain ⟨d2, e, h1, h2⟩ := wr_out [(encS x).1] d (x.g % 2).toNat hq.v hq.a (fun s hs => by rw [List.mem_singleton.1 hs]; exact t3) (by rw [hq.s]; simp only [List.length_cons, List.length_nil]; omega)
  refine ⟨d2, e, ?_, h2⟩
  rw [store_wr hx, ← h1]
  congr 1; omega
/-- behind a superblock that is stored: its slot holds it, the other slot and all else is as before -/
theorem store_put {n : Nat} {d d2 : Dk} (hq : Qt n d) {x y : Sp} (hx : spB x = true) (hg : y.g = x.g + 1) (s1 : d.S.getD (x.g % 2).toNat [] = (encS x).1) (hp : Put d.S (y.g % 2).toNat [(encS y).1] d2.S) :
    d2.S.getD (y.g % 2).toNat [] = (encS y).1 ∧ Sl (d2.S.getD ((y.g + 1) % 2).toNat []) y.g ∧ ∀ k, 2 ≤ k → k < n → d2.S.getD k [] = d.S.getD k [] := by
  obtain ⟨n1, n2⟩ := qt_len hq
  obtain ⟨p1, p2⟩ := hp
  rw [hq.s] at p2
  refine ⟨?_, ?_, fun k k1 k2 => ?_⟩
  · rw [p2 _ (by omega), if_pos (by simp), Nat.sub_self]; rfl
  · rw [p2 _ (by omega), if_neg (by simp only [List.length_cons, List.length_nil]; omega), show ((y.g + 1) % 2).toNat = (x.g % 2).toNat by omega, s1]
    exact .inr ⟨x, hx, rfl, by omega⟩
  · rw [p2 _ (by omega), if_neg (by simp only [List.length_cons, List.length_nil]; omega)]
theorem store_left {n : Nat} {d c : Dk} (hq : Qt n d) (hqc : Qt n c) {x y : Sp} (hx : spB x = true) (hy : spB y = true) (hg : y.g = x.g + 1) (s1 : d.S.getD (x.g % 2).toNat [] = (encS x).1) (s2 : Sl (d.S.getD ((x.g + 1) % 2).toNat []) x.g)
    (hl : Left d.S (y.g % 2).toNat [(encS y).1] c.S) : (loadS c = (x, 0) ∨ loadS c = (y, 0)) ∧ ∀ k, 2 ≤ k → k < n → c.S.getD k [] = d.S.getD k [] := by
  obtain ⟨n1, n2⟩ := qt_len hq
  obtain ⟨l1, l2⟩ := hl
  rw [hq.s] at l2
  have hrest : ∀ k, k < n → k ≠ (y.g % 2).toNat → c.S.getD k [] = d.S.getD k [] := by
    intro k hk hne
    rcases l2 k hk with h | ⟨h1, h2, _⟩
    · exact h
    · simp only [List.length_cons, List.length_nil] at h2; omega
  refine ⟨?_, fun k k1 k2 => hrest k k2 (by omega)⟩
  obtain ⟨k, k2, e1, e2⟩ := two_slots (g := x.g)
  have ey : (y.g % 2).toNat = 1 - k := by rw [← e2]; omega
  rw [e1] at s1
  rw [e2] at s2
  rw [ey] at l2 hrest
  have hk1 : c.S.getD k [] = (encS x).1 := by rw [hrest k (by omega) (by omega)]; exact s1
  have hsl : loadS c = (x, 0) ∨ c.S.getD (1 - k) [] = (encS y).1 := by
    rcases l2 (1 - k) (by omega) with h | ⟨_, _, m, hm, h⟩
    · left
      exact qt_load hqc k2 (by rw [hk1]; exact (trip_enc hx).2.1) (by rw [h]; exact s2.dec)
    · rw [Nat.sub_self] at h
      rcases torn_dec hy (s2.mono (by omega)) hm rfl h with r | r | r
      · left; exact qt_load hqc k2 (by rw [hk1]; exact (trip_enc hx).2.1) (.inl r)
      · right; exact r
      · left; exact qt_load hqc k2 (by rw [hk1]; exact (trip_enc hx).2.1) (by rw [r]; exact s2.dec)
  rcases hsl with h | h
  · exact .inl h
  · right
    refine qt_load hqc (k := 1 - k) (by omega) (by rw [h]; exact (trip_enc hy).2.1) ?_
    rw [show 1 - (1 - k) = k by omega, hk1, (trip_enc hx).2.1]
    right; show x.g < y.g; omega
end Go.Proofs.Ytkpfkknldeafkaa
namespace Go.Proofs.Ytkpfkknldeafkaa
open Go.RowKit

theorem next_spB {x : Sp} (hx : spB x = true) (hg : x.g < 1099511627776) : spB (nextS x) = true := by
  obtain ⟨h1, h2, h3, h4, h5, h6, h7, h8⟩ := (spB_iff x).1 hx
  rw [spB_iff]
  exact ⟨by show 1 ≤ x.g + 1; omega, by show x.g + 1 ≤ _; omega, h3, by show x.e ≤ x.g + 1; omega, h5, h6, h7, h8⟩
theorem log_next {n : Nat} {S : List (List UInt8)} {x : Sp} {u : Int} {R : List (List UInt8)} (h : Log n S x u R) : Log n S (nextS x) u R := by
  obtain ⟨U, V, h1, h2, h3, h4⟩ := h
  exact ⟨U, V, h1, h2, Lg.top (by show x.g ≤ x.g + 1; omega) h3, h4⟩
theorem open_rd {n : Nat} {d d2 : Dk} {x : Sp} {c : Ct} {e : Int} (h : Rd n d x c) (hg : x.g < 1099511627776) (hs : storeS d (nextS x) = (d2, e)) :
    openW d = if e = 0 then ⟨d2, ⟨nextS x, ((logS d x).2 : Int), (c.recs.length : Int)⟩, c.image, c.recs, 0⟩ else ⟨d2, j0, [], [], e⟩ := by
  unfold openW
  rw [if_pos h.q.v, h.l]
  simp only
  rw [if_neg (by decide), if_pos trivial, h.k]
  simp only
  rw [if_pos trivial, if_neg (by omega), hs]
  simp only
  rw [h.g]
/-- what dies: the disk is dead, and behind any crash an opening finds c or c2 -/
def Died (n : Nat) (d d2 : Dk) (top : Int) (c c2 : Ct) : Prop :=
  d.fuse ≠ 0 ∧ d2.dead = true ∧ d2.S.length = n ∧ d2.P.length ≤ 2048 ∧ ∀ kb tear, Lst n (crashD d2 kb tear) top c c2
theorem died_len {n : Nat} {d d2 : Dk} {f : Nat} {L : List (List UInt8)} {e : Int} (hq : Qt n d) (hL : L.length ≤ 1024) (h : WrOut d f L d2 e) (he : e ≠ 0) : e = 18 ∧ d.fuse ≠ 0 ∧ d2.dead = true ∧ d2.S.length = n ∧ d2.P.length ≤ 2048 := by
  obtain ⟨h1, ⟨h0, h3, h4, h6, m, h5⟩ | h2⟩ := h
  · refine ⟨h0, h6, h3, by rw [h4]; exact hq.s, ?_⟩
    rw [h5, hq.p, List.nil_append, List.length_take, wl_length]; omega
  · exact absurd h2.1 he
theorem wr_zero {d d2 : Dk} {f : Nat} {L : List (List UInt8)} {e : Int} (_h : WrOut d f L d2 e) : e = 0 ∨ e ≠ 0 := by by_cases h : e = 0 <;> simp [h]

theorem open_out {n : Nat} {d : Dk} {j : Jn} {c : Ct} (h : Inv n d j c) (hg : j.x.g < 1099511627776) :
    ∃ d2, (openW d = ⟨d2, ⟨nextS j.x, j.n, j.r⟩, c.image, c.recs, 0⟩ ∧ Inv n d2 ⟨nextS j.x, j.n, j.r⟩ c ∧ (d.fuse = 0 → d2.fuse = 0)) ∨
      (openW d = ⟨d2, j0, [], [], 18⟩ ∧ Died n d d2 (j.x.g + 1) c c) := by
  have hy := next_spB h.x hg
  have hyg : (nextS j.x).g = j.x.g + 1 := rfl
  obtain ⟨n1, n2⟩ := qt_len h.q
  obtain ⟨b1, b2, b3⟩ := ar_bounds n1
  obtain ⟨d2, e, q1, q2⟩ := store_out h.q hy
  refine ⟨d2, ?_⟩
  have ho := open_rd h.rd hg q1
  have hu := (log_read h.q h.lg).2
  obtain ⟨a1, a2⟩ := aof_le n j.x.a
  rcases wr_zero q2 with he | he
  · left
    obtain ⟨w1, w2, w3⟩ := wr_put h.q (by simp only [List.length_cons, List.length_nil]; omega) q2 he
    obtain ⟨p1, p2, p3⟩ := store_put h.q h.x hyg h.s1 w2
    refine ⟨by rw [ho, if_pos he, hu, h.r], ⟨w1, hy, p1, p2, ckp_congr (x := nextS j.x) h.ck (fun k k1 k2 => p3 k (by have e : aof n (nextS j.x).a = aof n j.x.a := rfl; omega) (by have e : aof n (nextS j.x).a = aof n j.x.a := rfl; omega)), h.p,
      log_next (log_congr h.lg (by rw [w1.s, h.q.s]) (fun k k1 k2 => p3 k (by omega) (by rw [h.q.s] at k2; exact k2))), h.r⟩, w3⟩
  · right
    obtain ⟨r1, r2, r3, r4, r5⟩ := died_len h.q (by simp) q2 he
    refine ⟨by rw [ho, if_neg he, r1], r2, r3, r4, r5, fun kb tear => ?_⟩
    obtain ⟨c1, c2, c3⟩ := crash_left h.q (by simp only [List.length_cons, List.length_nil]; omega) (fun s hs => by rw [List.mem_singleton.1 hs]; exact (trip_enc hy).2.2) q2 he kb tear
    obtain ⟨l1, l2⟩ := store_left h.q c1 h.x hy hyg h.s1 h.s2 c3
    have hck : Ckp n (crashD d2 kb tear).S j.x c.image := ckp_congr h.ck (fun k k1 k2 => l2 k (by omega) (by omega))
    have hlg : Log n (crashD d2 kb tear).S j.x j.n c.recs := log_congr h.lg (by rw [c1.s, h.q.s]) (fun k k1 k2 => l2 k (by omega) (by rw [h.q.s] at k2; exact k2))
    refine ⟨c2, ?_⟩
    rcases l1 with l1 | l1
    · exact ⟨j.x, by omega, .inl ⟨c1, h.x, l1, ck_read c1 hck, (log_read c1 hlg).1, h.p⟩⟩
    · exact ⟨nextS j.x, by rw [hyg]; omega, .inl ⟨c1, hy, l1, ck_read (x := nextS j.x) c1 hck, (log_read c1 (log_next hlg)).1, h.p⟩⟩
/-! ### Append -/
def Ct.add (c : Ct) (l : List UInt8) : Ct := { c with recs := c.recs ++ [l] }
theorem app_out {n : Nat} {d : Dk} {j : Jn} {c : Ct} (h : Inv n d j c) (l : List UInt8) :
    ((planS d j l).2 ≠ 0 ∧ (planS d j l).2 ≠ 18 ∧ appW d j l = (d, j0, (planS d j l).2)) ∨
    ((planS d j l).2 = 0 ∧ ∃ d2 SL, 
      (appW d j l = (d2, ⟨j.x, j.n + (SL.length : Int), j.r + 1⟩, 0) ∧ Inv n d2 ⟨j.x, j.n + (SL.length : Int), j.r + 1⟩ (c.add l) ∧ Put d.S (2 + 2 * ar n + j.n.toNat) SL d2.S ∧ (d.fuse = 0 → d2.fuse = 0)) ∨
      (appW d j l = (d2, j0, 18) ∧ Died n d d2 (j.x.g + 1) c (c.add l))) := by
  obtain ⟨n1, n2⟩ := qt_len h.q
  obtain ⟨b1, b2, b3⟩ := ar_bounds n1
  obtain ⟨jb, f1, f2, f3, f4⟩ := h.fits
  obtain ⟨⟨SL, e⟩, hpl⟩ : ∃ r, planS d j l = r := ⟨_, rfl⟩
  rw [hpl]
  simp only
  have hpl2 := hpl
  unfold planS at hpl
  rw [if_pos ⟨h.q.v, jb⟩] at hpl
  by_cases he : e = 0
  · right
    refine ⟨he, ?_⟩
    subst he
    have hsp : splitS j.x.g l = (SL, 0) ∧ ((SL.length : Int) ≤ (szN d : Int) - j.n) := by
      split at hpl
      · rename_i hs0
        split at hpl
        · simp at hpl
        · rename_i hfit
          simp only [Prod.mk.injEq, and_true] at hpl
          rw [hpl] at hfit
          exact ⟨Prod.ext hpl hs0, by omega⟩
      · rename_i hs0
        simp only [Prod.mk.injEq] at hpl
        exact absurd hpl.2 hs0
    obtain ⟨hs, hfit⟩ := hsp
    rw [sz_eq h.q.s] at hfit
    obtain ⟨g1, g2, s1, s2, s3, s4, s5⟩ := split_secs hs
    have h64 := split_len64 hs
    obtain ⟨u, hu⟩ : ∃ u : Nat, j.n = u := ⟨j.n.toNat, by omega⟩
    have hfn : 2 + 2 * (arN d : Int) + j.n = ((2 + 2 * ar n + u : Nat) : Int) := by rw [ar_eq h.q.s]; omega
    obtain ⟨d2, e, q1, q2⟩ := wr_out SL d (2 + 2 * ar n + u) h.q.v h.q.a h64 (by rw [h.q.s]; omega)
    have happ : appW d j l = if e = 0 then (d2, ⟨j.x, j.n + (SL.length : Int), j.r + 1⟩, 0) else (d2, j0, e) := by
      unfold appW; rw [hpl2]; simp only; rw [hfn, q1]; simp only; rw [if_pos trivial]
    obtain ⟨U, V, v1, v2, v3, v4⟩ := h.lg
    have hUV := congrArg List.length v1
    rw [List.length_drop, List.length_append, h.q.s] at hUV
    have hUu : U.length = u := by omega
    have hVk : ∀ i, i < V.length → d.S.getD (2 + 2 * ar n + u + i) [] = V.getD i [] := by
      intro i hi
      have hd : 2 + 2 * ar n + u + i < d.S.length := by rw [h.q.s]; omega
      have : (d.S.drop (2 + 2 * ar n))[u + i]? = V[i]? := by rw [v1, List.getElem?_append_right (by omega), hUu, show u + i - u = i by omega]
      rw [List.getElem?_drop] at this
      rw [List.getD_eq_getElem?_getD, List.getD_eq_getElem?_getD, ← this]
      congr 2; omega
    obtain ⟨a1, a2⟩ := aof_le n j.x.a
    refine ⟨d2, SL, ?_⟩
    rcases wr_zero q2 with he | he
    · left
      obtain ⟨w1, w2, w3⟩ := wr_put h.q (by omega) q2 he
      have hput := w2
      obtain ⟨p1, p2⟩ := w2
      rw [h.q.s] at p2
      refine ⟨by rw [happ, if_pos he], ?_, by rw [hu, Int.toNat_natCast]; exact hput, w3⟩
      refine ⟨w1, h.x, ?_, ?_, ckp_congr (x := j.x) h.ck (fun k k1 k2 => by rw [p2 k (by omega), if_neg (by omega)]), h.p, ?_, ?_⟩
      · show d2.S.getD (j.x.g % 2).toNat [] = _; rw [p2 _ (by omega), if_neg (by omega)]; exact h.s1
      · show Sl (d2.S.getD ((j.x.g + 1) % 2).toNat []) _; rw [p2 _ (by omega), if_neg (by omega)]; exact h.s2
      · refine ⟨U ++ SL, V.drop SL.length, ?_, ?_, Lg.snoc hs v3 ?_, fun s hs => v4 s (List.mem_of_mem_drop hs)⟩
        · apply List.ext_getElem
          · simp only [List.length_drop, List.length_append, w1.s]; omega
          · intro i i1 i2
            have hi : 2 + 2 * ar n + i < d2.S.length := by rw [List.length_drop] at i1; omega
            have hin : 2 + 2 * ar n + i < n := by rw [w1.s] at hi; exact hi
            rw [List.getElem_drop, ← getD_at hi, p2 _ hin, ← getD_at i2, List.append_assoc]
            by_cases c1 : i < u
            · rw [if_neg (by omega)]
              have : (d.S.drop (2 + 2 * ar n))[i]? = (U ++ V)[i]? := by rw [v1]
              rw [List.getElem?_drop, List.getElem?_append_left (by omega)] at this
              rw [List.getD_eq_getElem?_getD, this, List.getD_eq_getElem?_getD, List.getElem?_append_left (by omega)]
            · by_cases c2 : i < u + SL.length
              · rw [if_pos (by omega), List.getD_eq_getElem?_getD, List.getD_eq_getElem?_getD, List.getElem?_append_right (by omega), hUu, List.getElem?_append_left (by omega)]
                congr 2; omega
              · rw [if_neg (by omega)]
                have hk := hVk (i - u) (by omega)
                rw [show 2 + 2 * ar n + u + (i - u) = 2 + 2 * ar n + i by omega] at hk
                rw [hk, List.getD_eq_getElem?_getD, List.getD_eq_getElem?_getD, List.getElem?_append_right (by omega), hUu, List.getElem?_append_right (by omega), List.getElem?_drop]
                congr 2; omega
        · show ((U ++ SL).length : Int) = j.n + (SL.length : Int); rw [List.length_append]; omega
        · show j.x.e ≤ j.x.g; exact ((spB_iff j.x).1 h.x).2.2.2.1
      · show j.r + 1 = (((c.add l).recs.length : Nat) : Int)
        unfold Ct.add
        simp only [List.length_append, List.length_cons, List.length_nil]
        have := h.r
        omega
    · right
      obtain ⟨r1, r2, r3, r4, r5⟩ := died_len h.q (by omega) q2 he
      refine ⟨by rw [happ, if_neg he, r1], r2, r3, r4, r5, fun kb tear => ?_⟩
      obtain ⟨c1, c2, c3⟩ := crash_left h.q (by omega) h64 q2 he kb tear
      obtain ⟨l1, l2⟩ := c3
      rw [h.q.s] at l2
      have hrest : ∀ k, k < n → ¬ (2 + 2 * ar n + u ≤ k ∧ k < 2 + 2 * ar n + u + SL.length) → (crashD d2 kb tear).S.getD k [] = d.S.getD k [] := by
        intro k hk hne
        rcases l2 k hk with h' | ⟨h1, h2, _⟩
        · exact h'
        · exact absurd ⟨h1, h2⟩ hne
      have hld : loadS (crashD d2 kb tear) = (j.x, 0) := by
        refine slots_load c1 h.x ?_ ?_
        · rw [hrest _ (by omega) (by omega)]; exact h.s1
        · rw [hrest _ (by omega) (by omega)]; exact h.s2
      have hck : Ckp n (crashD d2 kb tear).S j.x c.image := ckp_congr h.ck (fun k k1 k2 => hrest k (by omega) (by omega))
      have hxe : j.x.e ≤ j.x.g := ((spB_iff j.x).1 h.x).2.2.2.1
      -- the log behind the crash
      obtain ⟨X, hX⟩ : ∃ X, (crashD d2 kb tear).S.drop (2 + 2 * ar n + u) = X := ⟨_, rfl⟩
      have hXl : X.length = V.length := by rw [← hX, List.length_drop, c1.s]; omega
      have hXk : ∀ i, i < X.length → X.getD i [] = (crashD d2 kb tear).S.getD (2 + 2 * ar n + u + i) [] := by
        intro i hi
        rw [← hX, List.getD_eq_getElem?_getD, List.getElem?_drop, ← List.getD_eq_getElem?_getD]
      have hUX : (crashD d2 kb tear).S.drop (2 + 2 * ar n) = U ++ X := by
        have e1 : (crashD d2 kb tear).S.drop (2 + 2 * ar n) = ((crashD d2 kb tear).S.drop (2 + 2 * ar n)).take u ++ ((crashD d2 kb tear).S.drop (2 + 2 * ar n)).drop u := (List.take_append_drop _ _).symm
        rw [e1, List.drop_drop, hX]
        congr 1
        rw [reg_congr (S' := d.S) (by rw [c1.s, h.q.s]) (fun k k1 k2 => hrest k (by omega) (by omega)), v1, List.take_left' hUu]
      have hlog : (logS (crashD d2 kb tear) j.x).1 = c.recs ∨ (logS (crashD d2 kb tear) j.x).1 = c.recs ++ [l] := by
        rw [log_reg c1, hUX]
        have hpart := join_part (X := X) (e := j.x.e) hs (by omega) (fun i hi => by
          rw [hXk i (by omega)]
          have hv : Old j.x.e (V.getD i []) := by rw [getD_at (by omega)]; exact v4 _ (List.getElem_mem _)
          have hsv := hVk i (by omega)
          rcases l2 (2 + 2 * ar n + u + i) (by omega) with h' | ⟨_, _, m, hm, h'⟩
          · left; rw [h', hsv]; exact hv.bad
          · rw [show 2 + 2 * ar n + u + i - (2 + 2 * ar n + u) = i by omega, hsv] at h'
            obtain ⟨dd, t1, t2, t3, t4⟩ := s5 i hi
            rw [getD_at hi] at h' ⊢
            rcases torn_sec t1 t2 t3 hv hxe (by omega) hm h' with r | r | r
            · exact .inl (.inl r)
            · exact .inr r
            · left; rw [r]; exact hv.bad) hxe
        rcases hpart with hall | hno
        · right
          have hXs : X = SL ++ X.drop SL.length := by
            have e1 : X.take SL.length = SL := by
              apply List.ext_getElem
              · rw [List.length_take]; omega
              · intro i i1 i2
                rw [List.getElem_take, ← getD_at (by omega), hall i i2, getD_at i2]
            have e2 := List.take_append_drop SL.length X
            rw [e1] at e2; exact e2.symm
          have hold : ∀ s ∈ X.drop SL.length, Old j.x.e s := by
            intro s hs
            obtain ⟨i, hi, rfl⟩ := List.getElem_of_mem hs
            have hil : i < X.length - SL.length := by rw [List.length_drop] at hi; exact hi
            have e1 := hXk (SL.length + i) (by omega)
            have e2 := hrest (2 + 2 * ar n + u + (SL.length + i)) (by omega) (by omega)
            have e3 := hVk (SL.length + i) (by omega)
            have e4 : (X.drop SL.length)[i] = V.getD (SL.length + i) [] := by rw [List.getElem_drop, ← getD_at (by omega), e1, e2, e3]
            rw [e4, getD_at (by omega)]
            exact v4 _ (List.getElem_mem _)
          rw [hXs, ← List.append_assoc, Lg.rec (Lg.snoc hs v3 hxe) (fun least hl => head_old hold least _ hl)]
        · left
          rw [Lg.rec v3 (fun least hl => hno least _ hl)]
      refine ⟨c2, j.x, by omega, ?_⟩
      rcases hlog with hl | hl
      · exact .inl ⟨c1, h.x, hld, ck_read c1 hck, hl, h.p⟩
      · exact .inr ⟨c1, h.x, hld, ck_read (im := (c.add l).image) c1 hck, hl, h.p⟩
  · left
    refine ⟨he, ?_, ?_⟩
    · have hse : (splitS j.x.g l).2 = 0 ∨ (splitS j.x.g l).2 = 1 ∨ (splitS j.x.g l).2 = 2 := by
        unfold splitS
        split
        · simp
        · split <;> simp
      split at hpl
      · split at hpl
        · simp only [Prod.mk.injEq] at hpl; omega
        · simp only [Prod.mk.injEq] at hpl; omega
      · simp only [Prod.mk.injEq] at hpl; omega
    · unfold appW; rw [hpl2]; simp only; rw [if_neg he]
end Go.Proofs.Ytkpfkknldeafkaa
namespace Go.Proofs.Ytkpfkknldeafkaa
open Go.RowKit

theorem other_area {x : Sp} (h : spB x = true) : 1 ≤ otherA x ∧ otherA x ≤ 2 ∧ otherA x ≠ x.a := by
  obtain ⟨_, _, _, _, a1, a2, _⟩ := (spB_iff x).1 h
  unfold otherA; split <;> omega
theorem area_apart (n : Nat) {a b : Int} (ha : a = 1 ∨ a = 2) (hb : b = 1 ∨ b = 2) (h : a ≠ b) {k : Nat} (h1 : aof n a ≤ k) (h2 : k < aof n a + ar n) : ¬ (aof n b ≤ k ∧ k < aof n b + ar n) := by
  unfold aof at *
  rcases ha with rfl | rfl <;> rcases hb with rfl | rfl
  · exact absurd rfl h
  · rw [if_neg (by decide)] at h1 h2; rw [if_pos rfl]; omega
  · rw [if_pos rfl] at h1 h2; rw [if_neg (by decide)]; omega
  · exact absurd rfl h
theorem split_codes (g : Int) (l : List UInt8) : (splitS g l).2 = 0 ∨ (splitS g l).2 = 1 ∨ (splitS g l).2 = 2 := by
  unfold splitS
  split
  · simp
  · split <;> simp
/-- what Reset changes -/
def Chg (n : Nat) (a : Int) (S S2 : List (List UInt8)) : Prop := ∀ k, k < n → ¬ (k < 2 ∨ (aof n a ≤ k ∧ k < aof n a + ar n)) → S2.getD k [] = S.getD k []
theorem res_out {n : Nat} {d : Dk} {j : Jn} {c : Ct} (h : Inv n d j c) (l : List UInt8) (p : Int) :
    (resE d j l p ≠ 0 ∧ resE d j l p ≠ 18 ∧ resW d j l p = (d, j0, resE d j l p)) ∨
    (resE d j l p = 0 ∧ ∃ d2,
      (resW d j l p = (d2, ⟨resX j l p, 0, 0⟩, 0) ∧ Inv n d2 ⟨resX j l p, 0, 0⟩ ⟨l, p, []⟩ ∧ Chg n (otherA j.x) d.S d2.S ∧ (d.fuse = 0 → d2.fuse = 0)) ∨
      (resW d j l p = (d2, j0, 18) ∧ Died n d d2 (j.x.g + 1) c ⟨l, p, []⟩)) := by
  obtain ⟨n1, n2⟩ := qt_len h.q
  obtain ⟨b1, b2, b3⟩ := ar_bounds n1
  obtain ⟨jb, f1, f2, f3, f4⟩ := h.fits
  by_cases he : resE d j l p = 0
  · right
    refine ⟨he, ?_⟩
    have hE := he
    unfold resE at hE
    by_cases h1 : resArg d j l p = true
    · rw [if_pos h1] at hE
      by_cases h2 : 16384 < l.length ∨ j.x.g = 1099511627776
      · rw [if_pos h2] at hE; simp at hE
      · rw [if_neg h2] at hE
        by_cases h3 : (splitS (j.x.g + 1) l).2 = 0
        · rw [if_pos h3] at hE
          by_cases h4 : arN d < (splitS (j.x.g + 1) l).1.length
          · rw [if_pos h4] at hE; simp at hE
          · clear hE
            obtain ⟨SL, hSL⟩ : ∃ SL, (splitS (j.x.g + 1) l).1 = SL := ⟨_, rfl⟩
            rw [hSL] at h4
            have hs : splitS (j.x.g + 1) l = (SL, 0) := Prod.ext hSL h3
            obtain ⟨g1, g2, s1, s2, s3, s4, s5⟩ := split_secs hs
            have h64 := split_len64 hs
            rw [ar_eq h.q.s] at h4
            unfold resArg at h1
            simp only [Bool.and_eq_true, decide_eq_true_eq] at h1
            obtain ⟨_, _, hne, hp0, hp1⟩ := h1
            have hl1 : 1 ≤ l.length := List.length_pos_iff.2 hne
            obtain ⟨oa1, oa2, oa3⟩ := other_area h.x
            obtain ⟨y, hy⟩ : ∃ y, resX j l p = y := ⟨_, rfl⟩
            have yg : y.g = j.x.g + 1 := by rw [← hy]; rfl
            have ye : y.e = j.x.g + 1 := by rw [← hy]; rfl
            have ya : y.a = otherA j.x := by rw [← hy]; rfl
            have yz : y.z = (l.length : Int) := by rw [← hy]; rfl
            have yp : y.p = p := by rw [← hy]; rfl
            have hys : spB y = true := by
              rw [spB_iff, yg, ye, ya, yz, yp]
              refine ⟨g1, g2, by omega, by omega, by omega, oa2, fun h0 => by omega, fun _ => ⟨by omega, by omega, hp0, hp1⟩⟩
            rw [hy]
            obtain ⟨a1, a2⟩ := aof_le n (otherA j.x)
            have hao := aof_eq n ⟨oa1, oa2⟩
            have hfn : 2 + (otherA j.x - 1) * (arN d : Int) = ((aof n (otherA j.x) : Nat) : Int) := by rw [ar_eq h.q.s, hao]
            obtain ⟨d1, e1, q1, q2⟩ := wr_out SL d (aof n (otherA j.x)) h.q.v h.q.a h64 (by rw [h.q.s]; omega)
            have hres : resW d j l p = if e1 = 0 then (if (storeS d1 y).2 = 0 then ((storeS d1 y).1, ⟨y, 0, 0⟩, 0) else ((storeS d1 y).1, j0, (storeS d1 y).2)) else (d1, j0, e1) := by
              have hrD : resD d j l p SL = if e1 = 0 then storeS d1 y else (d1, e1) := by
                unfold resD; rw [hfn, q1, hy]
              unfold resW
              rw [if_pos he, hSL, hrD, hy]
              by_cases h0 : e1 = 0
              · rw [if_pos h0, if_pos h0]
              · rw [if_neg h0, if_neg h0]
                simp only
                rw [if_neg h0]
            have hsame : ∀ k, k < n → (k < 2 ∨ (aof n j.x.a ≤ k ∧ k < aof n j.x.a + ar n ∧ j.x.a ≠ 0) ∨ 2 + 2 * ar n ≤ k) → ¬ (aof n (otherA j.x) ≤ k ∧ k < aof n (otherA j.x) + ar n) := by
              intro k hk hcase
              rcases hcase with h' | ⟨h1', h2', h3'⟩ | h'
              · omega
              · obtain ⟨_, _, _, _, x1, x2, _⟩ := (spB_iff j.x).1 h.x
                exact area_apart n (a := j.x.a) (b := otherA j.x) (by omega) (by omega) (fun e => oa3 e.symm) h1' h2'
              · omega
            rcases wr_zero q2 with h0 | h0
            · obtain ⟨w1, w2, w3⟩ := wr_put h.q (by omega) q2 h0
              obtain ⟨p1, p2⟩ := w2
              rw [h.q.s] at p2
              rw [if_pos h0] at hres
              have hI : Inv n d1 j c := h.same w1 (fun k hk hcase => by rw [p2 k hk, if_neg (fun hh => hsame k hk hcase ⟨hh.1, by omega⟩)])
              have hImg : ∀ S2 : List (List UInt8), (∀ k, 2 ≤ k → k < n → S2.getD k [] = d1.S.getD k []) → Ckp n S2 y l := by
                intro S2 hS2
                right
                rw [ya, ye, yz]
                refine ⟨oa1, oa2, SL, hs, by omega, rfl, fun i hi => ?_⟩
                rw [hS2 _ (by omega) (by omega), p2 _ (by omega), if_pos (by omega)]
                congr 1; omega
              have hLog : ∀ S2 : List (List UInt8), S2.length = n → (∀ k, 2 ≤ k → k < n → S2.getD k [] = d1.S.getD k []) → Log n S2 y 0 [] := by
                intro S2 hl2 hS2
                obtain ⟨U, V, v1, v2, v3, v4⟩ := hI.lg
                refine ⟨[], S2.drop (2 + 2 * ar n), rfl, rfl, rfl, ?_⟩
                rw [drop_congr (S := d1.S) (by rw [hl2, w1.s]) (fun k k1 k2 => hS2 k (by omega) (by rw [w1.s] at k2; exact k2)), v1, ye]
                have hxe : j.x.e ≤ j.x.g := ((spB_iff j.x).1 h.x).2.2.2.1
                intro s hs
                rcases List.mem_append.1 hs with hs | hs
                · exact Lg.old (by omega) v3 s hs
                · exact (v4 s hs).mono (by omega)
              obtain ⟨d2, e2, r1, r2⟩ := store_out w1 hys
              rw [r1] at hres
              refine ⟨d2, ?_⟩
              rcases wr_zero r2 with he2 | he2
              · left
                obtain ⟨z1, z2, z3⟩ := wr_put w1 (by simp only [List.length_cons, List.length_nil]; omega) r2 he2
                obtain ⟨t1, t2, t3⟩ := store_put w1 h.x yg hI.s1 z2
                refine ⟨by rw [hres]; simp only; rw [if_pos he2], ⟨z1, hys, t1, t2, hImg _ t3, yp.symm, hLog _ z1.s t3, rfl⟩, ?_, fun hf => z3 (w3 hf)⟩
                intro k hk hne
                rw [t3 k (by omega) hk, p2 k hk, if_neg (by omega)]
              · right
                obtain ⟨u1, u2, u3, u4, u5⟩ := died_len w1 (by simp) r2 he2
                refine ⟨by rw [hres]; simp only; rw [if_neg he2, u1], fun hf => u2 (w3 hf), u3, u4, u5, fun kb tear => ?_⟩
                obtain ⟨c1, c2, c3⟩ := crash_left w1 (by simp only [List.length_cons, List.length_nil]; omega) (fun s hs => by rw [List.mem_singleton.1 hs]; exact (trip_enc hys).2.2) r2 he2 kb tear
                obtain ⟨l1, l2⟩ := store_left w1 c1 h.x hys yg hI.s1 hI.s2 c3
                refine ⟨c2, ?_⟩
                rcases l1 with l1 | l1
                · obtain ⟨m1, m2⟩ := aof_le n j.x.a
                  have hck : Ckp n (crashD d2 kb tear).S j.x c.image := ckp_congr hI.ck (fun k k1 k2 => l2 k (by omega) (by omega))
                  have hlg : Log n (crashD d2 kb tear).S j.x j.n c.recs := log_congr hI.lg (by rw [c1.s, w1.s]) (fun k k1 k2 => l2 k (by omega) (by rw [w1.s] at k2; exact k2))
                  exact ⟨j.x, by omega, .inl ⟨c1, h.x, l1, ck_read c1 hck, (log_read c1 hlg).1, h.p⟩⟩
                · exact ⟨y, by omega, .inr ⟨c1, hys, l1, ck_read c1 (hImg _ l2), (log_read c1 (hLog _ c1.s l2)).1, yp.symm⟩⟩
            · refine ⟨d1, .inr ?_⟩
              rw [if_neg h0] at hres
              obtain ⟨r1, r2, r3, r4, r5⟩ := died_len h.q (by omega) q2 h0
              refine ⟨by rw [hres, r1], r2, r3, r4, r5, fun kb tear => ?_⟩
              obtain ⟨c1, c2, c3⟩ := crash_left h.q (by omega) h64 q2 h0 kb tear
              obtain ⟨l1, l2⟩ := c3
              rw [h.q.s] at l2
              refine ⟨c2, j.x, by omega, .inl (h.same c1 (fun k hk hcase => ?_)).rd⟩
              rcases l2 k hk with h' | ⟨k1, k2, _⟩
              · exact h'
              · exact absurd ⟨k1, by omega⟩ (hsame k hk hcase)
        · rw [if_neg h3] at hE; exact absurd hE h3
    · rw [if_neg h1] at hE; simp at hE
  · left
    refine ⟨he, ?_, ?_⟩
    · have := split_codes (j.x.g + 1) l
      unfold resE
      split
      · split
        · decide
        · split
          · split <;> decide
          · omega
      · decide
    · unfold resW; rw [if_neg he]

/-! ### the journal of a new disk -/
theorem new_valid (n : Nat) (h1 : 16 ≤ n) (h2 : n ≤ 1024) : ∃ d, newS (n : Int) = (d, 0) ∧ Qt n d ∧ d.fuse = 0 ∧ ∀ k, k < n → d.S.getD k [] = List.replicate 64 0 := by
  refine ⟨⟨List.replicate n B64, [], 0, 0, false⟩, ?_, ⟨?_, ?_, rfl, rfl⟩, rfl, fun k hk => ?_⟩
  · unfold newS; rw [if_pos (by omega), Int.toNat_natCast]
  · rw [validB_iff]
    refine ⟨?_, fun s hs => ?_, fun x hx => absurd hx (by simp)⟩
    · rw [numsB_iff]; simp only [List.length_replicate]; omega
    · rw [(List.mem_replicate.1 hs).2]; rfl
  · show (List.replicate n B64).length = n; simp
  · show (List.replicate n B64).getD k [] = _
    rw [List.getD_eq_getElem?_getD, List.getElem?_replicate, if_pos hk]; rfl
theorem dec_zero : (decS (List.replicate 64 0)).2 ≠ 0 := by decide +kernel
theorem sp1_ok : spB sp1 = true := by decide
theorem start_out (n : Nat) (h1 : 16 ≤ n) (h2 : n ≤ 1024) {d : Dk} (hd : newS (n : Int) = (d, 0)) :
    ∃ d2, openW d = ⟨d2, ⟨sp1, 0, 0⟩, [], [], 0⟩ ∧ Inv n d2 ⟨sp1, 0, 0⟩ ⟨[], 0, []⟩ ∧ d2.fuse = 0 := by
  obtain ⟨d', q0, q, hf, hz⟩ := new_valid n h1 h2
  rw [hd] at q0
  obtain rfl : d = d' := by simpa using q0
  clear q0
  have r0 : readS d 0 = (d.S.getD 0 [], 0) := qt_read q 0 (by omega)
  have r1 : readS d 1 = (d.S.getD 1 [], 0) := qt_read q 1 (by omega)
  have hl : loadS d = (sp0, 20) := by
    unfold loadS
    rw [r0, r1, hz 0 (by omega), hz 1 (by omega)]
    simp only
    have hb : bestS (List.replicate 64 0) (List.replicate 64 0) = (sp0, false) := by
      unfold bestS
      rw [if_neg (fun h => dec_zero h.1), if_neg dec_zero]
    rw [if_neg (by simp), if_neg (by simp), hb]
    simp
  obtain ⟨d2, e, q1, q2⟩ := store_out q sp1_ok
  have he : e = 0 := by
    rcases wr_zero q2 with he | he
    · exact he
    · exact absurd hf (died_len q (by simp) q2 he).2.1
  obtain ⟨w1, ⟨w2, w3⟩, w4⟩ := wr_put q (by show 1 + 1 ≤ n; omega) q2 he
  rw [q.s] at w3
  have hs : (sp1.g % 2).toNat = 1 := by decide
  rw [hs] at w3
  have hrest : ∀ k, k < n → k ≠ 1 → d2.S.getD k [] = List.replicate 64 0 := by
    intro k hk hne
    rw [w3 k hk, if_neg (by simp only [List.length_cons, List.length_nil]; omega), hz k hk]
  refine ⟨d2, ?_, ⟨w1, sp1_ok, ?_, ?_, .inl ⟨rfl, rfl⟩, rfl, ⟨[], d2.S.drop (2 + 2 * ar n), rfl, rfl, rfl, ?_⟩, rfl⟩, w4 hf⟩
  · unfold openW
    rw [if_pos q.v, hl]
    simp only
    rw [if_pos trivial, q1]
    simp only
    rw [if_pos he]
  · show d2.S.getD (sp1.g % 2).toNat [] = _
    rw [hs, w3 1 (by omega), if_pos (by simp)]; rfl
  · show Sl (d2.S.getD ((sp1.g + 1) % 2).toNat []) _
    rw [show ((sp1.g + 1) % 2).toNat = 0 by decide, hrest 0 (by omega) (by decide)]
    exact .inl rfl
  · intro s hs
    obtain ⟨i, hi, rfl⟩ := List.getElem_of_mem hs
    rw [List.length_drop, w1.s] at hi
    rw [List.getElem_drop, ← getD_at (by rw [w1.s]; omega), hrest _ (by omega) (by omega)]
    exact .inl rfl
/-- a fuse is set -/
theorem inv_fuse {n : Nat} {d : Dk} {j : Jn} {c : Ct} (h : Inv n d j c) (f : Int) : Inv n (fuseS d f) j c := by
  have e : fuseS d f = { d with fuse := min (max f 0) 1099511627776 } := by unfold fuseS; rw [if_pos h.q.v]
  have hS : (fuseS d f).S = d.S := by rw [e]
  refine h.same ⟨?_, by rw [hS]; exact h.q.s, by rw [e]; exact h.q.p, by rw [e]; exact h.q.a⟩ (fun k _ _ => by rw [hS])
  obtain ⟨v1, v2, v3⟩ := (validB_iff d).1 h.q.v
  obtain ⟨n1, n2, n3, n4, n5, n6⟩ := (numsB_iff d).1 v1
  rw [e, validB_iff]
  refine ⟨?_, v2, v3⟩
  rw [numsB_iff]; simp only; omega
end Go.Proofs.Ytkpfkknldeafkaa
namespace Go.Proofs.Ytkpfkknldeafkaa
open Go.RowKit

def hasC (c : Ct) (im : List UInt8) (j : Jn) (R : List (List UInt8)) : Bool := (c.image == im) && ((c.pos == j.x.p) && (decide (c.recs = R) && (j.r == (R.length : Int))))
theorem hasC_iff (c : Ct) (im : List UInt8) (j : Jn) (R : List (List UInt8)) : hasC c im j R = true ↔ c.image = im ∧ c.pos = j.x.p ∧ c.recs = R ∧ j.r = (R.length : Int) := by
  unfold hasC; simp only [Bool.and_eq_true, beq_iff_eq, decide_eq_true_eq]
def aft (c : Ct) (k : Int) (l : List UInt8) (p : Int) : Ct := if k = 0 then c.add l else if k = 1 then ⟨l, p, []⟩ else c

theorem wc_xxy_3 {W : World} {x y i0 i1 i2 : Nat} {u0 u1 u2 : Value} (h : W.drew.cell? ⟨x, i0, none⟩ = some u0 ∧ W.drew.cell? ⟨x, i1, none⟩ = some u1 ∧ W.drew.cell? ⟨y, i2, none⟩ = some u2) (b : Nat) (h_x : b ≠ x) (h_y : b ≠ y) (v0 v1 v2 : Value) :
    (((W.setCell ⟨b, 0, none⟩ v0).setCell ⟨b, 1, none⟩ v1).setCell ⟨b, 2, none⟩ v2).drew.cell? ⟨x, i0, none⟩ = some u0 ∧ (((W.setCell ⟨b, 0, none⟩ v0).setCell ⟨b, 1, none⟩ v1).setCell ⟨b, 2, none⟩ v2).drew.cell? ⟨x, i1, none⟩ = some u1 ∧ (((W.setCell ⟨b, 0, none⟩ v0).setCell ⟨b, 1, none⟩ v1).setCell ⟨b, 2, none⟩ v2).drew.cell? ⟨y, i2, none⟩ = some u2 := by
  obtain ⟨h0, h1, h2⟩ := h
  exact ⟨drew_cell (cell1_set _ h_x (cell1_set _ h_x (cell1_set _ h_x (cell_drew h0)))), drew_cell (cell1_set _ h_x (cell1_set _ h_x (cell1_set _ h_x (cell_drew h1)))), drew_cell (cell1_set _ h_y (cell1_set _ h_y (cell1_set _ h_y (cell_drew h2))))⟩
theorem dcells3_below {W W' : World} {b0 i0 b1 i1 b2 i2 : Nat} {u0 u1 u2 : Value} (h : W.cell? ⟨b0, i0, none⟩ = some u0 ∧ W.cell? ⟨b1, i1, none⟩ = some u1 ∧ W.cell? ⟨b2, i2, none⟩ = some u2) (hb : Below W.heap.size W W') : W'.cell? ⟨b0, i0, none⟩ = some u0 ∧ W'.cell? ⟨b1, i1, none⟩ = some u1 ∧ W'.cell? ⟨b2, i2, none⟩ = some u2 := by
  obtain ⟨h0, h1, h2⟩ := h
  exact ⟨cell1_below h0 hb, cell1_below h1 hb, cell1_below h2 hb⟩
theorem dcells15_below {W W' : World} {b0 i0 b1 i1 b2 i2 b3 i3 b4 i4 b5 i5 b6 i6 b7 i7 b8 i8 b9 i9 b10 i10 b11 i11 b12 i12 b13 i13 b14 i14 : Nat} {u0 u1 u2 u3 u4 u5 u6 u7 u8 u9 u10 u11 u12 u13 u14 : Value} (h : W.cell? ⟨b0, i0, none⟩ = some u0 ∧ W.cell? ⟨b1, i1, none⟩ = some u1 ∧ W.cell? ⟨b2, i2, none⟩ = some u2 ∧ W.cell? ⟨b3, i3, none⟩ = some u3 ∧ W.cell? ⟨b4, i4, none⟩ = some u4 ∧ W.cell? ⟨b5, i5, none⟩ = some u5 ∧ W.cell? ⟨b6, i6, none⟩ = some u6 ∧ W.cell? ⟨b7, i7, none⟩ = some u7 ∧ W.cell? ⟨b8, i8, none⟩ = some u8 ∧ W.cell? ⟨b9, i9, none⟩ = some u9 ∧ W.cell? ⟨b10, i10, none⟩ = some u10 ∧ W.cell? ⟨b11, i11, none⟩ = some u11 ∧ W.cell? ⟨b12, i12, none⟩ = some u12 ∧ W.cell? ⟨b13, i13, none⟩ = some u13 ∧ W.cell? ⟨b14, i14, none⟩ = some u14) (hb : Below W.heap.size W W') : W'.cell? ⟨b0, i0, none⟩ = some u0 ∧ W'.cell? ⟨b1, i1, none⟩ = some u1 ∧ W'.cell? ⟨b2, i2, none⟩ = some u2 ∧ W'.cell? ⟨b3, i3, none⟩ = some u3 ∧ W'.cell? ⟨b4, i4, none⟩ = some u4 ∧ W'.cell? ⟨b5, i5, none⟩ = some u5 ∧ W'.cell? ⟨b6, i6, none⟩ = some u6 ∧ W'.cell? ⟨b7, i7, none⟩ = some u7 ∧ W'.cell? ⟨b8, i8, none⟩ = some u8 ∧ W'.cell? ⟨b9, i9, none⟩ = some u9 ∧ W'.cell? ⟨b10, i10, none⟩ = some u10 ∧ W'.cell? ⟨b11, i11, none⟩ = some u11 ∧ W'.cell? ⟨b12, i12, none⟩ = some u12 ∧ W'.cell? ⟨b13, i13, none⟩ = some u13 ∧ W'.cell? ⟨b14, i14, none⟩ = some u14 := by
  obtain ⟨h0, h1, h2, h3, h4, h5, h6, h7, h8, h9, h10, h11, h12, h13, h14⟩ := h
  exact ⟨cell1_below h0 hb, cell1_below h1 hb, cell1_below h2 hb, cell1_below h3 hb, cell1_below h4 hb, cell1_below h5 hb, cell1_below h6 hb, cell1_below h7 hb, cell1_below h8 hb, cell1_below h9 hb, cell1_below h10 hb, cell1_below h11 hb, cell1_below h12 hb, cell1_below h13 hb, cell1_below h14 hb⟩
set_option maxRecDepth 100000 in
set_option maxHeartbeats 8000000 in
theorem hasC_any (va vb : Option Addr) (vc ve : Nat) (c : Ct) (im : List UInt8) (j : Jn) (R : List (List UInt8)) (w : World) (hc : StrS w (.slice va c.recs.length vc) c.recs) (hr : StrS w (.slice vb R.length ve) R) (hcl : c.recs.length ≤ 9000000000000) (hrl : R.length ≤ 9000000000000) :
    Calls Try.prog 50 #[.agg #[.string (bs c.image), .int .i64 c.pos, .slice va c.recs.length vc], .string (bs im), .agg (jnV j), .slice vb R.length ve] w fun e w' => e = .returned (.bool (hasC c im j R)) ∧ Below w.heap.size w w' := by
  simp only [jnV]
  have H1 := hc; have H2 := hr
  obtain ⟨t1, h1⟩ : ∃ t, (c.image == im) = t := ⟨_, rfl⟩
  obtain ⟨t2, h2⟩ : ∃ t, (c.pos == j.x.p) = t := ⟨_, rfl⟩
  obtain ⟨t3, h3⟩ : ∃ t, decide (c.recs = R) = t := ⟨_, rfl⟩
  obtain ⟨t4, h4⟩ : ∃ t, (j.r == (R.length : Int)) = t := ⟨_, rfl⟩
  have HH := Lib.hid (show hasC c im j R = (t1 && (t2 && (t3 && t4))) by unfold hasC; rw [h1, h2, h3, h4])
  have HC := Lib.hid hc; have HS := Lib.hid hr; have H3 := Lib.hid h3; clear hc hr h3 H1 H2
  have hb0 := (((Below.refl w.heap.size w).alloc (Nat.le_refl _) (.cells #[.string (bs c.image), .int .i64 c.pos, .slice va c.recs.length vc] 74)).alloc (by simp) (.cells #[.int .i64 j.x.g, .int .i64 j.x.e, .int .i64 j.x.a, .int .i64 j.x.z, .int .i64 j.x.p, .int .i64 j.n, .int .i64 j.r] 57))
  have h_HX := ((Bx.new w #[.string (bs c.image), .int .i64 c.pos, .slice va c.recs.length vc] 74).alloc (.cells #[.int .i64 j.x.g, .int .i64 j.x.e, .int .i64 j.x.a, .int .i64 j.x.z, .int .i64 j.x.p, .int .i64 j.n, .int .i64 j.r] 57))
  have h_HJ := (Bx.new (w.alloc (.cells #[.string (bs c.image), .int .i64 c.pos, .slice va c.recs.length vc] 74)) #[.int .i64 j.x.g, .int .i64 j.x.e, .int .i64 j.x.a, .int .i64 j.x.z, .int .i64 j.x.p, .int .i64 j.n, .int .i64 j.r] 57)
  rw [show (w.alloc (.cells #[.string (bs c.image), .int .i64 c.pos, .slice va c.recs.length vc] 74)).heap.size = w.heap.size + 1 by simp] at h_HJ
  have HB := Lib.hid hb0; have HX := Lib.hid h_HX; have HJ := Lib.hid h_HJ
  clear hb0 h_HX h_HJ
  go_enter Try.func50, Try.ntmps50
  go_upto_region 1 with (fail)
  generalize hW0 : (w.alloc (.cells #[.string (bs c.image), .int .i64 c.pos, .slice va c.recs.length vc] 74)).alloc (.cells #[.int .i64 j.x.g, .int .i64 j.x.e, .int .i64 j.x.a, .int .i64 j.x.z, .int .i64 j.x.p, .int .i64 j.n, .int .i64 j.r] 57) = v0 at HB HX HJ ⊢
  clear hW0
  have HC := Lib.hid (HC.out.below HB.out); have HS := Lib.hid (HS.out.below HB.out)
  have x0 : v0.cell? ⟨w.heap.size, 0, none⟩ = some (.string (bs c.image)) := HX.out.cell 0
  have x1 : v0.cell? ⟨w.heap.size, 1, none⟩ = some (.int .i64 c.pos) := HX.out.cell 1
  have x2 : v0.cell? ⟨w.heap.size, 2, none⟩ = some (.slice va c.recs.length vc) := HX.out.cell 2
  have y4 : v0.cell? ⟨w.heap.size + 1, 4, none⟩ = some (.int .i64 j.x.p) := HJ.out.cell 4
  have y6 : v0.cell? ⟨w.heap.size + 1, 6, none⟩ = some (.int .i64 j.r) := HJ.out.cell 6
  cases t1 with
  | false =>
    go_wp2
    go_ret
    exact ⟨by rw [HH.out]; rfl, HB.out⟩
  | true =>
    cases t2 with
    | false =>
      go_wp2
      go_ret
      exact ⟨by rw [HH.out]; rfl, HB.out⟩
    | true =>
      go_wp2_with fail
      refine (same_any _ _ c.recs R _ HC.out HS.out hcl hrl).mono ?_
      rw [H3.out]
      rintro er w1 ⟨rfl, hb1⟩
      have y6 : w1.cell? ⟨w.heap.size + 1, 6, none⟩ = some (.int .i64 j.r) := (HJ.out.call hb1).cell 6
      have HB1 := Lib.hid (btrans HB.out HB.out.size hb1)
      clear hb1 x0 x1 x2 y4
      cases t3 with
      | false =>
        go_wp2
        go_ret
        exact ⟨by rw [HH.out]; rfl, HB1.out⟩
      | true =>
        go_wp2
        go_ret
        exact ⟨by rw [HH.out]; cases t4 <;> rfl, HB1.out⟩
set_option maxRecDepth 100000 in
set_option maxHeartbeats 8000000 in
theorem after_any (va : Option Addr) (vc : Nat) (c : Ct) (k : Int) (l : List UInt8) (p : Int) (w : World) (hc : StrS w (.slice va c.recs.length vc) c.recs) (hcl : c.recs.length ≤ 1000000000) :
    Calls Try.prog 49 #[.agg #[.string (bs c.image), .int .i64 c.pos, .slice va c.recs.length vc], .agg #[.int .i64 k, .string (bs l), .int .i64 p]] w fun e w' => ∃ a1 c1, e = .returned (.agg #[.string (bs (aft c k l p).image), .int .i64 (aft c k l p).pos, .slice a1 (aft c k l p).recs.length c1]) ∧ StrS w' (.slice a1 (aft c k l p).recs.length c1) (aft c k l p).recs ∧ (a1 = va ∨ ∀ q, a1 = some q → w.heap.size ≤ q.block) ∧ Below w.heap.size w w' := by
  have HC := Lib.hid hc; have HC0 := Lib.hid hc; clear hc
  by_cases hk0 : k = 0
  · have hres : aft c k l p = c.add l := by unfold aft; rw [if_pos hk0]
    rw [hres]
    clear hres
    have tk : (k == 0) = true := by rw [hk0]; rfl
    have HK0 := Lib.hid hk0; clear hk0
    have hb0 := ((((Below.refl w.heap.size w).alloc (Nat.le_refl _) (.cells #[.string (bs c.image), .int .i64 c.pos, .slice va c.recs.length vc] 74)).alloc (by simp) (.cells #[.int .i64 k, .string (bs l), .int .i64 p] 67)).alloc (by simp; try omega) (.cells #[.string ⟨#[]⟩, .int .i64 0, .slice none 0 0] 74))
    have h_HX := (((Bx.new w #[.string (bs c.image), .int .i64 c.pos, .slice va c.recs.length vc] 74).alloc (.cells #[.int .i64 k, .string (bs l), .int .i64 p] 67)).alloc (.cells #[.string ⟨#[]⟩, .int .i64 0, .slice none 0 0] 74))
    have h_HT := ((Bx.new (w.alloc (.cells #[.string (bs c.image), .int .i64 c.pos, .slice va c.recs.length vc] 74)) #[.int .i64 k, .string (bs l), .int .i64 p] 67).alloc (.cells #[.string ⟨#[]⟩, .int .i64 0, .slice none 0 0] 74))
    rw [show (w.alloc (.cells #[.string (bs c.image), .int .i64 c.pos, .slice va c.recs.length vc] 74)).heap.size = w.heap.size + 1 by simp] at h_HT
    have h_HR := (Bx.new ((w.alloc (.cells #[.string (bs c.image), .int .i64 c.pos, .slice va c.recs.length vc] 74)).alloc (.cells #[.int .i64 k, .string (bs l), .int .i64 p] 67)) #[.string ⟨#[]⟩, .int .i64 0, .slice none 0 0] 74)
    rw [show ((w.alloc (.cells #[.string (bs c.image), .int .i64 c.pos, .slice va c.recs.length vc] 74)).alloc (.cells #[.int .i64 k, .string (bs l), .int .i64 p] 67)).heap.size = w.heap.size + 2 by simp] at h_HR
    have HB := Lib.hid hb0; have HX := Lib.hid h_HX; have HT := Lib.hid h_HT; have HR := Lib.hid h_HR
    clear hb0 h_HX h_HT h_HR
    go_enter Try.func49, Try.ntmps49
    go_upto_region 1 with (fail)
    generalize hW0 : ((w.alloc (.cells #[.string (bs c.image), .int .i64 c.pos, .slice va c.recs.length vc] 74)).alloc (.cells #[.int .i64 k, .string (bs l), .int .i64 p] 67)).alloc (.cells #[.string ⟨#[]⟩, .int .i64 0, .slice none 0 0] 74) = v0 at HB HX HT HR ⊢
    clear hW0
    have HC := Lib.hid (HC.out.below HB.out)
    have x0 : v0.cell? ⟨w.heap.size, 0, none⟩ = some (.string (bs c.image)) := HX.out.cell 0
    have x1 : v0.cell? ⟨w.heap.size, 1, none⟩ = some (.int .i64 c.pos) := HX.out.cell 1
    have x2 : v0.cell? ⟨w.heap.size, 2, none⟩ = some (.slice va c.recs.length vc) := HX.out.cell 2
    have t0 : v0.cell? ⟨(w.heap.size + 1), 0, none⟩ = some (.int .i64 k) := HT.out.cell 0
    have t1 : v0.cell? ⟨(w.heap.size + 1), 1, none⟩ = some (.string (bs l)) := HT.out.cell 1
    have t2 : v0.cell? ⟨(w.heap.size + 1), 2, none⟩ = some (.int .i64 p) := HT.out.cell 2
    obtain ⟨i0, hi, hz0, hz1, hz2⟩ := info_parts Try.info9
    go_upto_region 3 with (fail)
    have zr0 := HR.out.lt
    go_wp2_with (at_builtin; refine wpList_append_strs rfl _ _ rfl v0.heap.size _ _ [] c.recs (World.ownsRow_nil _ _ _ _) HC.out rfl rfl (by decide) (by omega) v0 (Below.refl _ _) (Nat.le_refl _) ?_; intro v4 w4 hown4 hbel4)
    simp only [List.nil_append] at hown4
    obtain ⟨g4, c4, rfl⟩ := own_slice hown4
    have HX4 := HX.out.call hbel4; have HT4 := HT.out.call hbel4; have HR4 := HR.out.call hbel4
    have zr4 := HR4.lt
    clear x0 x1 x2 t0 t1 t2
    have x0 : w4.cell? ⟨w.heap.size, 0, none⟩ = some (.string (bs c.image)) := HX4.cell 0
    have x1 : w4.cell? ⟨w.heap.size, 1, none⟩ = some (.int .i64 c.pos) := HX4.cell 1
    have x2 : w4.cell? ⟨w.heap.size, 2, none⟩ = some (.slice va c.recs.length vc) := HX4.cell 2
    have t0 : w4.cell? ⟨(w.heap.size + 1), 0, none⟩ = some (.int .i64 k) := HT4.cell 0
    have t1 : w4.cell? ⟨(w.heap.size + 1), 1, none⟩ = some (.string (bs l)) := HT4.cell 1
    have t2 : w4.cell? ⟨(w.heap.size + 1), 2, none⟩ = some (.int .i64 p) := HT4.cell 2
    have hs4 : w4.drew.cell? ⟨w.heap.size, 0, none⟩ = some (.string (bs c.image)) ∧ w4.drew.cell? ⟨w.heap.size, 1, none⟩ = some (.int .i64 c.pos) ∧ w4.drew.cell? ⟨(w.heap.size + 1), 1, none⟩ = some (.string (bs l)) := ⟨x0, x1, t1⟩
    have HS4 := Lib.hid hs4; clear hs4 x0 x1 x2 t0 t1 t2
    refine wp_region_held_drew (S := (fun w' => w'.cell? ⟨w.heap.size, 0, none⟩ = some (.string (bs c.image)) ∧ w'.cell? ⟨w.heap.size, 1, none⟩ = some (.int .i64 c.pos) ∧ w'.cell? ⟨(w.heap.size + 1), 1, none⟩ = some (.string (bs l)))) (by kernel_rfl) ?_ (fun hHeld => ?_)
    · exact HS4.out
    refine takeH (i := 0) (v := ?vv1) 13 rfl rfl (by kernel_rfl) (by kernel_rfl) (by kernel_rfl) (fun _ _ _ h => h) (Or.inl ⟨by kernel_rfl, ?yy1⟩) (by assumption) ?_
    case yy1 => intro w hSw; (try dsimp only at hSw); go_simp; (try with_reducible rfl)
    simp only [List.setIfInBounds_toArray, List.set_cons_zero, List.set_cons_succ]
    refine takeH (i := 1) (v := ?vv2) 14 rfl rfl (by kernel_rfl) (by kernel_rfl) (by kernel_rfl) (fun _ _ _ h => h) (Or.inl ⟨by kernel_rfl, ?yy2⟩) (by assumption) ?_
    case yy2 => intro w hSw; (try dsimp only at hSw); go_simp; (try with_reducible rfl)
    simp only [List.setIfInBounds_toArray, List.set_cons_zero, List.set_cons_succ]
    refine takeH (i := 2) (v := ?vv3) 15 rfl rfl (by kernel_rfl) (by kernel_rfl) (by kernel_rfl) (fun _ _ _ h => h) (Or.inl ⟨by kernel_rfl, ?yy3⟩) (by assumption) ?_
    case yy3 => intro w hSw; (try dsimp only at hSw); go_simp; (try with_reducible rfl)
    simp only [List.setIfInBounds_toArray, List.set_cons_zero, List.set_cons_succ]
    refine takeH (i := 3) (v := ?vv4) 16 rfl rfl (by kernel_rfl) (by kernel_rfl) (by kernel_rfl) (fun _ _ _ h => h) (Or.inl ⟨by kernel_rfl, ?yy4⟩) (by assumption) ?_
    case yy4 => intro w hSw; (try dsimp only at hSw); go_simp; (try with_reducible rfl)
    simp only [List.setIfInBounds_toArray, List.set_cons_zero, List.set_cons_succ]
    refine takeH (i := 4) (v := ?vv5) 17 rfl rfl (by kernel_rfl) (by kernel_rfl) (by kernel_rfl) (fun _ _ _ h => h) (Or.inl ⟨by kernel_rfl, ?yy5⟩) (by assumption) ?_
    case yy5 => intro w hSw; (try dsimp only at hSw); go_simp; (try with_reducible rfl)
    simp only [List.setIfInBounds_toArray, List.set_cons_zero, List.set_cons_succ]
    refine takeH (i := 5) (v := ?vv6) 18 rfl rfl (by kernel_rfl) (by kernel_rfl) (by kernel_rfl) (fun _ _ _ h => h) (Or.inl ⟨by kernel_rfl, ?yy6⟩) (by assumption) ?_
    case yy6 => intro w hSw; (try dsimp only at hSw); go_simp; (try with_reducible rfl)
    simp only [List.setIfInBounds_toArray, List.set_cons_zero, List.set_cons_succ]
    refine takeH (i := 6) (v := ?vv7) 19 rfl rfl (by kernel_rfl) (by kernel_rfl) (by kernel_rfl) (fun _ _ _ h => h) (Or.inl ⟨by kernel_rfl, ?yy7⟩) (by assumption) ?_
    case yy7 => intro w hSw; (try dsimp only at hSw); go_simp; (try with_reducible rfl)
    simp only [List.setIfInBounds_toArray, List.set_cons_zero, List.set_cons_succ]
    refine wpAnyH_ready (rs := [7]) (by kernel_rfl) (by simp) ?_
    refine (AllReadyH.cons rfl (fun K hK => ?_) AllReadyH.nil)
    go_simp
    skip
    (try go_wp2_with fail)
    refine hK.out _ _ ?_ (fun hHeld => ?_)
    · exact dcells3_below hHeld ((Below.refl _ _).alloc (Nat.le_refl _) _)
    clear hK K
    (try simp only [Act.put, List.setIfInBounds_toArray, List.set_cons_zero, List.set_cons_succ])
    have hone : ∀ u ∈ [strV l], u.oneCell' = true := by intro u hu; simp at hu; rw [hu]; rfl
    have zb4 := hbel4.size
    refine wpAnyH_ready (rs := [8]) (by kernel_rfl) (by simp) ?_
    refine AllReadyH.cons rfl (fun K hK => ?_) AllReadyH.nil
    refine step_append_wide _ (by rfl) _ _ 35 (by rfl) v0.heap.size 9 i0 (.string ⟨#[]⟩) 1 16 Try.underlying35 hi hz0 hz1 hz2 rfl (by decide) (.slice g4 c.recs.length c4) c.recs.length (c.recs.map strV) (by rfl) ((own_drewD hown4).alloc _) ⟨w4.heap.size, 0, none⟩ 1 1 [strV l] (by rfl) rfl (World.news_of_block (heap_alloc_new w4.drew _)) hone (by decide) (by unfold maxLen; omega) (by omega) (by simp; omega) ?_
    intro g5 cap5 w5 hown5 hgrow
    have hne : some (w.heap.size + 2) ≠ (Value.slice g4 c.recs.length c4).ownBlock := by intro e; have := (hown4.lt _ e.symm).1; omega
    have hneX : some w.heap.size ≠ (Value.slice g4 c.recs.length c4).ownBlock := by intro e; have := (hown4.lt _ e.symm).1; omega
    have hneT : some (w.heap.size + 1) ≠ (Value.slice g4 c.recs.length c4).ownBlock := by intro e; have := (hown4.lt _ e.symm).1; omega
    have hR5 := grownBy_bx hgrow (HR4.drew.alloc (.cells #[.string (bs l)] 9)) hne; have hX5 := grownBy_bx hgrow (HX4.drew.alloc (.cells #[.string (bs l)] 9)) hneX; have hT5 := grownBy_bx hgrow (HT4.drew.alloc (.cells #[.string (bs l)] 9)) hneT
    refine hK.out _ _ ?_ (fun hHeld => ?_)
    · exact ⟨hX5.cell 0, hX5.cell 1, hT5.cell 1⟩
    clear hK K
    simp only [Act.put, List.setIfInBounds_toArray]
    refine takeH (i := 9) (v := ?vv8) 22 rfl rfl (by kernel_rfl) (by kernel_rfl) (by kernel_rfl) (fun _ _ _ h => h) (Or.inl ⟨by kernel_rfl, ?yy8⟩) (by assumption) ?_
    case yy8 => intro w hSw; (try dsimp only at hSw); go_simp; (try with_reducible rfl)
    simp only [List.setIfInBounds_toArray, List.set_cons_zero, List.set_cons_succ]
    have r0 : w5.cell? ⟨(w.heap.size + 2), 0, none⟩ = some (.string ⟨#[]⟩) := hR5.cell 0
    have r1 : w5.cell? ⟨(w.heap.size + 2), 1, none⟩ = some (.int .i64 0) := hR5.cell 1
    have r2 : w5.cell? ⟨(w.heap.size + 2), 2, none⟩ = some (.slice none 0 0) := hR5.cell 2
    have f0 := hR5.free 0
    have f1 := hR5.free 1
    have f2 := hR5.free 2
    refine wpAnyH_ready (rs := [10]) (by kernel_rfl) (by simp) ?_
    refine (AllReadyH.cons rfl (fun K hK => ?_) AllReadyH.nil)
    go_simp
    skip
    (try go_wp2_with fail)
    refine hK.out _ _ ?_ (fun hHeld => ?_)
    · exact wc_xxy_3 (W := w5) (by assumption) (w.heap.size + 2) (by omega) (by omega) _ _ _
    clear hK K
    (try simp only [Act.put, List.setIfInBounds_toArray, List.set_cons_zero, List.set_cons_succ])
    refine wpAnyH_done (by kernel_rfl) ?_ _
    have hRR := ((hR5.set 0 (.string (bs c.image))).set 1 (.int .i64 c.pos)).set 2 (.slice (some ⟨g5, 0, none⟩) (c.recs.length + 1) cap5)
    have KR := Lib.hid (show Bx (w.heap.size + 2) #[.string (bs c.image), .int .i64 c.pos, .slice (some ⟨g5, 0, none⟩) (c.recs.length + 1) cap5] 74 _ from hRR)
    have KV := Lib.hid ((own_set (own_set (own_set hown5 (w.heap.size + 2) 0 (by omega) (.string (bs c.image))) (w.heap.size + 2) 1 (by omega) (.int .i64 c.pos)) (w.heap.size + 2) 2 (by omega) (.slice (some ⟨g5, 0, none⟩) (c.recs.length + 1) cap5)))
    have hb5 : Below v0.heap.size v0 w5 := ((hbel4.drew.alloc (by simp; omega) (.cells #[.string (bs l)] 9)).grown hgrow (by simp; omega) (by intro k hk; exact (hown4.lt k hk).1))
    have KB := Lib.hid (below_set (below_set (below_set (btrans HB.out HB.out.size hb5) (w.heap.size + 2) 0 (by omega) (.string (bs c.image))) (w.heap.size + 2) 1 (by omega) (.int .i64 c.pos)) (w.heap.size + 2) 2 (by omega) (.slice (some ⟨g5, 0, none⟩) (c.recs.length + 1) cap5))
    clear hRR hown5 hb5 hR5 hX5 hT5 hgrow hbel4 hown4
    generalize hWF : (((w5.setCell ⟨(w.heap.size + 2), 0, none⟩ (.string (bs c.image))).setCell ⟨(w.heap.size + 2), 1, none⟩ (.int .i64 c.pos)).setCell ⟨(w.heap.size + 2), 2, none⟩ (.slice (some ⟨g5, 0, none⟩) (c.recs.length + 1) cap5)) = WF at KR KV KB ⊢
    clear hWF r0 r1 r2 f0 f1 f2
    go_wp2
    have k0 := KR.out.cell 0
    have k1 := KR.out.cell 1
    have k2 := KR.out.cell 2
    simp only [List.getElem?_toArray, List.getElem?_cons_zero, List.getElem?_cons_succ] at k0 k1 k2
    refine bodyPost_ret (v := .agg #[.string (bs c.image), .int .i64 c.pos, .slice (some ⟨g5, 0, none⟩) (c.recs.length + 1) cap5]) (by simp [results, Try.results49, go_sem, k0, k1, k2]) rfl ?_
    refine ⟨some ⟨g5, 0, none⟩, cap5, ?_, ?_, .inr ?_, KB.out⟩
    · unfold Ct.add; simp only [List.length_append, List.length_cons, List.length_nil]
    · have hv := KV.out; rw [show c.recs.map strV ++ [strV l] = (c.add l).recs.map strV by unfold Ct.add; rw [List.map_append]; rfl, show c.recs.length + 1 = (c.add l).recs.length by unfold Ct.add; simp only [List.length_append, List.length_cons, List.length_nil]] at hv; exact StrS.of_own hv
    · intro q hq; cases hq; have := (KV.out.lt g5 rfl).1; show w.heap.size ≤ g5; omega
  have tk0 : (k == 0) = false := by rw [beq_eq_false_iff_ne]; exact hk0
  by_cases hk1 : k = 1
  · have hres : aft c k l p = ⟨l, p, []⟩ := by unfold aft; rw [if_neg hk0, if_pos hk1]
    rw [hres]
    clear hres
    have tk : (k == 1) = true := by rw [hk1]; rfl
    have HK0 := Lib.hid hk0; have HK1 := Lib.hid hk1; clear hk0 hk1
    have hb0 := ((((Below.refl w.heap.size w).alloc (Nat.le_refl _) (.cells #[.string (bs c.image), .int .i64 c.pos, .slice va c.recs.length vc] 74)).alloc (by simp) (.cells #[.int .i64 k, .string (bs l), .int .i64 p] 67)).alloc (by simp; try omega) (.cells #[.string ⟨#[]⟩, .int .i64 0, .slice none 0 0] 74))
    have h_HX := (((Bx.new w #[.string (bs c.image), .int .i64 c.pos, .slice va c.recs.length vc] 74).alloc (.cells #[.int .i64 k, .string (bs l), .int .i64 p] 67)).alloc (.cells #[.string ⟨#[]⟩, .int .i64 0, .slice none 0 0] 74))
    have h_HT := ((Bx.new (w.alloc (.cells #[.string (bs c.image), .int .i64 c.pos, .slice va c.recs.length vc] 74)) #[.int .i64 k, .string (bs l), .int .i64 p] 67).alloc (.cells #[.string ⟨#[]⟩, .int .i64 0, .slice none 0 0] 74))
    rw [show (w.alloc (.cells #[.string (bs c.image), .int .i64 c.pos, .slice va c.recs.length vc] 74)).heap.size = w.heap.size + 1 by simp] at h_HT
    have h_HR := (Bx.new ((w.alloc (.cells #[.string (bs c.image), .int .i64 c.pos, .slice va c.recs.length vc] 74)).alloc (.cells #[.int .i64 k, .string (bs l), .int .i64 p] 67)) #[.string ⟨#[]⟩, .int .i64 0, .slice none 0 0] 74)
    rw [show ((w.alloc (.cells #[.string (bs c.image), .int .i64 c.pos, .slice va c.recs.length vc] 74)).alloc (.cells #[.int .i64 k, .string (bs l), .int .i64 p] 67)).heap.size = w.heap.size + 2 by simp] at h_HR
    have HB := Lib.hid hb0; have HX := Lib.hid h_HX; have HT := Lib.hid h_HT; have HR := Lib.hid h_HR
    clear hb0 h_HX h_HT h_HR
    go_enter Try.func49, Try.ntmps49
    go_upto_region 1 with (fail)
    generalize hW0 : ((w.alloc (.cells #[.string (bs c.image), .int .i64 c.pos, .slice va c.recs.length vc] 74)).alloc (.cells #[.int .i64 k, .string (bs l), .int .i64 p] 67)).alloc (.cells #[.string ⟨#[]⟩, .int .i64 0, .slice none 0 0] 74) = v0 at HB HX HT HR ⊢
    clear hW0
    have HC := Lib.hid (HC.out.below HB.out)
    have x0 : v0.cell? ⟨w.heap.size, 0, none⟩ = some (.string (bs c.image)) := HX.out.cell 0
    have x1 : v0.cell? ⟨w.heap.size, 1, none⟩ = some (.int .i64 c.pos) := HX.out.cell 1
    have x2 : v0.cell? ⟨w.heap.size, 2, none⟩ = some (.slice va c.recs.length vc) := HX.out.cell 2
    have t0 : v0.cell? ⟨(w.heap.size + 1), 0, none⟩ = some (.int .i64 k) := HT.out.cell 0
    have t1 : v0.cell? ⟨(w.heap.size + 1), 1, none⟩ = some (.string (bs l)) := HT.out.cell 1
    have t2 : v0.cell? ⟨(w.heap.size + 1), 2, none⟩ = some (.int .i64 p) := HT.out.cell 2
    have r0 : v0.cell? ⟨(w.heap.size + 2), 0, none⟩ = some (.string ⟨#[]⟩) := HR.out.cell 0
    have r1 : v0.cell? ⟨(w.heap.size + 2), 1, none⟩ = some (.int .i64 0) := HR.out.cell 1
    have r2 : v0.cell? ⟨(w.heap.size + 2), 2, none⟩ = some (.slice none 0 0) := HR.out.cell 2
    have f0 := HR.out.free 0
    have f1 := HR.out.free 1
    have f2 := HR.out.free 2
    have hRR := ((HR.out.set 0 (.string (bs l))).set 1 (.int .i64 p)).set 2 (.slice none 0 0)
    have KR := Lib.hid (show Bx (w.heap.size + 2) #[.string (bs l), .int .i64 p, .slice none 0 0] 74 _ from hRR)
    have KB := Lib.hid (below_set (below_set (below_set HB.out (w.heap.size + 2) 0 (by omega) (.string (bs l))) (w.heap.size + 2) 1 (by omega) (.int .i64 p)) (w.heap.size + 2) 2 (by omega) (.slice none 0 0))
    clear hRR
    go_wp2
    have k0 := KR.out.cell 0
    have k1 := KR.out.cell 1
    have k2 := KR.out.cell 2
    simp only [List.getElem?_toArray, List.getElem?_cons_zero, List.getElem?_cons_succ] at k0 k1 k2
    refine bodyPost_ret (v := .agg #[.string (bs l), .int .i64 p, .slice none 0 0]) (by simp [results, Try.results49, go_sem, k0, k1, k2]) rfl ?_
    exact ⟨none, 0, rfl, ⟨none, 0, rfl, Nat.le_refl _, fun hne => absurd rfl hne⟩, .inr (fun q hq => by cases hq), KB.out⟩
  have hres : aft c k l p = c := by unfold aft; rw [if_neg hk0, if_neg hk1]
  rw [hres]
  clear hres
  have tk : (k == 1) = false := by rw [beq_eq_false_iff_ne]; exact hk1
  have HK0 := Lib.hid hk0; have HK1 := Lib.hid hk1; clear hk0 hk1
  have hb0 := ((((Below.refl w.heap.size w).alloc (Nat.le_refl _) (.cells #[.string (bs c.image), .int .i64 c.pos, .slice va c.recs.length vc] 74)).alloc (by simp) (.cells #[.int .i64 k, .string (bs l), .int .i64 p] 67)).alloc (by simp; try omega) (.cells #[.string ⟨#[]⟩, .int .i64 0, .slice none 0 0] 74))
  have h_HX := (((Bx.new w #[.string (bs c.image), .int .i64 c.pos, .slice va c.recs.length vc] 74).alloc (.cells #[.int .i64 k, .string (bs l), .int .i64 p] 67)).alloc (.cells #[.string ⟨#[]⟩, .int .i64 0, .slice none 0 0] 74))
  have h_HT := ((Bx.new (w.alloc (.cells #[.string (bs c.image), .int .i64 c.pos, .slice va c.recs.length vc] 74)) #[.int .i64 k, .string (bs l), .int .i64 p] 67).alloc (.cells #[.string ⟨#[]⟩, .int .i64 0, .slice none 0 0] 74))
  rw [show (w.alloc (.cells #[.string (bs c.image), .int .i64 c.pos, .slice va c.recs.length vc] 74)).heap.size = w.heap.size + 1 by simp] at h_HT
  have h_HR := (Bx.new ((w.alloc (.cells #[.string (bs c.image), .int .i64 c.pos, .slice va c.recs.length vc] 74)).alloc (.cells #[.int .i64 k, .string (bs l), .int .i64 p] 67)) #[.string ⟨#[]⟩, .int .i64 0, .slice none 0 0] 74)
  rw [show ((w.alloc (.cells #[.string (bs c.image), .int .i64 c.pos, .slice va c.recs.length vc] 74)).alloc (.cells #[.int .i64 k, .string (bs l), .int .i64 p] 67)).heap.size = w.heap.size + 2 by simp] at h_HR
  have HB := Lib.hid hb0; have HX := Lib.hid h_HX; have HT := Lib.hid h_HT; have HR := Lib.hid h_HR
  clear hb0 h_HX h_HT h_HR
  go_enter Try.func49, Try.ntmps49
  go_upto_region 1 with (fail)
  generalize hW0 : ((w.alloc (.cells #[.string (bs c.image), .int .i64 c.pos, .slice va c.recs.length vc] 74)).alloc (.cells #[.int .i64 k, .string (bs l), .int .i64 p] 67)).alloc (.cells #[.string ⟨#[]⟩, .int .i64 0, .slice none 0 0] 74) = v0 at HB HX HT HR ⊢
  clear hW0
  have HC := Lib.hid (HC.out.below HB.out)
  have x0 : v0.cell? ⟨w.heap.size, 0, none⟩ = some (.string (bs c.image)) := HX.out.cell 0
  have x1 : v0.cell? ⟨w.heap.size, 1, none⟩ = some (.int .i64 c.pos) := HX.out.cell 1
  have x2 : v0.cell? ⟨w.heap.size, 2, none⟩ = some (.slice va c.recs.length vc) := HX.out.cell 2
  have t0 : v0.cell? ⟨(w.heap.size + 1), 0, none⟩ = some (.int .i64 k) := HT.out.cell 0
  have t1 : v0.cell? ⟨(w.heap.size + 1), 1, none⟩ = some (.string (bs l)) := HT.out.cell 1
  have t2 : v0.cell? ⟨(w.heap.size + 1), 2, none⟩ = some (.int .i64 p) := HT.out.cell 2
  have r0 : v0.cell? ⟨(w.heap.size + 2), 0, none⟩ = some (.string ⟨#[]⟩) := HR.out.cell 0
  have r1 : v0.cell? ⟨(w.heap.size + 2), 1, none⟩ = some (.int .i64 0) := HR.out.cell 1
  have r2 : v0.cell? ⟨(w.heap.size + 2), 2, none⟩ = some (.slice none 0 0) := HR.out.cell 2
  have f0 := HR.out.free 0
  have f1 := HR.out.free 1
  have f2 := HR.out.free 2
  have hRR := ((HR.out.set 0 (.string (bs c.image))).set 1 (.int .i64 c.pos)).set 2 (.slice va c.recs.length vc)
  have KR := Lib.hid (show Bx (w.heap.size + 2) #[.string (bs c.image), .int .i64 c.pos, .slice va c.recs.length vc] 74 _ from hRR)
  have KB := Lib.hid (below_set (below_set (below_set HB.out (w.heap.size + 2) 0 (by omega) (.string (bs c.image))) (w.heap.size + 2) 1 (by omega) (.int .i64 c.pos)) (w.heap.size + 2) 2 (by omega) (.slice va c.recs.length vc))
  clear hRR
  go_wp2
  have k0 := KR.out.cell 0
  have k1 := KR.out.cell 1
  have k2 := KR.out.cell 2
  simp only [List.getElem?_toArray, List.getElem?_cons_zero, List.getElem?_cons_succ] at k0 k1 k2
  refine bodyPost_ret (v := .agg #[.string (bs c.image), .int .i64 c.pos, .slice va c.recs.length vc]) (by simp [results, Try.results49, go_sem, k0, k1, k2]) rfl ?_
  exact ⟨va, vc, rfl, HC0.out.below KB.out, .inl rfl, KB.out⟩
end Go.Proofs.Ytkpfkknldeafkaa
namespace Go.Proofs.Ytkpfkknldeafkaa
open Go.RowKit

def DOPost (nd : Dk) (nj : Jn) (e : Int) (ok : Bool) (w : World) (E : Ending) (w' : World) : Prop :=
  ∃ a1 c1 a2 c2, E = .returned (.tuple #[.agg #[.slice a1 nd.S.length c1, .slice a2 nd.P.length c2, .int .i64 nd.fuse, .int .i64 nd.ops, .bool nd.dead], .agg (jnV nj), .int .i64 e, .bool ok]) ∧ Lists w' a1 c1 a2 c2 nd ∧ Below w.heap.size w w'

theorem wc_xxxxxyyyyyyyzzz_5n {W : World} {x y z i0 i1 i2 i3 i4 i5 i6 i7 i8 i9 i10 i11 i12 i13 i14 : Nat} {u0 u1 u2 u3 u4 u5 u6 u7 u8 u9 u10 u11 u12 u13 u14 : Value} (h : W.cell? ⟨x, i0, none⟩ = some u0 ∧ W.cell? ⟨x, i1, none⟩ = some u1 ∧ W.cell? ⟨x, i2, none⟩ = some u2 ∧ W.cell? ⟨x, i3, none⟩ = some u3 ∧ W.cell? ⟨x, i4, none⟩ = some u4 ∧ W.cell? ⟨y, i5, none⟩ = some u5 ∧ W.cell? ⟨y, i6, none⟩ = some u6 ∧ W.cell? ⟨y, i7, none⟩ = some u7 ∧ W.cell? ⟨y, i8, none⟩ = some u8 ∧ W.cell? ⟨y, i9, none⟩ = some u9 ∧ W.cell? ⟨y, i10, none⟩ = some u10 ∧ W.cell? ⟨y, i11, none⟩ = some u11 ∧ W.cell? ⟨z, i12, none⟩ = some u12 ∧ W.cell? ⟨z, i13, none⟩ = some u13 ∧ W.cell? ⟨z, i14, none⟩ = some u14) (b : Nat) (h_x : b ≠ x) (h_y : b ≠ y) (h_z : b ≠ z) (v0 v1 v2 v3 v4 : Value) :
    (((((W.setCell ⟨b, 0, none⟩ v0).setCell ⟨b, 1, none⟩ v1).setCell ⟨b, 2, none⟩ v2).setCell ⟨b, 3, none⟩ v3).setCell ⟨b, 4, none⟩ v4).cell? ⟨x, i0, none⟩ = some u0 ∧ (((((W.setCell ⟨b, 0, none⟩ v0).setCell ⟨b, 1, none⟩ v1).setCell ⟨b, 2, none⟩ v2).setCell ⟨b, 3, none⟩ v3).setCell ⟨b, 4, none⟩ v4).cell? ⟨x, i1, none⟩ = some u1 ∧ (((((W.setCell ⟨b, 0, none⟩ v0).setCell ⟨b, 1, none⟩ v1).setCell ⟨b, 2, none⟩ v2).setCell ⟨b, 3, none⟩ v3).setCell ⟨b, 4, none⟩ v4).cell? ⟨x, i2, none⟩ = some u2 ∧ (((((W.setCell ⟨b, 0, none⟩ v0).setCell ⟨b, 1, none⟩ v1).setCell ⟨b, 2, none⟩ v2).setCell ⟨b, 3, none⟩ v3).setCell ⟨b, 4, none⟩ v4).cell? ⟨x, i3, none⟩ = some u3 ∧ (((((W.setCell ⟨b, 0, none⟩ v0).setCell ⟨b, 1, none⟩ v1).setCell ⟨b, 2, none⟩ v2).setCell ⟨b, 3, none⟩ v3).setCell ⟨b, 4, none⟩ v4).cell? ⟨x, i4, none⟩ = some u4 ∧ (((((W.setCell ⟨b, 0, none⟩ v0).setCell ⟨b, 1, none⟩ v1).setCell ⟨b, 2, none⟩ v2).setCell ⟨b, 3, none⟩ v3).setCell ⟨b, 4, none⟩ v4).cell? ⟨y, i5, none⟩ = some u5 ∧ (((((W.setCell ⟨b, 0, none⟩ v0).setCell ⟨b, 1, none⟩ v1).setCell ⟨b, 2, none⟩ v2).setCell ⟨b, 3, none⟩ v3).setCell ⟨b, 4, none⟩ v4).cell? ⟨y, i6, none⟩ = some u6 ∧ (((((W.setCell ⟨b, 0, none⟩ v0).setCell ⟨b, 1, none⟩ v1).setCell ⟨b, 2, none⟩ v2).setCell ⟨b, 3, none⟩ v3).setCell ⟨b, 4, none⟩ v4).cell? ⟨y, i7, none⟩ = some u7 ∧ (((((W.setCell ⟨b, 0, none⟩ v0).setCell ⟨b, 1, none⟩ v1).setCell ⟨b, 2, none⟩ v2).setCell ⟨b, 3, none⟩ v3).setCell ⟨b, 4, none⟩ v4).cell? ⟨y, i8, none⟩ = some u8 ∧ (((((W.setCell ⟨b, 0, none⟩ v0).setCell ⟨b, 1, none⟩ v1).setCell ⟨b, 2, none⟩ v2).setCell ⟨b, 3, none⟩ v3).setCell ⟨b, 4, none⟩ v4).cell? ⟨y, i9, none⟩ = some u9 ∧ (((((W.setCell ⟨b, 0, none⟩ v0).setCell ⟨b, 1, none⟩ v1).setCell ⟨b, 2, none⟩ v2).setCell ⟨b, 3, none⟩ v3).setCell ⟨b, 4, none⟩ v4).cell? ⟨y, i10, none⟩ = some u10 ∧ (((((W.setCell ⟨b, 0, none⟩ v0).setCell ⟨b, 1, none⟩ v1).setCell ⟨b, 2, none⟩ v2).setCell ⟨b, 3, none⟩ v3).setCell ⟨b, 4, none⟩ v4).cell? ⟨y, i11, none⟩ = some u11 ∧ (((((W.setCell ⟨b, 0, none⟩ v0).setCell ⟨b, 1, none⟩ v1).setCell ⟨b, 2, none⟩ v2).setCell ⟨b, 3, none⟩ v3).setCell ⟨b, 4, none⟩ v4).cell? ⟨z, i12, none⟩ = some u12 ∧ (((((W.setCell ⟨b, 0, none⟩ v0).setCell ⟨b, 1, none⟩ v1).setCell ⟨b, 2, none⟩ v2).setCell ⟨b, 3, none⟩ v3).setCell ⟨b, 4, none⟩ v4).cell? ⟨z, i13, none⟩ = some u13 ∧ (((((W.setCell ⟨b, 0, none⟩ v0).setCell ⟨b, 1, none⟩ v1).setCell ⟨b, 2, none⟩ v2).setCell ⟨b, 3, none⟩ v3).setCell ⟨b, 4, none⟩ v4).cell? ⟨z, i14, none⟩ = some u14 := by
  obtain ⟨h0, h1, h2, h3, h4, h5, h6, h7, h8, h9, h10, h11, h12, h13, h14⟩ := h
  exact ⟨cell1_set _ h_x (cell1_set _ h_x (cell1_set _ h_x (cell1_set _ h_x (cell1_set _ h_x (h0))))), cell1_set _ h_x (cell1_set _ h_x (cell1_set _ h_x (cell1_set _ h_x (cell1_set _ h_x (h1))))), cell1_set _ h_x (cell1_set _ h_x (cell1_set _ h_x (cell1_set _ h_x (cell1_set _ h_x (h2))))), cell1_set _ h_x (cell1_set _ h_x (cell1_set _ h_x (cell1_set _ h_x (cell1_set _ h_x (h3))))), cell1_set _ h_x (cell1_set _ h_x (cell1_set _ h_x (cell1_set _ h_x (cell1_set _ h_x (h4))))), cell1_set _ h_y (cell1_set _ h_y (cell1_set _ h_y (cell1_set _ h_y (cell1_set _ h_y (h5))))), cell1_set _ h_y (cell1_set _ h_y (cell1_set _ h_y (cell1_set _ h_y (cell1_set _ h_y (h6))))), cell1_set _ h_y (cell1_set _ h_y (cell1_set _ h_y (cell1_set _ h_y (cell1_set _ h_y (h7))))), cell1_set _ h_y (cell1_set _ h_y (cell1_set _ h_y (cell1_set _ h_y (cell1_set _ h_y (h8))))), cell1_set _ h_y (cell1_set _ h_y (cell1_set _ h_y (cell1_set _ h_y (cell1_set _ h_y (h9))))), cell1_set _ h_y (cell1_set _ h_y (cell1_set _ h_y (cell1_set _ h_y (cell1_set _ h_y (h10))))), cell1_set _ h_y (cell1_set _ h_y (cell1_set _ h_y (cell1_set _ h_y (cell1_set _ h_y (h11))))), cell1_set _ h_z (cell1_set _ h_z (cell1_set _ h_z (cell1_set _ h_z (cell1_set _ h_z (h12))))), cell1_set _ h_z (cell1_set _ h_z (cell1_set _ h_z (cell1_set _ h_z (cell1_set _ h_z (h13))))), cell1_set _ h_z (cell1_set _ h_z (cell1_set _ h_z (cell1_set _ h_z (cell1_set _ h_z (h14)))))⟩
theorem wc_xxxxxyyyyyyyzzz_7n {W : World} {x y z i0 i1 i2 i3 i4 i5 i6 i7 i8 i9 i10 i11 i12 i13 i14 : Nat} {u0 u1 u2 u3 u4 u5 u6 u7 u8 u9 u10 u11 u12 u13 u14 : Value} (h : W.cell? ⟨x, i0, none⟩ = some u0 ∧ W.cell? ⟨x, i1, none⟩ = some u1 ∧ W.cell? ⟨x, i2, none⟩ = some u2 ∧ W.cell? ⟨x, i3, none⟩ = some u3 ∧ W.cell? ⟨x, i4, none⟩ = some u4 ∧ W.cell? ⟨y, i5, none⟩ = some u5 ∧ W.cell? ⟨y, i6, none⟩ = some u6 ∧ W.cell? ⟨y, i7, none⟩ = some u7 ∧ W.cell? ⟨y, i8, none⟩ = some u8 ∧ W.cell? ⟨y, i9, none⟩ = some u9 ∧ W.cell? ⟨y, i10, none⟩ = some u10 ∧ W.cell? ⟨y, i11, none⟩ = some u11 ∧ W.cell? ⟨z, i12, none⟩ = some u12 ∧ W.cell? ⟨z, i13, none⟩ = some u13 ∧ W.cell? ⟨z, i14, none⟩ = some u14) (b : Nat) (h_x : b ≠ x) (h_y : b ≠ y) (h_z : b ≠ z) (v0 v1 v2 v3 v4 v5 v6 : Value) :
    (((((((W.setCell ⟨b, 0, none⟩ v0).setCell ⟨b, 1, none⟩ v1).setCell ⟨b, 2, none⟩ v2).setCell ⟨b, 3, none⟩ v3).setCell ⟨b, 4, none⟩ v4).setCell ⟨b, 5, none⟩ v5).setCell ⟨b, 6, none⟩ v6).cell? ⟨x, i0, none⟩ = some u0 ∧ (((((((W.setCell ⟨b, 0, none⟩ v0).setCell ⟨b, 1, none⟩ v1).setCell ⟨b, 2, none⟩ v2).setCell ⟨b, 3, none⟩ v3).setCell ⟨b, 4, none⟩ v4).setCell ⟨b, 5, none⟩ v5).setCell ⟨b, 6, none⟩ v6).cell? ⟨x, i1, none⟩ = some u1 ∧ (((((((W.setCell ⟨b, 0, none⟩ v0).setCell ⟨b, 1, none⟩ v1).setCell ⟨b, 2, none⟩ v2).setCell ⟨b, 3, none⟩ v3).setCell ⟨b, 4, none⟩ v4).setCell ⟨b, 5, none⟩ v5).setCell ⟨b, 6, none⟩ v6).cell? ⟨x, i2, none⟩ = some u2 ∧ (((((((W.setCell ⟨b, 0, none⟩ v0).setCell ⟨b, 1, none⟩ v1).setCell ⟨b, 2, none⟩ v2).setCell ⟨b, 3, none⟩ v3).setCell ⟨b, 4, none⟩ v4).setCell ⟨b, 5, none⟩ v5).setCell ⟨b, 6, none⟩ v6).cell? ⟨x, i3, none⟩ = some u3 ∧ (((((((W.setCell ⟨b, 0, none⟩ v0).setCell ⟨b, 1, none⟩ v1).setCell ⟨b, 2, none⟩ v2).setCell ⟨b, 3, none⟩ v3).setCell ⟨b, 4, none⟩ v4).setCell ⟨b, 5, none⟩ v5).setCell ⟨b, 6, none⟩ v6).cell? ⟨x, i4, none⟩ = some u4 ∧ (((((((W.setCell ⟨b, 0, none⟩ v0).setCell ⟨b, 1, none⟩ v1).setCell ⟨b, 2, none⟩ v2).setCell ⟨b, 3, none⟩ v3).setCell ⟨b, 4, none⟩ v4).setCell ⟨b, 5, none⟩ v5).setCell ⟨b, 6, none⟩ v6).cell? ⟨y, i5, none⟩ = some u5 ∧ (((((((W.setCell ⟨b, 0, none⟩ v0).setCell ⟨b, 1, none⟩ v1).setCell ⟨b, 2, none⟩ v2).setCell ⟨b, 3, none⟩ v3).setCell ⟨b, 4, none⟩ v4).setCell ⟨b, 5, none⟩ v5).setCell ⟨b, 6, none⟩ v6).cell? ⟨y, i6, none⟩ = some u6 ∧ (((((((W.setCell ⟨b, 0, none⟩ v0).setCell ⟨b, 1, none⟩ v1).setCell ⟨b, 2, none⟩ v2).setCell ⟨b, 3, none⟩ v3).setCell ⟨b, 4, none⟩ v4).setCell ⟨b, 5, none⟩ v5).setCell ⟨b, 6, none⟩ v6).cell? ⟨y, i7, none⟩ = some u7 ∧ (((((((W.setCell ⟨b, 0, none⟩ v0).setCell ⟨b, 1, none⟩ v1).setCell ⟨b, 2, none⟩ v2).setCell ⟨b, 3, none⟩ v3).setCell ⟨b, 4, none⟩ v4).setCell ⟨b, 5, none⟩ v5).setCell ⟨b, 6, none⟩ v6).cell? ⟨y, i8, none⟩ = some u8 ∧ (((((((W.setCell ⟨b, 0, none⟩ v0).setCell ⟨b, 1, none⟩ v1).setCell ⟨b, 2, none⟩ v2).setCell ⟨b, 3, none⟩ v3).setCell ⟨b, 4, none⟩ v4).setCell ⟨b, 5, none⟩ v5).setCell ⟨b, 6, none⟩ v6).cell? ⟨y, i9, none⟩ = some u9 ∧ (((((((W.setCell ⟨b, 0, none⟩ v0).setCell ⟨b, 1, none⟩ v1).setCell ⟨b, 2, none⟩ v2).setCell ⟨b, 3, none⟩ v3).setCell ⟨b, 4, none⟩ v4).setCell ⟨b, 5, none⟩ v5).setCell ⟨b, 6, none⟩ v6).cell? ⟨y, i10, none⟩ = some u10 ∧ (((((((W.setCell ⟨b, 0, none⟩ v0).setCell ⟨b, 1, none⟩ v1).setCell ⟨b, 2, none⟩ v2).setCell ⟨b, 3, none⟩ v3).setCell ⟨b, 4, none⟩ v4).setCell ⟨b, 5, none⟩ v5).setCell ⟨b, 6, none⟩ v6).cell? ⟨y, i11, none⟩ = some u11 ∧ (((((((W.setCell ⟨b, 0, none⟩ v0).setCell ⟨b, 1, none⟩ v1).setCell ⟨b, 2, none⟩ v2).setCell ⟨b, 3, none⟩ v3).setCell ⟨b, 4, none⟩ v4).setCell ⟨b, 5, none⟩ v5).setCell ⟨b, 6, none⟩ v6).cell? ⟨z, i12, none⟩ = some u12 ∧ (((((((W.setCell ⟨b, 0, none⟩ v0).setCell ⟨b, 1, none⟩ v1).setCell ⟨b, 2, none⟩ v2).setCell ⟨b, 3, none⟩ v3).setCell ⟨b, 4, none⟩ v4).setCell ⟨b, 5, none⟩ v5).setCell ⟨b, 6, none⟩ v6).cell? ⟨z, i13, none⟩ = some u13 ∧ (((((((W.setCell ⟨b, 0, none⟩ v0).setCell ⟨b, 1, none⟩ v1).setCell ⟨b, 2, none⟩ v2).setCell ⟨b, 3, none⟩ v3).setCell ⟨b, 4, none⟩ v4).setCell ⟨b, 5, none⟩ v5).setCell ⟨b, 6, none⟩ v6).cell? ⟨z, i14, none⟩ = some u14 := by
  obtain ⟨h0, h1, h2, h3, h4, h5, h6, h7, h8, h9, h10, h11, h12, h13, h14⟩ := h
  exact ⟨cell1_set _ h_x (cell1_set _ h_x (cell1_set _ h_x (cell1_set _ h_x (cell1_set _ h_x (cell1_set _ h_x (cell1_set _ h_x (h0))))))), cell1_set _ h_x (cell1_set _ h_x (cell1_set _ h_x (cell1_set _ h_x (cell1_set _ h_x (cell1_set _ h_x (cell1_set _ h_x (h1))))))), cell1_set _ h_x (cell1_set _ h_x (cell1_set _ h_x (cell1_set _ h_x (cell1_set _ h_x (cell1_set _ h_x (cell1_set _ h_x (h2))))))), cell1_set _ h_x (cell1_set _ h_x (cell1_set _ h_x (cell1_set _ h_x (cell1_set _ h_x (cell1_set _ h_x (cell1_set _ h_x (h3))))))), cell1_set _ h_x (cell1_set _ h_x (cell1_set _ h_x (cell1_set _ h_x (cell1_set _ h_x (cell1_set _ h_x (cell1_set _ h_x (h4))))))), cell1_set _ h_y (cell1_set _ h_y (cell1_set _ h_y (cell1_set _ h_y (cell1_set _ h_y (cell1_set _ h_y (cell1_set _ h_y (h5))))))), cell1_set _ h_y (cell1_set _ h_y (cell1_set _ h_y (cell1_set _ h_y (cell1_set _ h_y (cell1_set _ h_y (cell1_set _ h_y (h6))))))), cell1_set _ h_y (cell1_set _ h_y (cell1_set _ h_y (cell1_set _ h_y (cell1_set _ h_y (cell1_set _ h_y (cell1_set _ h_y (h7))))))), cell1_set _ h_y (cell1_set _ h_y (cell1_set _ h_y (cell1_set _ h_y (cell1_set _ h_y (cell1_set _ h_y (cell1_set _ h_y (h8))))))), cell1_set _ h_y (cell1_set _ h_y (cell1_set _ h_y (cell1_set _ h_y (cell1_set _ h_y (cell1_set _ h_y (cell1_set _ h_y (h9))))))), cell1_set _ h_y (cell1_set _ h_y (cell1_set _ h_y (cell1_set _ h_y (cell1_set _ h_y (cell1_set _ h_y (cell1_set _ h_y (h10))))))), cell1_set _ h_y (cell1_set _ h_y (cell1_set _ h_y (cell1_set _ h_y (cell1_set _ h_y (cell1_set _ h_y (cell1_set _ h_y (h11))))))), cell1_set _ h_z (cell1_set _ h_z (cell1_set _ h_z (cell1_set _ h_z (cell1_set _ h_z (cell1_set _ h_z (cell1_set _ h_z (h12))))))), cell1_set _ h_z (cell1_set _ h_z (cell1_set _ h_z (cell1_set _ h_z (cell1_set _ h_z (cell1_set _ h_z (cell1_set _ h_z (h13))))))), cell1_set _ h_z (cell1_set _ h_z (cell1_set _ h_z (cell1_set _ h_z (cell1_set _ h_z (cell1_set _ h_z (cell1_set _ h_z (h14)))))))⟩
set_option maxRecDepth 100000 in
set_option maxHeartbeats 64000000 in
theorem do_app (sa pa : Option Addr) (sc pc : Nat) (d : Dk) (j : Jn) (va : Option Addr) (vc : Nat) (c : Ct) (k : Int) (l : List UInt8) (p : Int) (nd : Dk) (nj : Jn) (e : Int) (w : World) (hD : Lists w sa sc pa pc d) (hl : l.length ≤ 1000000000000000) (hp : d.P.length ≤ 8000000000000) (hk : k = 0) (hq : appW d j l = (nd, nj, e)) :
    Calls Try.prog 48 #[.agg #[.slice sa d.S.length sc, .slice pa d.P.length pc, .int .i64 d.fuse, .int .i64 d.ops, .bool d.dead], .agg (jnV j), .agg #[.string (bs c.image), .int .i64 c.pos, .slice va c.recs.length vc], .agg #[.int .i64 k, .string (bs l), .int .i64 p]] w (DOPost nd nj e true w) := by
  have tk : (k == 0) = true := by rw [hk]; rfl
  have HQ := Lib.hid hq; clear hk hq
  unfold DOPost; simp only [jnV]
  have hb0 := (((((((Below.refl w.heap.size w).alloc (Nat.le_refl _) (.cells #[.slice sa d.S.length sc, .slice pa d.P.length pc, .int .i64 d.fuse, .int .i64 d.ops, .bool d.dead] 38)).alloc (by simp) (.cells #[.int .i64 j.x.g, .int .i64 j.x.e, .int .i64 j.x.a, .int .i64 j.x.z, .int .i64 j.x.p, .int .i64 j.n, .int .i64 j.r] 57)).alloc (by simp; try omega) (.cells #[.string (bs c.image), .int .i64 c.pos, .slice va c.recs.length vc] 74)).alloc (by simp; try omega) (.cells #[.int .i64 k, .string (bs l), .int .i64 p] 67)).alloc (by simp; try omega) (.cells #[.slice none 0 0, .slice none 0 0, .int .i64 0, .int .i64 0, .bool false] 38)).alloc (by simp; try omega) (.cells #[.int .i64 0, .int .i64 0, .int .i64 0, .int .i64 0, .int .i64 0, .int .i64 0, .int .i64 0] 57))
  have h_HX := ((((((Bx.new w #[.slice sa d.S.length sc, .slice pa d.P.length pc, .int .i64 d.fuse, .int .i64 d.ops, .bool d.dead] 38).alloc (.cells #[.int .i64 j.x.g, .int .i64 j.x.e, .int .i64 j.x.a, .int .i64 j.x.z, .int .i64 j.x.p, .int .i64 j.n, .int .i64 j.r] 57)).alloc (.cells #[.string (bs c.image), .int .i64 c.pos, .slice va c.recs.length vc] 74)).alloc (.cells #[.int .i64 k, .string (bs l), .int .i64 p] 67)).alloc (.cells #[.slice none 0 0, .slice none 0 0, .int .i64 0, .int .i64 0, .bool false] 38)).alloc (.cells #[.int .i64 0, .int .i64 0, .int .i64 0, .int .i64 0, .int .i64 0, .int .i64 0, .int .i64 0] 57))
  have h_HJ := (((((Bx.new (w.alloc (.cells #[.slice sa d.S.length sc, .slice pa d.P.length pc, .int .i64 d.fuse, .int .i64 d.ops, .bool d.dead] 38)) #[.int .i64 j.x.g, .int .i64 j.x.e, .int .i64 j.x.a, .int .i64 j.x.z, .int .i64 j.x.p, .int .i64 j.n, .int .i64 j.r] 57).alloc (.cells #[.string (bs c.image), .int .i64 c.pos, .slice va c.recs.length vc] 74)).alloc (.cells #[.int .i64 k, .string (bs l), .int .i64 p] 67)).alloc (.cells #[.slice none 0 0, .slice none 0 0, .int .i64 0, .int .i64 0, .bool false] 38)).alloc (.cells #[.int .i64 0, .int .i64 0, .int .i64 0, .int .i64 0, .int .i64 0, .int .i64 0, .int .i64 0] 57))
  rw [show (w.alloc (.cells #[.slice sa d.S.length sc, .slice pa d.P.length pc, .int .i64 d.fuse, .int .i64 d.ops, .bool d.dead] 38)).heap.size = w.heap.size + 1 by simp] at h_HJ
  have h_HC := ((((Bx.new ((w.alloc (.cells #[.slice sa d.S.length sc, .slice pa d.P.length pc, .int .i64 d.fuse, .int .i64 d.ops, .bool d.dead] 38)).alloc (.cells #[.int .i64 j.x.g, .int .i64 j.x.e, .int .i64 j.x.a, .int .i64 j.x.z, .int .i64 j.x.p, .int .i64 j.n, .int .i64 j.r] 57)) #[.string (bs c.image), .int .i64 c.pos, .slice va c.recs.length vc] 74).alloc (.cells #[.int .i64 k, .string (bs l), .int .i64 p] 67)).alloc (.cells #[.slice none 0 0, .slice none 0 0, .int .i64 0, .int .i64 0, .bool false] 38)).alloc (.cells #[.int .i64 0, .int .i64 0, .int .i64 0, .int .i64 0, .int .i64 0, .int .i64 0, .int .i64 0] 57))
  rw [show ((w.alloc (.cells #[.slice sa d.S.length sc, .slice pa d.P.length pc, .int .i64 d.fuse, .int .i64 d.ops, .bool d.dead] 38)).alloc (.cells #[.int .i64 j.x.g, .int .i64 j.x.e, .int .i64 j.x.a, .int .i64 j.x.z, .int .i64 j.x.p, .int .i64 j.n, .int .i64 j.r] 57)).heap.size = w.heap.size + 2 by simp] at h_HC
  have h_HT := (((Bx.new (((w.alloc (.cells #[.slice sa d.S.length sc, .slice pa d.P.length pc, .int .i64 d.fuse, .int .i64 d.ops, .bool d.dead] 38)).alloc (.cells #[.int .i64 j.x.g, .int .i64 j.x.e, .int .i64 j.x.a, .int .i64 j.x.z, .int .i64 j.x.p, .int .i64 j.n, .int .i64 j.r] 57)).alloc (.cells #[.string (bs c.image), .int .i64 c.pos, .slice va c.recs.length vc] 74)) #[.int .i64 k, .string (bs l), .int .i64 p] 67).alloc (.cells #[.slice none 0 0, .slice none 0 0, .int .i64 0, .int .i64 0, .bool false] 38)).alloc (.cells #[.int .i64 0, .int .i64 0, .int .i64 0, .int .i64 0, .int .i64 0, .int .i64 0, .int .i64 0] 57))
  rw [show (((w.alloc (.cells #[.slice sa d.S.length sc, .slice pa d.P.length pc, .int .i64 d.fuse, .int .i64 d.ops, .bool d.dead] 38)).alloc (.cells #[.int .i64 j.x.g, .int .i64 j.x.e, .int .i64 j.x.a, .int .i64 j.x.z, .int .i64 j.x.p, .int .i64 j.n, .int .i64 j.r] 57)).alloc (.cells #[.string (bs c.image), .int .i64 c.pos, .slice va c.recs.length vc] 74)).heap.size = w.heap.size + 3 by simp] at h_HT
  have h_HR := ((Bx.new ((((w.alloc (.cells #[.slice sa d.S.length sc, .slice pa d.P.length pc, .int .i64 d.fuse, .int .i64 d.ops, .bool d.dead] 38)).alloc (.cells #[.int .i64 j.x.g, .int .i64 j.x.e, .int .i64 j.x.a, .int .i64 j.x.z, .int .i64 j.x.p, .int .i64 j.n, .int .i64 j.r] 57)).alloc (.cells #[.string (bs c.image), .int .i64 c.pos, .slice va c.recs.length vc] 74)).alloc (.cells #[.int .i64 k, .string (bs l), .int .i64 p] 67)) #[.slice none 0 0, .slice none 0 0, .int .i64 0, .int .i64 0, .bool false] 38).alloc (.cells #[.int .i64 0, .int .i64 0, .int .i64 0, .int .i64 0, .int .i64 0, .int .i64 0, .int .i64 0] 57))
  rw [show ((((w.alloc (.cells #[.slice sa d.S.length sc, .slice pa d.P.length pc, .int .i64 d.fuse, .int .i64 d.ops, .bool d.dead] 38)).alloc (.cells #[.int .i64 j.x.g, .int .i64 j.x.e, .int .i64 j.x.a, .int .i64 j.x.z, .int .i64 j.x.p, .int .i64 j.n, .int .i64 j.r] 57)).alloc (.cells #[.string (bs c.image), .int .i64 c.pos, .slice va c.recs.length vc] 74)).alloc (.cells #[.int .i64 k, .string (bs l), .int .i64 p] 67)).heap.size = w.heap.size + 4 by simp] at h_HR
  have h_HJ2 := (Bx.new (((((w.alloc (.cells #[.slice sa d.S.length sc, .slice pa d.P.length pc, .int .i64 d.fuse, .int .i64 d.ops, .bool d.dead] 38)).alloc (.cells #[.int .i64 j.x.g, .int .i64 j.x.e, .int .i64 j.x.a, .int .i64 j.x.z, .int .i64 j.x.p, .int .i64 j.n, .int .i64 j.r] 57)).alloc (.cells #[.string (bs c.image), .int .i64 c.pos, .slice va c.recs.length vc] 74)).alloc (.cells #[.int .i64 k, .string (bs l), .int .i64 p] 67)).alloc (.cells #[.slice none 0 0, .slice none 0 0, .int .i64 0, .int .i64 0, .bool false] 38)) #[.int .i64 0, .int .i64 0, .int .i64 0, .int .i64 0, .int .i64 0, .int .i64 0, .int .i64 0] 57)
  rw [show (((((w.alloc (.cells #[.slice sa d.S.length sc, .slice pa d.P.length pc, .int .i64 d.fuse, .int .i64 d.ops, .bool d.dead] 38)).alloc (.cells #[.int .i64 j.x.g, .int .i64 j.x.e, .int .i64 j.x.a, .int .i64 j.x.z, .int .i64 j.x.p, .int .i64 j.n, .int .i64 j.r] 57)).alloc (.cells #[.string (bs c.image), .int .i64 c.pos, .slice va c.recs.length vc] 74)).alloc (.cells #[.int .i64 k, .string (bs l), .int .i64 p] 67)).alloc (.cells #[.slice none 0 0, .slice none 0 0, .int .i64 0, .int .i64 0, .bool false] 38)).heap.size = w.heap.size + 5 by simp] at h_HJ2
  have HB := Lib.hid hb0; have HX := Lib.hid h_HX; have HJ := Lib.hid h_HJ; have HC := Lib.hid h_HC; have HT := Lib.hid h_HT; have HR := Lib.hid h_HR; have HJ2 := Lib.hid h_HJ2
  clear hb0 h_HX h_HJ h_HC h_HT h_HR h_HJ2
  have HD := Lib.hid (hD.below HB.out)
  go_enter Try.func48, Try.ntmps48
  go_upto_region 1 with (fail)
  generalize hW0 : (((((w.alloc (.cells #[.slice sa d.S.length sc, .slice pa d.P.length pc, .int .i64 d.fuse, .int .i64 d.ops, .bool d.dead] 38)).alloc (.cells #[.int .i64 j.x.g, .int .i64 j.x.e, .int .i64 j.x.a, .int .i64 j.x.z, .int .i64 j.x.p, .int .i64 j.n, .int .i64 j.r] 57)).alloc (.cells #[.string (bs c.image), .int .i64 c.pos, .slice va c.recs.length vc] 74)).alloc (.cells #[.int .i64 k, .string (bs l), .int .i64 p] 67)).alloc (.cells #[.slice none 0 0, .slice none 0 0, .int .i64 0, .int .i64 0, .bool false] 38)).alloc (.cells #[.int .i64 0, .int .i64 0, .int .i64 0, .int .i64 0, .int .i64 0, .int .i64 0, .int .i64 0] 57) = v0 at HB HD HX HJ HC HT HR HJ2 ⊢
  clear hW0
  have x0 : v0.cell? ⟨w.heap.size, 0, none⟩ = some (.slice sa d.S.length sc) := HX.out.cell 0
  have x1 : v0.cell? ⟨w.heap.size, 1, none⟩ = some (.slice pa d.P.length pc) := HX.out.cell 1
  have x2 : v0.cell? ⟨w.heap.size, 2, none⟩ = some (.int .i64 d.fuse) := HX.out.cell 2
  have x3 : v0.cell? ⟨w.heap.size, 3, none⟩ = some (.int .i64 d.ops) := HX.out.cell 3
  have x4 : v0.cell? ⟨w.heap.size, 4, none⟩ = some (.bool d.dead) := HX.out.cell 4
  have y0 : v0.cell? ⟨(w.heap.size + 1), 0, none⟩ = some (.int .i64 j.x.g) := HJ.out.cell 0
  have y1 : v0.cell? ⟨(w.heap.size + 1), 1, none⟩ = some (.int .i64 j.x.e) := HJ.out.cell 1
  have y2 : v0.cell? ⟨(w.heap.size + 1), 2, none⟩ = some (.int .i64 j.x.a) := HJ.out.cell 2
  have y3 : v0.cell? ⟨(w.heap.size + 1), 3, none⟩ = some (.int .i64 j.x.z) := HJ.out.cell 3
  have y4 : v0.cell? ⟨(w.heap.size + 1), 4, none⟩ = some (.int .i64 j.x.p) := HJ.out.cell 4
  have y5 : v0.cell? ⟨(w.heap.size + 1), 5, none⟩ = some (.int .i64 j.n) := HJ.out.cell 5
  have y6 : v0.cell? ⟨(w.heap.size + 1), 6, none⟩ = some (.int .i64 j.r) := HJ.out.cell 6
  have t0 : v0.cell? ⟨(w.heap.size + 3), 0, none⟩ = some (.int .i64 k) := HT.out.cell 0
  have t1 : v0.cell? ⟨(w.heap.size + 3), 1, none⟩ = some (.string (bs l)) := HT.out.cell 1
  have t2 : v0.cell? ⟨(w.heap.size + 3), 2, none⟩ = some (.int .i64 p) := HT.out.cell 2
  go_wp2_with fail
  refine (appW_use _ _ _ _ d nd j nj l e _ HD.out hl hp HQ.out).mono ?_
  simp only [jnV]
  rintro er w1 ⟨a1, c1, a2, c2, rfl, hL, hb1⟩
  clear x0 x1 x2 x3 x4
  clear y0 y1 y2 y3 y4 y5 y6
  clear t0 t1 t2
  have zw1 : w.heap.size + 5 < w1.heap.size := by have := (HJ2.out.call hb1).lt; omega
  have hal := ((Below.refl w1.heap.size w1).alloc (Nat.le_refl _) (.cells #[.slice a1 nd.S.length c1, .slice a2 nd.P.length c2, .int .i64 nd.fuse, .int .i64 nd.ops, .bool nd.dead] 38)).alloc (by simp) (.cells #[.int .i64 nj.x.g, .int .i64 nj.x.e, .int .i64 nj.x.a, .int .i64 nj.x.z, .int .i64 nj.x.p, .int .i64 nj.n, .int .i64 nj.r] 57)
  have HA := Lib.hid ((Bx.new w1 #[.slice a1 nd.S.length c1, .slice a2 nd.P.length c2, .int .i64 nd.fuse, .int .i64 nd.ops, .bool nd.dead] 38).alloc (.cells #[.int .i64 nj.x.g, .int .i64 nj.x.e, .int .i64 nj.x.a, .int .i64 nj.x.z, .int .i64 nj.x.p, .int .i64 nj.n, .int .i64 nj.r] 57)); have HJA := Lib.hid (Bx.new1 w1 (.cells #[.slice a1 nd.S.length c1, .slice a2 nd.P.length c2, .int .i64 nd.fuse, .int .i64 nd.ops, .bool nd.dead] 38) #[.int .i64 nj.x.g, .int .i64 nj.x.e, .int .i64 nj.x.a, .int .i64 nj.x.z, .int .i64 nj.x.p, .int .i64 nj.n, .int .i64 nj.r] 57); have HLA := Lib.hid (hL.below hal)
  have HX := Lib.hid ((HX.out.call hb1).call hal)
  have HJ := Lib.hid ((HJ.out.call hb1).call hal)
  have HC := Lib.hid ((HC.out.call hb1).call hal)
  have HT := Lib.hid ((HT.out.call hb1).call hal)
  have HR := Lib.hid ((HR.out.call hb1).call hal)
  have HJ2 := Lib.hid ((HJ2.out.call hb1).call hal)
  have zj0 := HJ2.out.lt
  have HB := Lib.hid (btrans (btrans HB.out HB.out.size hb1) (btrans HB.out HB.out.size hb1).size hal); clear hb1 hL hal
  go_upto_region 3 with (fail)
  generalize hW : (w1.alloc (.cells #[.slice a1 nd.S.length c1, .slice a2 nd.P.length c2, .int .i64 nd.fuse, .int .i64 nd.ops, .bool nd.dead] 38)).alloc (.cells #[.int .i64 nj.x.g, .int .i64 nj.x.e, .int .i64 nj.x.a, .int .i64 nj.x.z, .int .i64 nj.x.p, .int .i64 nj.n, .int .i64 nj.r] 57) = v1 at HX HJ HC HT HR HJ2 HB HA HJA HLA ⊢
  clear hW
  have n0 : v1.cell? ⟨w1.heap.size, 0, none⟩ = some (.slice a1 nd.S.length c1) := HA.out.cell 0
  have n1 : v1.cell? ⟨w1.heap.size, 1, none⟩ = some (.slice a2 nd.P.length c2) := HA.out.cell 1
  have n2 : v1.cell? ⟨w1.heap.size, 2, none⟩ = some (.int .i64 nd.fuse) := HA.out.cell 2
  have n3 : v1.cell? ⟨w1.heap.size, 3, none⟩ = some (.int .i64 nd.ops) := HA.out.cell 3
  have n4 : v1.cell? ⟨w1.heap.size, 4, none⟩ = some (.bool nd.dead) := HA.out.cell 4
  have m0 : v1.cell? ⟨(w1.heap.size + 1), 0, none⟩ = some (.int .i64 nj.x.g) := HJA.out.cell 0
  have m1 : v1.cell? ⟨(w1.heap.size + 1), 1, none⟩ = some (.int .i64 nj.x.e) := HJA.out.cell 1
  have m2 : v1.cell? ⟨(w1.heap.size + 1), 2, none⟩ = some (.int .i64 nj.x.a) := HJA.out.cell 2
  have m3 : v1.cell? ⟨(w1.heap.size + 1), 3, none⟩ = some (.int .i64 nj.x.z) := HJA.out.cell 3
  have m4 : v1.cell? ⟨(w1.heap.size + 1), 4, none⟩ = some (.int .i64 nj.x.p) := HJA.out.cell 4
  have m5 : v1.cell? ⟨(w1.heap.size + 1), 5, none⟩ = some (.int .i64 nj.n) := HJA.out.cell 5
  have m6 : v1.cell? ⟨(w1.heap.size + 1), 6, none⟩ = some (.int .i64 nj.r) := HJA.out.cell 6
  have hsL : v1.drew.cell? ⟨(w1.heap.size), 0, none⟩ = some (.slice a1 nd.S.length c1) ∧ v1.drew.cell? ⟨(w1.heap.size), 1, none⟩ = some (.slice a2 nd.P.length c2) ∧ v1.drew.cell? ⟨(w1.heap.size), 2, none⟩ = some (.int .i64 nd.fuse) ∧ v1.drew.cell? ⟨(w1.heap.size), 3, none⟩ = some (.int .i64 nd.ops) ∧ v1.drew.cell? ⟨(w1.heap.size), 4, none⟩ = some (.bool nd.dead) ∧ v1.drew.cell? ⟨(w1.heap.size + 1), 0, none⟩ = some (.int .i64 nj.x.g) ∧ v1.drew.cell? ⟨(w1.heap.size + 1), 1, none⟩ = some (.int .i64 nj.x.e) ∧ v1.drew.cell? ⟨(w1.heap.size + 1), 2, none⟩ = some (.int .i64 nj.x.a) ∧ v1.drew.cell? ⟨(w1.heap.size + 1), 3, none⟩ = some (.int .i64 nj.x.z) ∧ v1.drew.cell? ⟨(w1.heap.size + 1), 4, none⟩ = some (.int .i64 nj.x.p) ∧ v1.drew.cell? ⟨(w1.heap.size + 1), 5, none⟩ = some (.int .i64 nj.n) ∧ v1.drew.cell? ⟨(w1.heap.size + 1), 6, none⟩ = some (.int .i64 nj.r) := ⟨n0, n1, n2, n3, n4, m0, m1, m2, m3, m4, m5, m6⟩
  have HSL := Lib.hid hsL; clear hsL n0 n1 n2 n3 n4 m0 m1 m2 m3 m4 m5 m6
  go_wp2_with fail
  refine wp_region_held_drew (S := (fun w' => w'.cell? ⟨(w1.heap.size), 0, none⟩ = some (.slice a1 nd.S.length c1) ∧ w'.cell? ⟨(w1.heap.size), 1, none⟩ = some (.slice a2 nd.P.length c2) ∧ w'.cell? ⟨(w1.heap.size), 2, none⟩ = some (.int .i64 nd.fuse) ∧ w'.cell? ⟨(w1.heap.size), 3, none⟩ = some (.int .i64 nd.ops) ∧ w'.cell? ⟨(w1.heap.size), 4, none⟩ = some (.bool nd.dead) ∧ w'.cell? ⟨(w1.heap.size + 1), 0, none⟩ = some (.int .i64 nj.x.g) ∧ w'.cell? ⟨(w1.heap.size + 1), 1, none⟩ = some (.int .i64 nj.x.e) ∧ w'.cell? ⟨(w1.heap.size + 1), 2, none⟩ = some (.int .i64 nj.x.a) ∧ w'.cell? ⟨(w1.heap.size + 1), 3, none⟩ = some (.int .i64 nj.x.z) ∧ w'.cell? ⟨(w1.heap.size + 1), 4, none⟩ = some (.int .i64 nj.x.p) ∧ w'.cell? ⟨(w1.heap.size + 1), 5, none⟩ = some (.int .i64 nj.n) ∧ w'.cell? ⟨(w1.heap.size + 1), 6, none⟩ = some (.int .i64 nj.r))) (by kernel_rfl) ?_ (fun hHeld => ?_)
  · exact HSL.out
  refine takeH (i := 0) (v := ?vv1) 35 rfl rfl (by kernel_rfl) (by kernel_rfl) (by kernel_rfl) (fun _ _ _ h => h) (Or.inl ⟨by kernel_rfl, ?yy1⟩) (by assumption) ?_
  case yy1 => intro w hSw; (try dsimp only at hSw); go_simp; (try with_reducible rfl)
  simp only [List.setIfInBounds_toArray, List.set_cons_zero, List.set_cons_succ]
  refine takeH (i := 1) (v := ?vv2) 36 rfl rfl (by kernel_rfl) (by kernel_rfl) (by kernel_rfl) (fun _ _ _ h => h) (Or.inl ⟨by kernel_rfl, ?yy2⟩) (by assumption) ?_
  case yy2 => intro w hSw; (try dsimp only at hSw); go_simp; (try with_reducible rfl)
  simp only [List.setIfInBounds_toArray, List.set_cons_zero, List.set_cons_succ]
  refine takeH (i := 2) (v := ?vv3) 37 rfl rfl (by kernel_rfl) (by kernel_rfl) (by kernel_rfl) (fun _ _ _ h => h) (Or.inl ⟨by kernel_rfl, ?yy3⟩) (by assumption) ?_
  case yy3 => intro w hSw; (try dsimp only at hSw); go_simp; (try with_reducible rfl)
  simp only [List.setIfInBounds_toArray, List.set_cons_zero, List.set_cons_succ]
  refine wpAnyH_ready (rs := [3]) (by kernel_rfl) (by simp) ?_
  refine (AllReadyH.cons rfl (fun K hK => ?_) AllReadyH.nil)
  have r0 : v1.cell? ⟨(w.heap.size + 4), 0, none⟩ = some (.slice none 0 0) := HR.out.cell 0
  have r1 : v1.cell? ⟨(w.heap.size + 4), 1, none⟩ = some (.slice none 0 0) := HR.out.cell 1
  have r2 : v1.cell? ⟨(w.heap.size + 4), 2, none⟩ = some (.int .i64 0) := HR.out.cell 2
  have r3 : v1.cell? ⟨(w.heap.size + 4), 3, none⟩ = some (.int .i64 0) := HR.out.cell 3
  have r4 : v1.cell? ⟨(w.heap.size + 4), 4, none⟩ = some (.bool false) := HR.out.cell 4
  have f0 : v1.frozen? ⟨(w.heap.size + 4), 0, none⟩ = false := HR.out.free 0
  have f1 : v1.frozen? ⟨(w.heap.size + 4), 1, none⟩ = false := HR.out.free 1
  have f2 : v1.frozen? ⟨(w.heap.size + 4), 2, none⟩ = false := HR.out.free 2
  have f3 : v1.frozen? ⟨(w.heap.size + 4), 3, none⟩ = false := HR.out.free 3
  have f4 : v1.frozen? ⟨(w.heap.size + 4), 4, none⟩ = false := HR.out.free 4
  go_simp
  refine hK.out _ _ ?_ (fun hHeld => ?_)
  · exact wc_xxxxxyyyyyyy_5 (W := v1) (by assumption) (w.heap.size + 4) (by omega) (by omega) _ _ _ _ _
  clear hK K
  (try simp only [Act.put, List.setIfInBounds_toArray, List.set_cons_zero, List.set_cons_succ])
  clear r0 r1 r2 r3 r4
  clear f0 f1 f2 f3 f4
  have HRa := Lib.hid (HR.out.sets (.slice a1 nd.S.length c1) (.slice a2 nd.P.length c2) (.int .i64 nd.fuse) (.int .i64 nd.ops) (.bool nd.dead)); have HJa := Lib.hid (HJ2.out.sets_ne (c := w.heap.size + 4) (by omega) (.slice a1 nd.S.length c1) (.slice a2 nd.P.length c2) (.int .i64 nd.fuse) (.int .i64 nd.ops) (.bool nd.dead)); have HBa := Lib.hid (below_sets HB.out (w.heap.size + 4) (by omega) (.slice a1 nd.S.length c1) (.slice a2 nd.P.length c2) (.int .i64 nd.fuse) (.int .i64 nd.ops) (.bool nd.dead)); have HLa := Lib.hid (HLA.out.sets_box HR.out (.slice a1 nd.S.length c1) (.slice a2 nd.P.length c2) (.int .i64 nd.fuse) (.int .i64 nd.ops) (.bool nd.dead))
  generalize hWE : (((((v1.setCell ⟨(w.heap.size + 4), 0, none⟩ (.slice a1 nd.S.length c1)).setCell ⟨(w.heap.size + 4), 1, none⟩ (.slice a2 nd.P.length c2)).setCell ⟨(w.heap.size + 4), 2, none⟩ (.int .i64 nd.fuse)).setCell ⟨(w.heap.size + 4), 3, none⟩ (.int .i64 nd.ops)).setCell ⟨(w.heap.size + 4), 4, none⟩ (.bool nd.dead)) = WE at HRa HJa HBa HLa hHeld ⊢
  clear hWE
  refine wpAnyH_ready (rs := [4]) (by kernel_rfl) (by simp) ?_
  refine (AllReadyH.cons rfl (fun K hK => ?_) AllReadyH.nil)
  have q0 : WE.cell? ⟨(w.heap.size + 5), 0, none⟩ = some (.int .i64 0) := HJa.out.cell 0
  have q1 : WE.cell? ⟨(w.heap.size + 5), 1, none⟩ = some (.int .i64 0) := HJa.out.cell 1
  have q2 : WE.cell? ⟨(w.heap.size + 5), 2, none⟩ = some (.int .i64 0) := HJa.out.cell 2
  have q3 : WE.cell? ⟨(w.heap.size + 5), 3, none⟩ = some (.int .i64 0) := HJa.out.cell 3
  have q4 : WE.cell? ⟨(w.heap.size + 5), 4, none⟩ = some (.int .i64 0) := HJa.out.cell 4
  have q5 : WE.cell? ⟨(w.heap.size + 5), 5, none⟩ = some (.int .i64 0) := HJa.out.cell 5
  have q6 : WE.cell? ⟨(w.heap.size + 5), 6, none⟩ = some (.int .i64 0) := HJa.out.cell 6
  have p0 : WE.frozen? ⟨(w.heap.size + 5), 0, none⟩ = false := HJa.out.free 0
  have p1 : WE.frozen? ⟨(w.heap.size + 5), 1, none⟩ = false := HJa.out.free 1
  have p2 : WE.frozen? ⟨(w.heap.size + 5), 2, none⟩ = false := HJa.out.free 2
  have p3 : WE.frozen? ⟨(w.heap.size + 5), 3, none⟩ = false := HJa.out.free 3
  have p4 : WE.frozen? ⟨(w.heap.size + 5), 4, none⟩ = false := HJa.out.free 4
  have p5 : WE.frozen? ⟨(w.heap.size + 5), 5, none⟩ = false := HJa.out.free 5
  have p6 : WE.frozen? ⟨(w.heap.size + 5), 6, none⟩ = false := HJa.out.free 6
  go_simp
  refine hK.out _ _ ?_ (fun hHeld => ?_)
  · exact wc_xxxxxyyyyyyy_7 (W := WE) (by assumption) (w.heap.size + 5) (by omega) (by omega) _ _ _ _ _ _ _
  clear hK K
  (try simp only [Act.put, List.setIfInBounds_toArray, List.set_cons_zero, List.set_cons_succ])
  refine takeH (i := 5) (v := ?vv4) 10 rfl rfl (by kernel_rfl) (by kernel_rfl) (by kernel_rfl) (fun _ _ _ h => h) (Or.inl ⟨by kernel_rfl, ?yy4⟩) (by assumption) ?_
  case yy4 => intro w hSw; (try dsimp only at hSw); go_simp; (try with_reducible rfl)
  simp only [List.setIfInBounds_toArray, List.set_cons_zero, List.set_cons_succ]
  refine takeH (i := 6) (v := ?vv5) 11 rfl rfl (by kernel_rfl) (by kernel_rfl) (by kernel_rfl) (fun _ _ _ h => h) (Or.inl ⟨by kernel_rfl, ?yy5⟩) (by assumption) ?_
  case yy5 => intro w hSw; (try dsimp only at hSw); go_simp; (try with_reducible rfl)
  simp only [List.setIfInBounds_toArray, List.set_cons_zero, List.set_cons_succ]
  refine wpAnyH_done (by kernel_rfl) ?_ _
  have KR := Lib.hid (HRa.out.sets7_ne (c := w.heap.size + 5) (by omega) (.int .i64 nj.x.g) (.int .i64 nj.x.e) (.int .i64 nj.x.a) (.int .i64 nj.x.z) (.int .i64 nj.x.p) (.int .i64 nj.n) (.int .i64 nj.r)); have KJ := Lib.hid (HJa.out.sets7 (.int .i64 nj.x.g) (.int .i64 nj.x.e) (.int .i64 nj.x.a) (.int .i64 nj.x.z) (.int .i64 nj.x.p) (.int .i64 nj.n) (.int .i64 nj.r)); have KL := Lib.hid (HLa.out.sets7i HJa.out (.int .i64 nj.x.g) (.int .i64 nj.x.e) (.int .i64 nj.x.a) (.int .i64 nj.x.z) (.int .i64 nj.x.p) (.int .i64 nj.n) (.int .i64 nj.r)).drewD; have KB := Lib.hid (below_sets7 HBa.out (w.heap.size + 5) (by omega) (.int .i64 nj.x.g) (.int .i64 nj.x.e) (.int .i64 nj.x.a) (.int .i64 nj.x.z) (.int .i64 nj.x.p) (.int .i64 nj.n) (.int .i64 nj.r)).drew
  go_wp2
  have k0 := KR.out.cell 0
  have k1 := KR.out.cell 1
  have k2 := KR.out.cell 2
  have k3 := KR.out.cell 3
  have k4 := KR.out.cell 4
  have m0 := KJ.out.cell 0
  have m1 := KJ.out.cell 1
  have m2 := KJ.out.cell 2
  have m3 := KJ.out.cell 3
  have m4 := KJ.out.cell 4
  have m5 := KJ.out.cell 5
  have m6 := KJ.out.cell 6
  simp only [List.getElem?_toArray, List.getElem?_cons_zero, List.getElem?_cons_succ] at k0 k1 k2 k3 k4 m0 m1 m2 m3 m4 m5 m6
  refine bodyPost_ret (v := .tuple #[.agg #[.slice a1 nd.S.length c1, .slice a2 nd.P.length c2, .int .i64 nd.fuse, .int .i64 nd.ops, .bool nd.dead], .agg #[.int .i64 nj.x.g, .int .i64 nj.x.e, .int .i64 nj.x.a, .int .i64 nj.x.z, .int .i64 nj.x.p, .int .i64 nj.n, .int .i64 nj.r], .int .i64 e, .bool true]) (by simp [results, Try.results48, go_sem, k0, k1, k2, k3, k4, m0, m1, m2, m3, m4, m5, m6]) rfl ?_
  exact ⟨a1, c1, a2, c2, rfl, KL.out, KB.out⟩
set_option maxRecDepth 100000 in
set_option maxHeartbeats 64000000 in
theorem do_res (sa pa : Option Addr) (sc pc : Nat) (d : Dk) (j : Jn) (va : Option Addr) (vc : Nat) (c : Ct) (k : Int) (l : List UInt8) (p : Int) (nd : Dk) (nj : Jn) (e : Int) (w : World) (hD : Lists w sa sc pa pc d) (hl : l.length ≤ 1000000000000000) (hp : d.P.length ≤ 8000000000000) (hk : k = 1) (hq : resW d j l p = (nd, nj, e)) :
    Calls Try.prog 48 #[.agg #[.slice sa d.S.length sc, .slice pa d.P.length pc, .int .i64 d.fuse, .int .i64 d.ops, .bool d.dead], .agg (jnV j), .agg #[.string (bs c.image), .int .i64 c.pos, .slice va c.recs.length vc], .agg #[.int .i64 k, .string (bs l), .int .i64 p]] w (DOPost nd nj e true w) := by
  have tk0 : (k == 0) = false := by rw [hk]; rfl
  have tk : (k == 1) = true := by rw [hk]; rfl
  have HQ := Lib.hid hq; clear hk hq
  unfold DOPost; simp only [jnV]
  have hb0 := (((((((Below.refl w.heap.size w).alloc (Nat.le_refl _) (.cells #[.slice sa d.S.length sc, .slice pa d.P.length pc, .int .i64 d.fuse, .int .i64 d.ops, .bool d.dead] 38)).alloc (by simp) (.cells #[.int .i64 j.x.g, .int .i64 j.x.e, .int .i64 j.x.a, .int .i64 j.x.z, .int .i64 j.x.p, .int .i64 j.n, .int .i64 j.r] 57)).alloc (by simp; try omega) (.cells #[.string (bs c.image), .int .i64 c.pos, .slice va c.recs.length vc] 74)).alloc (by simp; try omega) (.cells #[.int .i64 k, .string (bs l), .int .i64 p] 67)).alloc (by simp; try omega) (.cells #[.slice none 0 0, .slice none 0 0, .int .i64 0, .int .i64 0, .bool false] 38)).alloc (by simp; try omega) (.cells #[.int .i64 0, .int .i64 0, .int .i64 0, .int .i64 0, .int .i64 0, .int .i64 0, .int .i64 0] 57))
  have h_HX := ((((((Bx.new w #[.slice sa d.S.length sc, .slice pa d.P.length pc, .int .i64 d.fuse, .int .i64 d.ops, .bool d.dead] 38).alloc (.cells #[.int .i64 j.x.g, .int .i64 j.x.e, .int .i64 j.x.a, .int .i64 j.x.z, .int .i64 j.x.p, .int .i64 j.n, .int .i64 j.r] 57)).alloc (.cells #[.string (bs c.image), .int .i64 c.pos, .slice va c.recs.length vc] 74)).alloc (.cells #[.int .i64 k, .string (bs l), .int .i64 p] 67)).alloc (.cells #[.slice none 0 0, .slice none 0 0, .int .i64 0, .int .i64 0, .bool false] 38)).alloc (.cells #[.int .i64 0, .int .i64 0, .int .i64 0, .int .i64 0, .int .i64 0, .int .i64 0, .int .i64 0] 57))
  have h_HJ := (((((Bx.new (w.alloc (.cells #[.slice sa d.S.length sc, .slice pa d.P.length pc, .int .i64 d.fuse, .int .i64 d.ops, .bool d.dead] 38)) #[.int .i64 j.x.g, .int .i64 j.x.e, .int .i64 j.x.a, .int .i64 j.x.z, .int .i64 j.x.p, .int .i64 j.n, .int .i64 j.r] 57).alloc (.cells #[.string (bs c.image), .int .i64 c.pos, .slice va c.recs.length vc] 74)).alloc (.cells #[.int .i64 k, .string (bs l), .int .i64 p] 67)).alloc (.cells #[.slice none 0 0, .slice none 0 0, .int .i64 0, .int .i64 0, .bool false] 38)).alloc (.cells #[.int .i64 0, .int .i64 0, .int .i64 0, .int .i64 0, .int .i64 0, .int .i64 0, .int .i64 0] 57))
  rw [show (w.alloc (.cells #[.slice sa d.S.length sc, .slice pa d.P.length pc, .int .i64 d.fuse, .int .i64 d.ops, .bool d.dead] 38)).heap.size = w.heap.size + 1 by simp] at h_HJ
  have h_HC := ((((Bx.new ((w.alloc (.cells #[.slice sa d.S.length sc, .slice pa d.P.length pc, .int .i64 d.fuse, .int .i64 d.ops, .bool d.dead] 38)).alloc (.cells #[.int .i64 j.x.g, .int .i64 j.x.e, .int .i64 j.x.a, .int .i64 j.x.z, .int .i64 j.x.p, .int .i64 j.n, .int .i64 j.r] 57)) #[.string (bs c.image), .int .i64 c.pos, .slice va c.recs.length vc] 74).alloc (.cells #[.int .i64 k, .string (bs l), .int .i64 p] 67)).alloc (.cells #[.slice none 0 0, .slice none 0 0, .int .i64 0, .int .i64 0, .bool false] 38)).alloc (.cells #[.int .i64 0, .int .i64 0, .int .i64 0, .int .i64 0, .int .i64 0, .int .i64 0, .int .i64 0] 57))
  rw [show ((w.alloc (.cells #[.slice sa d.S.length sc, .slice pa d.P.length pc, .int .i64 d.fuse, .int .i64 d.ops, .bool d.dead] 38)).alloc (.cells #[.int .i64 j.x.g, .int .i64 j.x.e, .int .i64 j.x.a, .int .i64 j.x.z, .int .i64 j.x.p, .int .i64 j.n, .int .i64 j.r] 57)).heap.size = w.heap.size + 2 by simp] at h_HC
  have h_HT := (((Bx.new (((w.alloc (.cells #[.slice sa d.S.length sc, .slice pa d.P.length pc, .int .i64 d.fuse, .int .i64 d.ops, .bool d.dead] 38)).alloc (.cells #[.int .i64 j.x.g, .int .i64 j.x.e, .int .i64 j.x.a, .int .i64 j.x.z, .int .i64 j.x.p, .int .i64 j.n, .int .i64 j.r] 57)).alloc (.cells #[.string (bs c.image), .int .i64 c.pos, .slice va c.recs.length vc] 74)) #[.int .i64 k, .string (bs l), .int .i64 p] 67).alloc (.cells #[.slice none 0 0, .slice none 0 0, .int .i64 0, .int .i64 0, .bool false] 38)).alloc (.cells #[.int .i64 0, .int .i64 0, .int .i64 0, .int .i64 0, .int .i64 0, .int .i64 0, .int .i64 0] 57))
  rw [show (((w.alloc (.cells #[.slice sa d.S.length sc, .slice pa d.P.length pc, .int .i64 d.fuse, .int .i64 d.ops, .bool d.dead] 38)).alloc (.cells #[.int .i64 j.x.g, .int .i64 j.x.e, .int .i64 j.x.a, .int .i64 j.x.z, .int .i64 j.x.p, .int .i64 j.n, .int .i64 j.r] 57)).alloc (.cells #[.string (bs c.image), .int .i64 c.pos, .slice va c.recs.length vc] 74)).heap.size = w.heap.size + 3 by simp] at h_HT
  have h_HR := ((Bx.new ((((w.alloc (.cells #[.slice sa d.S.length sc, .slice pa d.P.length pc, .int .i64 d.fuse, .int .i64 d.ops, .bool d.dead] 38)).alloc (.cells #[.int .i64 j.x.g, .int .i64 j.x.e, .int .i64 j.x.a, .int .i64 j.x.z, .int .i64 j.x.p, .int .i64 j.n, .int .i64 j.r] 57)).alloc (.cells #[.string (bs c.image), .int .i64 c.pos, .slice va c.recs.length vc] 74)).alloc (.cells #[.int .i64 k, .string (bs l), .int .i64 p] 67)) #[.slice none 0 0, .slice none 0 0, .int .i64 0, .int .i64 0, .bool false] 38).alloc (.cells #[.int .i64 0, .int .i64 0, .int .i64 0, .int .i64 0, .int .i64 0, .int .i64 0, .int .i64 0] 57))
  rw [show ((((w.alloc (.cells #[.slice sa d.S.length sc, .slice pa d.P.length pc, .int .i64 d.fuse, .int .i64 d.ops, .bool d.dead] 38)).alloc (.cells #[.int .i64 j.x.g, .int .i64 j.x.e, .int .i64 j.x.a, .int .i64 j.x.z, .int .i64 j.x.p, .int .i64 j.n, .int .i64 j.r] 57)).alloc (.cells #[.string (bs c.image), .int .i64 c.pos, .slice va c.recs.length vc] 74)).alloc (.cells #[.int .i64 k, .string (bs l), .int .i64 p] 67)).heap.size = w.heap.size + 4 by simp] at h_HR
  have h_HJ2 := (Bx.new (((((w.alloc (.cells #[.slice sa d.S.length sc, .slice pa d.P.length pc, .int .i64 d.fuse, .int .i64 d.ops, .bool d.dead] 38)).alloc (.cells #[.int .i64 j.x.g, .int .i64 j.x.e, .int .i64 j.x.a, .int .i64 j.x.z, .int .i64 j.x.p, .int .i64 j.n, .int .i64 j.r] 57)).alloc (.cells #[.string (bs c.image), .int .i64 c.pos, .slice va c.recs.length vc] 74)).alloc (.cells #[.int .i64 k, .string (bs l), .int .i64 p] 67)).alloc (.cells #[.slice none 0 0, .slice none 0 0, .int .i64 0, .int .i64 0, .bool false] 38)) #[.int .i64 0, .int .i64 0, .int .i64 0, .int .i64 0, .int .i64 0, .int .i64 0, .int .i64 0] 57)
  rw [show (((((w.alloc (.cells #[.slice sa d.S.length sc, .slice pa d.P.length pc, .int .i64 d.fuse, .int .i64 d.ops, .bool d.dead] 38)).alloc (.cells #[.int .i64 j.x.g, .int .i64 j.x.e, .int .i64 j.x.a, .int .i64 j.x.z, .int .i64 j.x.p, .int .i64 j.n, .int .i64 j.r] 57)).alloc (.cells #[.string (bs c.image), .int .i64 c.pos, .slice va c.recs.length vc] 74)).alloc (.cells #[.int .i64 k, .string (bs l), .int .i64 p] 67)).alloc (.cells #[.slice none 0 0, .slice none 0 0, .int .i64 0, .int .i64 0, .bool false] 38)).heap.size = w.heap.size + 5 by simp] at h_HJ2
  have HB := Lib.hid hb0; have HX := Lib.hid h_HX; have HJ := Lib.hid h_HJ; have HC := Lib.hid h_HC; have HT := Lib.hid h_HT; have HR := Lib.hid h_HR; have HJ2 := Lib.hid h_HJ2
  clear hb0 h_HX h_HJ h_HC h_HT h_HR h_HJ2
  have HD := Lib.hid (hD.below HB.out)
  go_enter Try.func48, Try.ntmps48
  go_upto_region 1 with (fail)
  generalize hW0 : (((((w.alloc (.cells #[.slice sa d.S.length sc, .slice pa d.P.length pc, .int .i64 d.fuse, .int .i64 d.ops, .bool d.dead] 38)).alloc (.cells #[.int .i64 j.x.g, .int .i64 j.x.e, .int .i64 j.x.a, .int .i64 j.x.z, .int .i64 j.x.p, .int .i64 j.n, .int .i64 j.r] 57)).alloc (.cells #[.string (bs c.image), .int .i64 c.pos, .slice va c.recs.length vc] 74)).alloc (.cells #[.int .i64 k, .string (bs l), .int .i64 p] 67)).alloc (.cells #[.slice none 0 0, .slice none 0 0, .int .i64 0, .int .i64 0, .bool false] 38)).alloc (.cells #[.int .i64 0, .int .i64 0, .int .i64 0, .int .i64 0, .int .i64 0, .int .i64 0, .int .i64 0] 57) = v0 at HB HD HX HJ HC HT HR HJ2 ⊢
  clear hW0
  have x0 : v0.cell? ⟨w.heap.size, 0, none⟩ = some (.slice sa d.S.length sc) := HX.out.cell 0
  have x1 : v0.cell? ⟨w.heap.size, 1, none⟩ = some (.slice pa d.P.length pc) := HX.out.cell 1
  have x2 : v0.cell? ⟨w.heap.size, 2, none⟩ = some (.int .i64 d.fuse) := HX.out.cell 2
  have x3 : v0.cell? ⟨w.heap.size, 3, none⟩ = some (.int .i64 d.ops) := HX.out.cell 3
  have x4 : v0.cell? ⟨w.heap.size, 4, none⟩ = some (.bool d.dead) := HX.out.cell 4
  have y0 : v0.cell? ⟨(w.heap.size + 1), 0, none⟩ = some (.int .i64 j.x.g) := HJ.out.cell 0
  have y1 : v0.cell? ⟨(w.heap.size + 1), 1, none⟩ = some (.int .i64 j.x.e) := HJ.out.cell 1
  have y2 : v0.cell? ⟨(w.heap.size + 1), 2, none⟩ = some (.int .i64 j.x.a) := HJ.out.cell 2
  have y3 : v0.cell? ⟨(w.heap.size + 1), 3, none⟩ = some (.int .i64 j.x.z) := HJ.out.cell 3
  have y4 : v0.cell? ⟨(w.heap.size + 1), 4, none⟩ = some (.int .i64 j.x.p) := HJ.out.cell 4
  have y5 : v0.cell? ⟨(w.heap.size + 1), 5, none⟩ = some (.int .i64 j.n) := HJ.out.cell 5
  have y6 : v0.cell? ⟨(w.heap.size + 1), 6, none⟩ = some (.int .i64 j.r) := HJ.out.cell 6
  have t0 : v0.cell? ⟨(w.heap.size + 3), 0, none⟩ = some (.int .i64 k) := HT.out.cell 0
  have t1 : v0.cell? ⟨(w.heap.size + 3), 1, none⟩ = some (.string (bs l)) := HT.out.cell 1
  have t2 : v0.cell? ⟨(w.heap.size + 3), 2, none⟩ = some (.int .i64 p) := HT.out.cell 2
  go_wp2_with fail
  refine (resW_use _ _ _ _ d nd j nj l p e _ HD.out hl hp HQ.out).mono ?_
  simp only [jnV]
  rintro er w1 ⟨a1, c1, a2, c2, rfl, hL, hb1⟩
  clear x0 x1 x2 x3 x4
  clear y0 y1 y2 y3 y4 y5 y6
  clear t0 t1 t2
  have zw1 : w.heap.size + 5 < w1.heap.size := by have := (HJ2.out.call hb1).lt; omega
  have hal := ((Below.refl w1.heap.size w1).alloc (Nat.le_refl _) (.cells #[.slice a1 nd.S.length c1, .slice a2 nd.P.length c2, .int .i64 nd.fuse, .int .i64 nd.ops, .bool nd.dead] 38)).alloc (by simp) (.cells #[.int .i64 nj.x.g, .int .i64 nj.x.e, .int .i64 nj.x.a, .int .i64 nj.x.z, .int .i64 nj.x.p, .int .i64 nj.n, .int .i64 nj.r] 57)
  have HA := Lib.hid ((Bx.new w1 #[.slice a1 nd.S.length c1, .slice a2 nd.P.length c2, .int .i64 nd.fuse, .int .i64 nd.ops, .bool nd.dead] 38).alloc (.cells #[.int .i64 nj.x.g, .int .i64 nj.x.e, .int .i64 nj.x.a, .int .i64 nj.x.z, .int .i64 nj.x.p, .int .i64 nj.n, .int .i64 nj.r] 57)); have HJA := Lib.hid (Bx.new1 w1 (.cells #[.slice a1 nd.S.length c1, .slice a2 nd.P.length c2, .int .i64 nd.fuse, .int .i64 nd.ops, .bool nd.dead] 38) #[.int .i64 nj.x.g, .int .i64 nj.x.e, .int .i64 nj.x.a, .int .i64 nj.x.z, .int .i64 nj.x.p, .int .i64 nj.n, .int .i64 nj.r] 57); have HLA := Lib.hid (hL.below hal)
  have HX := Lib.hid ((HX.out.call hb1).call hal)
  have HJ := Lib.hid ((HJ.out.call hb1).call hal)
  have HC := Lib.hid ((HC.out.call hb1).call hal)
  have HT := Lib.hid ((HT.out.call hb1).call hal)
  have HR := Lib.hid ((HR.out.call hb1).call hal)
  have HJ2 := Lib.hid ((HJ2.out.call hb1).call hal)
  have zj0 := HJ2.out.lt
  have HB := Lib.hid (btrans (btrans HB.out HB.out.size hb1) (btrans HB.out HB.out.size hb1).size hal); clear hb1 hL hal
  go_upto_region 6 with (fail)
  generalize hW : (w1.alloc (.cells #[.slice a1 nd.S.length c1, .slice a2 nd.P.length c2, .int .i64 nd.fuse, .int .i64 nd.ops, .bool nd.dead] 38)).alloc (.cells #[.int .i64 nj.x.g, .int .i64 nj.x.e, .int .i64 nj.x.a, .int .i64 nj.x.z, .int .i64 nj.x.p, .int .i64 nj.n, .int .i64 nj.r] 57) = v1 at HX HJ HC HT HR HJ2 HB HA HJA HLA ⊢
  clear hW
  have n0 : v1.cell? ⟨w1.heap.size, 0, none⟩ = some (.slice a1 nd.S.length c1) := HA.out.cell 0
  have n1 : v1.cell? ⟨w1.heap.size, 1, none⟩ = some (.slice a2 nd.P.length c2) := HA.out.cell 1
  have n2 : v1.cell? ⟨w1.heap.size, 2, none⟩ = some (.int .i64 nd.fuse) := HA.out.cell 2
  have n3 : v1.cell? ⟨w1.heap.size, 3, none⟩ = some (.int .i64 nd.ops) := HA.out.cell 3
  have n4 : v1.cell? ⟨w1.heap.size, 4, none⟩ = some (.bool nd.dead) := HA.out.cell 4
  have m0 : v1.cell? ⟨(w1.heap.size + 1), 0, none⟩ = some (.int .i64 nj.x.g) := HJA.out.cell 0
  have m1 : v1.cell? ⟨(w1.heap.size + 1), 1, none⟩ = some (.int .i64 nj.x.e) := HJA.out.cell 1
  have m2 : v1.cell? ⟨(w1.heap.size + 1), 2, none⟩ = some (.int .i64 nj.x.a) := HJA.out.cell 2
  have m3 : v1.cell? ⟨(w1.heap.size + 1), 3, none⟩ = some (.int .i64 nj.x.z) := HJA.out.cell 3
  have m4 : v1.cell? ⟨(w1.heap.size + 1), 4, none⟩ = some (.int .i64 nj.x.p) := HJA.out.cell 4
  have m5 : v1.cell? ⟨(w1.heap.size + 1), 5, none⟩ = some (.int .i64 nj.n) := HJA.out.cell 5
  have m6 : v1.cell? ⟨(w1.heap.size + 1), 6, none⟩ = some (.int .i64 nj.r) := HJA.out.cell 6
  have hsL : v1.drew.cell? ⟨(w1.heap.size), 0, none⟩ = some (.slice a1 nd.S.length c1) ∧ v1.drew.cell? ⟨(w1.heap.size), 1, none⟩ = some (.slice a2 nd.P.length c2) ∧ v1.drew.cell? ⟨(w1.heap.size), 2, none⟩ = some (.int .i64 nd.fuse) ∧ v1.drew.cell? ⟨(w1.heap.size), 3, none⟩ = some (.int .i64 nd.ops) ∧ v1.drew.cell? ⟨(w1.heap.size), 4, none⟩ = some (.bool nd.dead) ∧ v1.drew.cell? ⟨(w1.heap.size + 1), 0, none⟩ = some (.int .i64 nj.x.g) ∧ v1.drew.cell? ⟨(w1.heap.size + 1), 1, none⟩ = some (.int .i64 nj.x.e) ∧ v1.drew.cell? ⟨(w1.heap.size + 1), 2, none⟩ = some (.int .i64 nj.x.a) ∧ v1.drew.cell? ⟨(w1.heap.size + 1), 3, none⟩ = some (.int .i64 nj.x.z) ∧ v1.drew.cell? ⟨(w1.heap.size + 1), 4, none⟩ = some (.int .i64 nj.x.p) ∧ v1.drew.cell? ⟨(w1.heap.size + 1), 5, none⟩ = some (.int .i64 nj.n) ∧ v1.drew.cell? ⟨(w1.heap.size + 1), 6, none⟩ = some (.int .i64 nj.r) := ⟨n0, n1, n2, n3, n4, m0, m1, m2, m3, m4, m5, m6⟩
  have HSL := Lib.hid hsL; clear hsL n0 n1 n2 n3 n4 m0 m1 m2 m3 m4 m5 m6
  go_wp2_with fail
  refine wp_region_held_drew (S := (fun w' => w'.cell? ⟨(w1.heap.size), 0, none⟩ = some (.slice a1 nd.S.length c1) ∧ w'.cell? ⟨(w1.heap.size), 1, none⟩ = some (.slice a2 nd.P.length c2) ∧ w'.cell? ⟨(w1.heap.size), 2, none⟩ = some (.int .i64 nd.fuse) ∧ w'.cell? ⟨(w1.heap.size), 3, none⟩ = some (.int .i64 nd.ops) ∧ w'.cell? ⟨(w1.heap.size), 4, none⟩ = some (.bool nd.dead) ∧ w'.cell? ⟨(w1.heap.size + 1), 0, none⟩ = some (.int .i64 nj.x.g) ∧ w'.cell? ⟨(w1.heap.size + 1), 1, none⟩ = some (.int .i64 nj.x.e) ∧ w'.cell? ⟨(w1.heap.size + 1), 2, none⟩ = some (.int .i64 nj.x.a) ∧ w'.cell? ⟨(w1.heap.size + 1), 3, none⟩ = some (.int .i64 nj.x.z) ∧ w'.cell? ⟨(w1.heap.size + 1), 4, none⟩ = some (.int .i64 nj.x.p) ∧ w'.cell? ⟨(w1.heap.size + 1), 5, none⟩ = some (.int .i64 nj.n) ∧ w'.cell? ⟨(w1.heap.size + 1), 6, none⟩ = some (.int .i64 nj.r))) (by kernel_rfl) ?_ (fun hHeld => ?_)
  · exact HSL.out
  refine takeH (i := 0) (v := ?vv6) 52 rfl rfl (by kernel_rfl) (by kernel_rfl) (by kernel_rfl) (fun _ _ _ h => h) (Or.inl ⟨by kernel_rfl, ?yy6⟩) (by assumption) ?_
  case yy6 => intro w hSw; (try dsimp only at hSw); go_simp; (try with_reducible rfl)
  simp only [List.setIfInBounds_toArray, List.set_cons_zero, List.set_cons_succ]
  refine takeH (i := 1) (v := ?vv7) 53 rfl rfl (by kernel_rfl) (by kernel_rfl) (by kernel_rfl) (fun _ _ _ h => h) (Or.inl ⟨by kernel_rfl, ?yy7⟩) (by assumption) ?_
  case yy7 => intro w hSw; (try dsimp only at hSw); go_simp; (try with_reducible rfl)
  simp only [List.setIfInBounds_toArray, List.set_cons_zero, List.set_cons_succ]
  refine takeH (i := 2) (v := ?vv8) 54 rfl rfl (by kernel_rfl) (by kernel_rfl) (by kernel_rfl) (fun _ _ _ h => h) (Or.inl ⟨by kernel_rfl, ?yy8⟩) (by assumption) ?_
  case yy8 => intro w hSw; (try dsimp only at hSw); go_simp; (try with_reducible rfl)
  simp only [List.setIfInBounds_toArray, List.set_cons_zero, List.set_cons_succ]
  refine wpAnyH_ready (rs := [3]) (by kernel_rfl) (by simp) ?_
  refine (AllReadyH.cons rfl (fun K hK => ?_) AllReadyH.nil)
  have r0 : v1.cell? ⟨(w.heap.size + 4), 0, none⟩ = some (.slice none 0 0) := HR.out.cell 0
  have r1 : v1.cell? ⟨(w.heap.size + 4), 1, none⟩ = some (.slice none 0 0) := HR.out.cell 1
  have r2 : v1.cell? ⟨(w.heap.size + 4), 2, none⟩ = some (.int .i64 0) := HR.out.cell 2
  have r3 : v1.cell? ⟨(w.heap.size + 4), 3, none⟩ = some (.int .i64 0) := HR.out.cell 3
  have r4 : v1.cell? ⟨(w.heap.size + 4), 4, none⟩ = some (.bool false) := HR.out.cell 4
  have f0 : v1.frozen? ⟨(w.heap.size + 4), 0, none⟩ = false := HR.out.free 0
  have f1 : v1.frozen? ⟨(w.heap.size + 4), 1, none⟩ = false := HR.out.free 1
  have f2 : v1.frozen? ⟨(w.heap.size + 4), 2, none⟩ = false := HR.out.free 2
  have f3 : v1.frozen? ⟨(w.heap.size + 4), 3, none⟩ = false := HR.out.free 3
  have f4 : v1.frozen? ⟨(w.heap.size + 4), 4, none⟩ = false := HR.out.free 4
  go_simp
  refine hK.out _ _ ?_ (fun hHeld => ?_)
  · exact wc_xxxxxyyyyyyy_5 (W := v1) (by assumption) (w.heap.size + 4) (by omega) (by omega) _ _ _ _ _
  clear hK K
  (try simp only [Act.put, List.setIfInBounds_toArray, List.set_cons_zero, List.set_cons_succ])
  clear r0 r1 r2 r3 r4
  clear f0 f1 f2 f3 f4
  have HRa := Lib.hid (HR.out.sets (.slice a1 nd.S.length c1) (.slice a2 nd.P.length c2) (.int .i64 nd.fuse) (.int .i64 nd.ops) (.bool nd.dead)); have HJa := Lib.hid (HJ2.out.sets_ne (c := w.heap.size + 4) (by omega) (.slice a1 nd.S.length c1) (.slice a2 nd.P.length c2) (.int .i64 nd.fuse) (.int .i64 nd.ops) (.bool nd.dead)); have HBa := Lib.hid (below_sets HB.out (w.heap.size + 4) (by omega) (.slice a1 nd.S.length c1) (.slice a2 nd.P.length c2) (.int .i64 nd.fuse) (.int .i64 nd.ops) (.bool nd.dead)); have HLa := Lib.hid (HLA.out.sets_box HR.out (.slice a1 nd.S.length c1) (.slice a2 nd.P.length c2) (.int .i64 nd.fuse) (.int .i64 nd.ops) (.bool nd.dead))
  generalize hWE : (((((v1.setCell ⟨(w.heap.size + 4), 0, none⟩ (.slice a1 nd.S.length c1)).setCell ⟨(w.heap.size + 4), 1, none⟩ (.slice a2 nd.P.length c2)).setCell ⟨(w.heap.size + 4), 2, none⟩ (.int .i64 nd.fuse)).setCell ⟨(w.heap.size + 4), 3, none⟩ (.int .i64 nd.ops)).setCell ⟨(w.heap.size + 4), 4, none⟩ (.bool nd.dead)) = WE at HRa HJa HBa HLa hHeld ⊢
  clear hWE
  refine wpAnyH_ready (rs := [4]) (by kernel_rfl) (by simp) ?_
  refine (AllReadyH.cons rfl (fun K hK => ?_) AllReadyH.nil)
  have q0 : WE.cell? ⟨(w.heap.size + 5), 0, none⟩ = some (.int .i64 0) := HJa.out.cell 0
  have q1 : WE.cell? ⟨(w.heap.size + 5), 1, none⟩ = some (.int .i64 0) := HJa.out.cell 1
  have q2 : WE.cell? ⟨(w.heap.size + 5), 2, none⟩ = some (.int .i64 0) := HJa.out.cell 2
  have q3 : WE.cell? ⟨(w.heap.size + 5), 3, none⟩ = some (.int .i64 0) := HJa.out.cell 3
  have q4 : WE.cell? ⟨(w.heap.size + 5), 4, none⟩ = some (.int .i64 0) := HJa.out.cell 4
  have q5 : WE.cell? ⟨(w.heap.size + 5), 5, none⟩ = some (.int .i64 0) := HJa.out.cell 5
  have q6 : WE.cell? ⟨(w.heap.size + 5), 6, none⟩ = some (.int .i64 0) := HJa.out.cell 6
  have p0 : WE.frozen? ⟨(w.heap.size + 5), 0, none⟩ = false := HJa.out.free 0
  have p1 : WE.frozen? ⟨(w.heap.size + 5), 1, none⟩ = false := HJa.out.free 1
  have p2 : WE.frozen? ⟨(w.heap.size + 5), 2, none⟩ = false := HJa.out.free 2
  have p3 : WE.frozen? ⟨(w.heap.size + 5), 3, none⟩ = false := HJa.out.free 3
  have p4 : WE.frozen? ⟨(w.heap.size + 5), 4, none⟩ = false := HJa.out.free 4
  have p5 : WE.frozen? ⟨(w.heap.size + 5), 5, none⟩ = false := HJa.out.free 5
  have p6 : WE.frozen? ⟨(w.heap.size + 5), 6, none⟩ = false := HJa.out.free 6
  go_simp
  refine hK.out _ _ ?_ (fun hHeld => ?_)
  · exact wc_xxxxxyyyyyyy_7 (W := WE) (by assumption) (w.heap.size + 5) (by omega) (by omega) _ _ _ _ _ _ _
  clear hK K
  (try simp only [Act.put, List.setIfInBounds_toArray, List.set_cons_zero, List.set_cons_succ])
  refine takeH (i := 5) (v := ?vv9) 10 rfl rfl (by kernel_rfl) (by kernel_rfl) (by kernel_rfl) (fun _ _ _ h => h) (Or.inl ⟨by kernel_rfl, ?yy9⟩) (by assumption) ?_
  case yy9 => intro w hSw; (try dsimp only at hSw); go_simp; (try with_reducible rfl)
  simp only [List.setIfInBounds_toArray, List.set_cons_zero, List.set_cons_succ]
  refine takeH (i := 6) (v := ?vv10) 11 rfl rfl (by kernel_rfl) (by kernel_rfl) (by kernel_rfl) (fun _ _ _ h => h) (Or.inl ⟨by kernel_rfl, ?yy10⟩) (by assumption) ?_
  case yy10 => intro w hSw; (try dsimp only at hSw); go_simp; (try with_reducible rfl)
  simp only [List.setIfInBounds_toArray, List.set_cons_zero, List.set_cons_succ]
  refine wpAnyH_done (by kernel_rfl) ?_ _
  have KR := Lib.hid (HRa.out.sets7_ne (c := w.heap.size + 5) (by omega) (.int .i64 nj.x.g) (.int .i64 nj.x.e) (.int .i64 nj.x.a) (.int .i64 nj.x.z) (.int .i64 nj.x.p) (.int .i64 nj.n) (.int .i64 nj.r)); have KJ := Lib.hid (HJa.out.sets7 (.int .i64 nj.x.g) (.int .i64 nj.x.e) (.int .i64 nj.x.a) (.int .i64 nj.x.z) (.int .i64 nj.x.p) (.int .i64 nj.n) (.int .i64 nj.r)); have KL := Lib.hid (HLa.out.sets7i HJa.out (.int .i64 nj.x.g) (.int .i64 nj.x.e) (.int .i64 nj.x.a) (.int .i64 nj.x.z) (.int .i64 nj.x.p) (.int .i64 nj.n) (.int .i64 nj.r)).drewD; have KB := Lib.hid (below_sets7 HBa.out (w.heap.size + 5) (by omega) (.int .i64 nj.x.g) (.int .i64 nj.x.e) (.int .i64 nj.x.a) (.int .i64 nj.x.z) (.int .i64 nj.x.p) (.int .i64 nj.n) (.int .i64 nj.r)).drew
  go_wp2
  have k0 := KR.out.cell 0
  have k1 := KR.out.cell 1
  have k2 := KR.out.cell 2
  have k3 := KR.out.cell 3
  have k4 := KR.out.cell 4
  have m0 := KJ.out.cell 0
  have m1 := KJ.out.cell 1
  have m2 := KJ.out.cell 2
  have m3 := KJ.out.cell 3
  have m4 := KJ.out.cell 4
  have m5 := KJ.out.cell 5
  have m6 := KJ.out.cell 6
  simp only [List.getElem?_toArray, List.getElem?_cons_zero, List.getElem?_cons_succ] at k0 k1 k2 k3 k4 m0 m1 m2 m3 m4 m5 m6
  refine bodyPost_ret (v := .tuple #[.agg #[.slice a1 nd.S.length c1, .slice a2 nd.P.length c2, .int .i64 nd.fuse, .int .i64 nd.ops, .bool nd.dead], .agg #[.int .i64 nj.x.g, .int .i64 nj.x.e, .int .i64 nj.x.a, .int .i64 nj.x.z, .int .i64 nj.x.p, .int .i64 nj.n, .int .i64 nj.r], .int .i64 e, .bool true]) (by simp [results, Try.results48, go_sem, k0, k1, k2, k3, k4, m0, m1, m2, m3, m4, m5, m6]) rfl ?_
  exact ⟨a1, c1, a2, c2, rfl, KL.out, KB.out⟩
set_option maxRecDepth 100000 in
set_option maxHeartbeats 64000000 in
theorem do_open_no (sa pa : Option Addr) (sc pc : Nat) (d : Dk) (j : Jn) (va : Option Addr) (vc : Nat) (c : Ct) (k : Int) (l : List UInt8) (p : Int) (nd : Dk) (nj : Jn) (e : Int) (w : World) (hD : Lists w sa sc pa pc d) (hc : StrS w (.slice va c.recs.length vc) c.recs) (im : List UInt8) (M : List (List UInt8)) (_hcl : c.recs.length ≤ 9000000000000) (_hml : M.length ≤ 9000000000000) (hp : d.P.length ≤ 8000000000000) (hp2 : nd.P.length ≤ 9000000000000) (hs2 : nd.S.length ≤ 9000000000000) (hk0 : k ≠ 0) (hk1 : k ≠ 1) (hq : openW d = ⟨nd, nj, im, M, e⟩) (he : e ≠ 0) :
    Calls Try.prog 48 #[.agg #[.slice sa d.S.length sc, .slice pa d.P.length pc, .int .i64 d.fuse, .int .i64 d.ops, .bool d.dead], .agg (jnV j), .agg #[.string (bs c.image), .int .i64 c.pos, .slice va c.recs.length vc], .agg #[.int .i64 k, .string (bs l), .int .i64 p]] w (DOPost nd nj e true w) := by
  have tk0 : (k == 0) = false := by rw [beq_eq_false_iff_ne]; exact hk0
  have tk : (k == 1) = false := by rw [beq_eq_false_iff_ne]; exact hk1
  have HQ := Lib.hid hq; have HCS := Lib.hid hc; clear hk0 hk1 hq hc
  have te : (e != 0) = true := by rw [bne_iff_ne]; exact he
  clear he
  unfold DOPost; simp only [jnV]
  have hb0 := (((((((Below.refl w.heap.size w).alloc (Nat.le_refl _) (.cells #[.slice sa d.S.length sc, .slice pa d.P.length pc, .int .i64 d.fuse, .int .i64 d.ops, .bool d.dead] 38)).alloc (by simp) (.cells #[.int .i64 j.x.g, .int .i64 j.x.e, .int .i64 j.x.a, .int .i64 j.x.z, .int .i64 j.x.p, .int .i64 j.n, .int .i64 j.r] 57)).alloc (by simp; try omega) (.cells #[.string (bs c.image), .int .i64 c.pos, .slice va c.recs.length vc] 74)).alloc (by simp; try omega) (.cells #[.int .i64 k, .string (bs l), .int .i64 p] 67)).alloc (by simp; try omega) (.cells #[.slice none 0 0, .slice none 0 0, .int .i64 0, .int .i64 0, .bool false] 38)).alloc (by simp; try omega) (.cells #[.int .i64 0, .int .i64 0, .int .i64 0, .int .i64 0, .int .i64 0, .int .i64 0, .int .i64 0] 57))
  have h_HX := ((((((Bx.new w #[.slice sa d.S.length sc, .slice pa d.P.length pc, .int .i64 d.fuse, .int .i64 d.ops, .bool d.dead] 38).alloc (.cells #[.int .i64 j.x.g, .int .i64 j.x.e, .int .i64 j.x.a, .int .i64 j.x.z, .int .i64 j.x.p, .int .i64 j.n, .int .i64 j.r] 57)).alloc (.cells #[.string (bs c.image), .int .i64 c.pos, .slice va c.recs.length vc] 74)).alloc (.cells #[.int .i64 k, .string (bs l), .int .i64 p] 67)).alloc (.cells #[.slice none 0 0, .slice none 0 0, .int .i64 0, .int .i64 0, .bool false] 38)).alloc (.cells #[.int .i64 0, .int .i64 0, .int .i64 0, .int .i64 0, .int .i64 0, .int .i64 0, .int .i64 0] 57))
  have h_HJ := (((((Bx.new (w.alloc (.cells #[.slice sa d.S.length sc, .slice pa d.P.length pc, .int .i64 d.fuse, .int .i64 d.ops, .bool d.dead] 38)) #[.int .i64 j.x.g, .int .i64 j.x.e, .int .i64 j.x.a, .int .i64 j.x.z, .int .i64 j.x.p, .int .i64 j.n, .int .i64 j.r] 57).alloc (.cells #[.string (bs c.image), .int .i64 c.pos, .slice va c.recs.length vc] 74)).alloc (.cells #[.int .i64 k, .string (bs l), .int .i64 p] 67)).alloc (.cells #[.slice none 0 0, .slice none 0 0, .int .i64 0, .int .i64 0, .bool false] 38)).alloc (.cells #[.int .i64 0, .int .i64 0, .int .i64 0, .int .i64 0, .int .i64 0, .int .i64 0, .int .i64 0] 57))
  rw [show (w.alloc (.cells #[.slice sa d.S.length sc, .slice pa d.P.length pc, .int .i64 d.fuse, .int .i64 d.ops, .bool d.dead] 38)).heap.size = w.heap.size + 1 by simp] at h_HJ
  have h_HC := ((((Bx.new ((w.alloc (.cells #[.slice sa d.S.length sc, .slice pa d.P.length pc, .int .i64 d.fuse, .int .i64 d.ops, .bool d.dead] 38)).alloc (.cells #[.int .i64 j.x.g, .int .i64 j.x.e, .int .i64 j.x.a, .int .i64 j.x.z, .int .i64 j.x.p, .int .i64 j.n, .int .i64 j.r] 57)) #[.string (bs c.image), .int .i64 c.pos, .slice va c.recs.length vc] 74).alloc (.cells #[.int .i64 k, .string (bs l), .int .i64 p] 67)).alloc (.cells #[.slice none 0 0, .slice none 0 0, .int .i64 0, .int .i64 0, .bool false] 38)).alloc (.cells #[.int .i64 0, .int .i64 0, .int .i64 0, .int .i64 0, .int .i64 0, .int .i64 0, .int .i64 0] 57))
  rw [show ((w.alloc (.cells #[.slice sa d.S.length sc, .slice pa d.P.length pc, .int .i64 d.fuse, .int .i64 d.ops, .bool d.dead] 38)).alloc (.cells #[.int .i64 j.x.g, .int .i64 j.x.e, .int .i64 j.x.a, .int .i64 j.x.z, .int .i64 j.x.p, .int .i64 j.n, .int .i64 j.r] 57)).heap.size = w.heap.size + 2 by simp] at h_HC
  have h_HT := (((Bx.new (((w.alloc (.cells #[.slice sa d.S.length sc, .slice pa d.P.length pc, .int .i64 d.fuse, .int .i64 d.ops, .bool d.dead] 38)).alloc (.cells #[.int .i64 j.x.g, .int .i64 j.x.e, .int .i64 j.x.a, .int .i64 j.x.z, .int .i64 j.x.p, .int .i64 j.n, .int .i64 j.r] 57)).alloc (.cells #[.string (bs c.image), .int .i64 c.pos, .slice va c.recs.length vc] 74)) #[.int .i64 k, .string (bs l), .int .i64 p] 67).alloc (.cells #[.slice none 0 0, .slice none 0 0, .int .i64 0, .int .i64 0, .bool false] 38)).alloc (.cells #[.int .i64 0, .int .i64 0, .int .i64 0, .int .i64 0, .int .i64 0, .int .i64 0, .int .i64 0] 57))
  rw [show (((w.alloc (.cells #[.slice sa d.S.length sc, .slice pa d.P.length pc, .int .i64 d.fuse, .int .i64 d.ops, .bool d.dead] 38)).alloc (.cells #[.int .i64 j.x.g, .int .i64 j.x.e, .int .i64 j.x.a, .int .i64 j.x.z, .int .i64 j.x.p, .int .i64 j.n, .int .i64 j.r] 57)).alloc (.cells #[.string (bs c.image), .int .i64 c.pos, .slice va c.recs.length vc] 74)).heap.size = w.heap.size + 3 by simp] at h_HT
  have h_HR := ((Bx.new ((((w.alloc (.cells #[.slice sa d.S.length sc, .slice pa d.P.length pc, .int .i64 d.fuse, .int .i64 d.ops, .bool d.dead] 38)).alloc (.cells #[.int .i64 j.x.g, .int .i64 j.x.e, .int .i64 j.x.a, .int .i64 j.x.z, .int .i64 j.x.p, .int .i64 j.n, .int .i64 j.r] 57)).alloc (.cells #[.string (bs c.image), .int .i64 c.pos, .slice va c.recs.length vc] 74)).alloc (.cells #[.int .i64 k, .string (bs l), .int .i64 p] 67)) #[.slice none 0 0, .slice none 0 0, .int .i64 0, .int .i64 0, .bool false] 38).alloc (.cells #[.int .i64 0, .int .i64 0, .int .i64 0, .int .i64 0, .int .i64 0, .int .i64 0, .int .i64 0] 57))
  rw [show ((((w.alloc (.cells #[.slice sa d.S.length sc, .slice pa d.P.length pc, .int .i64 d.fuse, .int .i64 d.ops, .bool d.dead] 38)).alloc (.cells #[.int .i64 j.x.g, .int .i64 j.x.e, .int .i64 j.x.a, .int .i64 j.x.z, .int .i64 j.x.p, .int .i64 j.n, .int .i64 j.r] 57)).alloc (.cells #[.string (bs c.image), .int .i64 c.pos, .slice va c.recs.length vc] 74)).alloc (.cells #[.int .i64 k, .string (bs l), .int .i64 p] 67)).heap.size = w.heap.size + 4 by simp] at h_HR
  have h_HJ2 := (Bx.new (((((w.alloc (.cells #[.slice sa d.S.length sc, .slice pa d.P.length pc, .int .i64 d.fuse, .int .i64 d.ops, .bool d.dead] 38)).alloc (.cells #[.int .i64 j.x.g, .int .i64 j.x.e, .int .i64 j.x.a, .int .i64 j.x.z, .int .i64 j.x.p, .int .i64 j.n, .int .i64 j.r] 57)).alloc (.cells #[.string (bs c.image), .int .i64 c.pos, .slice va c.recs.length vc] 74)).alloc (.cells #[.int .i64 k, .string (bs l), .int .i64 p] 67)).alloc (.cells #[.slice none 0 0, .slice none 0 0, .int .i64 0, .int .i64 0, .bool false] 38)) #[.int .i64 0, .int .i64 0, .int .i64 0, .int .i64 0, .int .i64 0, .int .i64 0, .int .i64 0] 57)
  rw [show (((((w.alloc (.cells #[.slice sa d.S.length sc, .slice pa d.P.length pc, .int .i64 d.fuse, .int .i64 d.ops, .bool d.dead] 38)).alloc (.cells #[.int .i64 j.x.g, .int .i64 j.x.e, .int .i64 j.x.a, .int .i64 j.x.z, .int .i64 j.x.p, .int .i64 j.n, .int .i64 j.r] 57)).alloc (.cells #[.string (bs c.image), .int .i64 c.pos, .slice va c.recs.length vc] 74)).alloc (.cells #[.int .i64 k, .string (bs l), .int .i64 p] 67)).alloc (.cells #[.slice none 0 0, .slice none 0 0, .int .i64 0, .int .i64 0, .bool false] 38)).heap.size = w.heap.size + 5 by simp] at h_HJ2
  have HB := Lib.hid hb0; have HX := Lib.hid h_HX; have HJ := Lib.hid h_HJ; have HC := Lib.hid h_HC; have HT := Lib.hid h_HT; have HR := Lib.hid h_HR; have HJ2 := Lib.hid h_HJ2
  clear hb0 h_HX h_HJ h_HC h_HT h_HR h_HJ2
  have HD := Lib.hid (hD.below HB.out)
  go_enter Try.func48, Try.ntmps48
  go_upto_region 1 with (fail)
  generalize hW0 : (((((w.alloc (.cells #[.slice sa d.S.length sc, .slice pa d.P.length pc, .int .i64 d.fuse, .int .i64 d.ops, .bool d.dead] 38)).alloc (.cells #[.int .i64 j.x.g, .int .i64 j.x.e, .int .i64 j.x.a, .int .i64 j.x.z, .int .i64 j.x.p, .int .i64 j.n, .int .i64 j.r] 57)).alloc (.cells #[.string (bs c.image), .int .i64 c.pos, .slice va c.recs.length vc] 74)).alloc (.cells #[.int .i64 k, .string (bs l), .int .i64 p] 67)).alloc (.cells #[.slice none 0 0, .slice none 0 0, .int .i64 0, .int .i64 0, .bool false] 38)).alloc (.cells #[.int .i64 0, .int .i64 0, .int .i64 0, .int .i64 0, .int .i64 0, .int .i64 0, .int .i64 0] 57) = v0 at HB HD HX HJ HC HT HR HJ2 ⊢
  clear hW0
  have HCS := Lib.hid (HCS.out.below HB.out)
  have x0 : v0.cell? ⟨w.heap.size, 0, none⟩ = some (.slice sa d.S.length sc) := HX.out.cell 0
  have x1 : v0.cell? ⟨w.heap.size, 1, none⟩ = some (.slice pa d.P.length pc) := HX.out.cell 1
  have x2 : v0.cell? ⟨w.heap.size, 2, none⟩ = some (.int .i64 d.fuse) := HX.out.cell 2
  have x3 : v0.cell? ⟨w.heap.size, 3, none⟩ = some (.int .i64 d.ops) := HX.out.cell 3
  have x4 : v0.cell? ⟨w.heap.size, 4, none⟩ = some (.bool d.dead) := HX.out.cell 4
  have y0 : v0.cell? ⟨(w.heap.size + 1), 0, none⟩ = some (.int .i64 j.x.g) := HJ.out.cell 0
  have y1 : v0.cell? ⟨(w.heap.size + 1), 1, none⟩ = some (.int .i64 j.x.e) := HJ.out.cell 1
  have y2 : v0.cell? ⟨(w.heap.size + 1), 2, none⟩ = some (.int .i64 j.x.a) := HJ.out.cell 2
  have y3 : v0.cell? ⟨(w.heap.size + 1), 3, none⟩ = some (.int .i64 j.x.z) := HJ.out.cell 3
  have y4 : v0.cell? ⟨(w.heap.size + 1), 4, none⟩ = some (.int .i64 j.x.p) := HJ.out.cell 4
  have y5 : v0.cell? ⟨(w.heap.size + 1), 5, none⟩ = some (.int .i64 j.n) := HJ.out.cell 5
  have y6 : v0.cell? ⟨(w.heap.size + 1), 6, none⟩ = some (.int .i64 j.r) := HJ.out.cell 6
  have t0 : v0.cell? ⟨(w.heap.size + 3), 0, none⟩ = some (.int .i64 k) := HT.out.cell 0
  have t1 : v0.cell? ⟨(w.heap.size + 3), 1, none⟩ = some (.string (bs l)) := HT.out.cell 1
  have t2 : v0.cell? ⟨(w.heap.size + 3), 2, none⟩ = some (.int .i64 p) := HT.out.cell 2
  go_wp2_with fail
  refine (openW_use _ _ _ _ d nd nj im M e _ HD.out (by omega) HQ.out hp2 hs2).mono ?_
  simp only [jnV]
  rintro er w1 ⟨a1, c1, a2, c2, a3, c3, rfl, hL, hM, hb1⟩
  clear x0 x1 x2 x3 x4
  clear y0 y1 y2 y3 y4 y5 y6
  clear t0 t1 t2
  have zw1 : w.heap.size + 5 < w1.heap.size := by have := (HJ2.out.call hb1).lt; omega
  have HMS := Lib.hid hM; have HCS := Lib.hid (HCS.out.below hb1); clear hM
  have hal := ((Below.refl w1.heap.size w1).alloc (Nat.le_refl _) (.cells #[.slice a1 nd.S.length c1, .slice a2 nd.P.length c2, .int .i64 nd.fuse, .int .i64 nd.ops, .bool nd.dead] 38)).alloc (by simp) (.cells #[.int .i64 nj.x.g, .int .i64 nj.x.e, .int .i64 nj.x.a, .int .i64 nj.x.z, .int .i64 nj.x.p, .int .i64 nj.n, .int .i64 nj.r] 57)
  have HA := Lib.hid ((Bx.new w1 #[.slice a1 nd.S.length c1, .slice a2 nd.P.length c2, .int .i64 nd.fuse, .int .i64 nd.ops, .bool nd.dead] 38).alloc (.cells #[.int .i64 nj.x.g, .int .i64 nj.x.e, .int .i64 nj.x.a, .int .i64 nj.x.z, .int .i64 nj.x.p, .int .i64 nj.n, .int .i64 nj.r] 57)); have HJA := Lib.hid (Bx.new1 w1 (.cells #[.slice a1 nd.S.length c1, .slice a2 nd.P.length c2, .int .i64 nd.fuse, .int .i64 nd.ops, .bool nd.dead] 38) #[.int .i64 nj.x.g, .int .i64 nj.x.e, .int .i64 nj.x.a, .int .i64 nj.x.z, .int .i64 nj.x.p, .int .i64 nj.n, .int .i64 nj.r] 57); have HLA := Lib.hid (hL.below hal)
  have HX := Lib.hid ((HX.out.call hb1).call hal)
  have HJ := Lib.hid ((HJ.out.call hb1).call hal)
  have HC := Lib.hid ((HC.out.call hb1).call hal)
  have HT := Lib.hid ((HT.out.call hb1).call hal)
  have HR := Lib.hid ((HR.out.call hb1).call hal)
  have HJ2 := Lib.hid ((HJ2.out.call hb1).call hal)
  have HMS := Lib.hid (HMS.out.below hal)
  have HCS := Lib.hid (HCS.out.below hal)
  have zj0 := HJ2.out.lt
  have HB := Lib.hid (btrans (btrans HB.out HB.out.size hb1) (btrans HB.out HB.out.size hb1).size hal); clear hb1 hL hal
  go_upto_region 8 with (fail)
  generalize hW : (w1.alloc (.cells #[.slice a1 nd.S.length c1, .slice a2 nd.P.length c2, .int .i64 nd.fuse, .int .i64 nd.ops, .bool nd.dead] 38)).alloc (.cells #[.int .i64 nj.x.g, .int .i64 nj.x.e, .int .i64 nj.x.a, .int .i64 nj.x.z, .int .i64 nj.x.p, .int .i64 nj.n, .int .i64 nj.r] 57) = v1 at HX HJ HC HT HR HJ2 HB HA HJA HLA HMS HCS ⊢
  clear hW
  have n0 : v1.cell? ⟨w1.heap.size, 0, none⟩ = some (.slice a1 nd.S.length c1) := HA.out.cell 0
  have n1 : v1.cell? ⟨w1.heap.size, 1, none⟩ = some (.slice a2 nd.P.length c2) := HA.out.cell 1
  have n2 : v1.cell? ⟨w1.heap.size, 2, none⟩ = some (.int .i64 nd.fuse) := HA.out.cell 2
  have n3 : v1.cell? ⟨w1.heap.size, 3, none⟩ = some (.int .i64 nd.ops) := HA.out.cell 3
  have n4 : v1.cell? ⟨w1.heap.size, 4, none⟩ = some (.bool nd.dead) := HA.out.cell 4
  have m0 : v1.cell? ⟨(w1.heap.size + 1), 0, none⟩ = some (.int .i64 nj.x.g) := HJA.out.cell 0
  have m1 : v1.cell? ⟨(w1.heap.size + 1), 1, none⟩ = some (.int .i64 nj.x.e) := HJA.out.cell 1
  have m2 : v1.cell? ⟨(w1.heap.size + 1), 2, none⟩ = some (.int .i64 nj.x.a) := HJA.out.cell 2
  have m3 : v1.cell? ⟨(w1.heap.size + 1), 3, none⟩ = some (.int .i64 nj.x.z) := HJA.out.cell 3
  have m4 : v1.cell? ⟨(w1.heap.size + 1), 4, none⟩ = some (.int .i64 nj.x.p) := HJA.out.cell 4
  have m5 : v1.cell? ⟨(w1.heap.size + 1), 5, none⟩ = some (.int .i64 nj.n) := HJA.out.cell 5
  have m6 : v1.cell? ⟨(w1.heap.size + 1), 6, none⟩ = some (.int .i64 nj.r) := HJA.out.cell 6
  have hsL : v1.drew.cell? ⟨(w1.heap.size), 0, none⟩ = some (.slice a1 nd.S.length c1) ∧ v1.drew.cell? ⟨(w1.heap.size), 1, none⟩ = some (.slice a2 nd.P.length c2) ∧ v1.drew.cell? ⟨(w1.heap.size), 2, none⟩ = some (.int .i64 nd.fuse) ∧ v1.drew.cell? ⟨(w1.heap.size), 3, none⟩ = some (.int .i64 nd.ops) ∧ v1.drew.cell? ⟨(w1.heap.size), 4, none⟩ = some (.bool nd.dead) ∧ v1.drew.cell? ⟨(w1.heap.size + 1), 0, none⟩ = some (.int .i64 nj.x.g) ∧ v1.drew.cell? ⟨(w1.heap.size + 1), 1, none⟩ = some (.int .i64 nj.x.e) ∧ v1.drew.cell? ⟨(w1.heap.size + 1), 2, none⟩ = some (.int .i64 nj.x.a) ∧ v1.drew.cell? ⟨(w1.heap.size + 1), 3, none⟩ = some (.int .i64 nj.x.z) ∧ v1.drew.cell? ⟨(w1.heap.size + 1), 4, none⟩ = some (.int .i64 nj.x.p) ∧ v1.drew.cell? ⟨(w1.heap.size + 1), 5, none⟩ = some (.int .i64 nj.n) ∧ v1.drew.cell? ⟨(w1.heap.size + 1), 6, none⟩ = some (.int .i64 nj.r) := ⟨n0, n1, n2, n3, n4, m0, m1, m2, m3, m4, m5, m6⟩
  have HSL := Lib.hid hsL; clear hsL n0 n1 n2 n3 n4 m0 m1 m2 m3 m4 m5 m6
  go_wp2_with fail
  refine wp_region_held_drew (S := (fun w' => w'.cell? ⟨(w1.heap.size), 0, none⟩ = some (.slice a1 nd.S.length c1) ∧ w'.cell? ⟨(w1.heap.size), 1, none⟩ = some (.slice a2 nd.P.length c2) ∧ w'.cell? ⟨(w1.heap.size), 2, none⟩ = some (.int .i64 nd.fuse) ∧ w'.cell? ⟨(w1.heap.size), 3, none⟩ = some (.int .i64 nd.ops) ∧ w'.cell? ⟨(w1.heap.size), 4, none⟩ = some (.bool nd.dead) ∧ w'.cell? ⟨(w1.heap.size + 1), 0, none⟩ = some (.int .i64 nj.x.g) ∧ w'.cell? ⟨(w1.heap.size + 1), 1, none⟩ = some (.int .i64 nj.x.e) ∧ w'.cell? ⟨(w1.heap.size + 1), 2, none⟩ = some (.int .i64 nj.x.a) ∧ w'.cell? ⟨(w1.heap.size + 1), 3, none⟩ = some (.int .i64 nj.x.z) ∧ w'.cell? ⟨(w1.heap.size + 1), 4, none⟩ = some (.int .i64 nj.x.p) ∧ w'.cell? ⟨(w1.heap.size + 1), 5, none⟩ = some (.int .i64 nj.n) ∧ w'.cell? ⟨(w1.heap.size + 1), 6, none⟩ = some (.int .i64 nj.r))) (by kernel_rfl) ?_ (fun hHeld => ?_)
  · exact HSL.out
  refine takeH (i := 0) (v := ?vv11) 63 rfl rfl (by kernel_rfl) (by kernel_rfl) (by kernel_rfl) (fun _ _ _ h => h) (Or.inl ⟨by kernel_rfl, ?yy11⟩) (by assumption) ?_
  case yy11 => intro w hSw; (try dsimp only at hSw); go_simp; (try with_reducible rfl)
  simp only [List.setIfInBounds_toArray, List.set_cons_zero, List.set_cons_succ]
  refine takeH (i := 1) (v := ?vv12) 64 rfl rfl (by kernel_rfl) (by kernel_rfl) (by kernel_rfl) (fun _ _ _ h => h) (Or.inl ⟨by kernel_rfl, ?yy12⟩) (by assumption) ?_
  case yy12 => intro w hSw; (try dsimp only at hSw); go_simp; (try with_reducible rfl)
  simp only [List.setIfInBounds_toArray, List.set_cons_zero, List.set_cons_succ]
  refine takeH (i := 2) (v := ?vv13) 65 rfl rfl (by kernel_rfl) (by kernel_rfl) (by kernel_rfl) (fun _ _ _ h => h) (Or.inl ⟨by kernel_rfl, ?yy13⟩) (by assumption) ?_
  case yy13 => intro w hSw; (try dsimp only at hSw); go_simp; (try with_reducible rfl)
  simp only [List.setIfInBounds_toArray, List.set_cons_zero, List.set_cons_succ]
  refine takeH (i := 3) (v := ?vv14) 66 rfl rfl (by kernel_rfl) (by kernel_rfl) (by kernel_rfl) (fun _ _ _ h => h) (Or.inl ⟨by kernel_rfl, ?yy14⟩) (by assumption) ?_
  case yy14 => intro w hSw; (try dsimp only at hSw); go_simp; (try with_reducible rfl)
  simp only [List.setIfInBounds_toArray, List.set_cons_zero, List.set_cons_succ]
  refine takeH (i := 4) (v := ?vv15) 67 rfl rfl (by kernel_rfl) (by kernel_rfl) (by kernel_rfl) (fun _ _ _ h => h) (Or.inl ⟨by kernel_rfl, ?yy15⟩) (by assumption) ?_
  case yy15 => intro w hSw; (try dsimp only at hSw); go_simp; (try with_reducible rfl)
  simp only [List.setIfInBounds_toArray, List.set_cons_zero, List.set_cons_succ]
  refine takeH (i := 5) (v := ?vv16) 68 rfl rfl (by kernel_rfl) (by kernel_rfl) (by kernel_rfl) (fun _ _ _ h => h) (Or.inl ⟨by kernel_rfl, ?yy16⟩) (by assumption) ?_
  case yy16 => intro w hSw; (try dsimp only at hSw); go_simp; (try with_reducible rfl)
  simp only [List.setIfInBounds_toArray, List.set_cons_zero, List.set_cons_succ]
  refine takeH (i := 6) (v := undef) 69 rfl rfl (by kernel_rfl) (by kernel_rfl) (by kernel_rfl) (fun _ _ _ h => h) (Or.inr ⟨by kernel_rfl, rfl⟩) (by assumption) ?_
  simp only [List.setIfInBounds_toArray, List.set_cons_zero, List.set_cons_succ]
  refine takeH (i := 7) (v := undef) 70 rfl rfl (by kernel_rfl) (by kernel_rfl) (by kernel_rfl) (fun _ _ _ h => h) (Or.inr ⟨by kernel_rfl, rfl⟩) (by assumption) ?_
  simp only [List.setIfInBounds_toArray, List.set_cons_zero, List.set_cons_succ]
  refine takeH (i := 8) (v := undef) 71 rfl rfl (by kernel_rfl) (by kernel_rfl) (by kernel_rfl) (fun _ _ _ h => h) (Or.inr ⟨by kernel_rfl, rfl⟩) (by assumption) ?_
  simp only [List.setIfInBounds_toArray, List.set_cons_zero, List.set_cons_succ]
  refine takeH (i := 9) (v := undef) 72 rfl rfl (by kernel_rfl) (by kernel_rfl) (by kernel_rfl) (fun _ _ _ h => h) (Or.inr ⟨by kernel_rfl, rfl⟩) (by assumption) ?_
  simp only [List.setIfInBounds_toArray, List.set_cons_zero, List.set_cons_succ]
  refine takeH (i := 10) (v := undef) 73 rfl rfl (by kernel_rfl) (by kernel_rfl) (by kernel_rfl) (fun _ _ _ h => h) (Or.inr ⟨by kernel_rfl, rfl⟩) (by assumption) ?_
  simp only [List.setIfInBounds_toArray, List.set_cons_zero, List.set_cons_succ]
  refine takeH (i := 11) (v := ?vv17) 74 rfl rfl (by kernel_rfl) (by kernel_rfl) (by kernel_rfl) (fun _ _ _ h => h) (Or.inl ⟨by kernel_rfl, ?yy17⟩) (by assumption) ?_
  case yy17 => intro w hSw; (try dsimp only at hSw); go_simp; (try with_reducible rfl)
  simp only [List.setIfInBounds_toArray, List.set_cons_zero, List.set_cons_succ]
  refine wpAnyH_ready (rs := [12]) (by kernel_rfl) (by simp) ?_
  refine (AllReadyH.cons rfl (fun K hK => ?_) AllReadyH.nil)
  have r0 : v1.cell? ⟨(w.heap.size + 4), 0, none⟩ = some (.slice none 0 0) := HR.out.cell 0
  have r1 : v1.cell? ⟨(w.heap.size + 4), 1, none⟩ = some (.slice none 0 0) := HR.out.cell 1
  have r2 : v1.cell? ⟨(w.heap.size + 4), 2, none⟩ = some (.int .i64 0) := HR.out.cell 2
  have r3 : v1.cell? ⟨(w.heap.size + 4), 3, none⟩ = some (.int .i64 0) := HR.out.cell 3
  have r4 : v1.cell? ⟨(w.heap.size + 4), 4, none⟩ = some (.bool false) := HR.out.cell 4
  have f0 : v1.frozen? ⟨(w.heap.size + 4), 0, none⟩ = false := HR.out.free 0
  have f1 : v1.frozen? ⟨(w.heap.size + 4), 1, none⟩ = false := HR.out.free 1
  have f2 : v1.frozen? ⟨(w.heap.size + 4), 2, none⟩ = false := HR.out.free 2
  have f3 : v1.frozen? ⟨(w.heap.size + 4), 3, none⟩ = false := HR.out.free 3
  have f4 : v1.frozen? ⟨(w.heap.size + 4), 4, none⟩ = false := HR.out.free 4
  go_simp
  refine hK.out _ _ ?_ (fun hHeld => ?_)
  · exact wc_xxxxxyyyyyyy_5 (W := v1) (by assumption) (w.heap.size + 4) (by omega) (by omega) _ _ _ _ _
  clear hK K
  (try simp only [Act.put, List.setIfInBounds_toArray, List.set_cons_zero, List.set_cons_succ])
  clear r0 r1 r2 r3 r4
  clear f0 f1 f2 f3 f4
  have HRa := Lib.hid (HR.out.sets (.slice a1 nd.S.length c1) (.slice a2 nd.P.length c2) (.int .i64 nd.fuse) (.int .i64 nd.ops) (.bool nd.dead)); have HJa := Lib.hid (HJ2.out.sets_ne (c := w.heap.size + 4) (by omega) (.slice a1 nd.S.length c1) (.slice a2 nd.P.length c2) (.int .i64 nd.fuse) (.int .i64 nd.ops) (.bool nd.dead)); have HBa := Lib.hid (below_sets HB.out (w.heap.size + 4) (by omega) (.slice a1 nd.S.length c1) (.slice a2 nd.P.length c2) (.int .i64 nd.fuse) (.int .i64 nd.ops) (.bool nd.dead)); have HLa := Lib.hid (HLA.out.sets_box HR.out (.slice a1 nd.S.length c1) (.slice a2 nd.P.length c2) (.int .i64 nd.fuse) (.int .i64 nd.ops) (.bool nd.dead))
  generalize hWE : (((((v1.setCell ⟨(w.heap.size + 4), 0, none⟩ (.slice a1 nd.S.length c1)).setCell ⟨(w.heap.size + 4), 1, none⟩ (.slice a2 nd.P.length c2)).setCell ⟨(w.heap.size + 4), 2, none⟩ (.int .i64 nd.fuse)).setCell ⟨(w.heap.size + 4), 3, none⟩ (.int .i64 nd.ops)).setCell ⟨(w.heap.size + 4), 4, none⟩ (.bool nd.dead)) = WE at HRa HJa HBa HLa hHeld ⊢
  clear hWE
  refine wpAnyH_ready (rs := [13]) (by kernel_rfl) (by simp) ?_
  refine (AllReadyH.cons rfl (fun K hK => ?_) AllReadyH.nil)
  have q0 : WE.cell? ⟨(w.heap.size + 5), 0, none⟩ = some (.int .i64 0) := HJa.out.cell 0
  have q1 : WE.cell? ⟨(w.heap.size + 5), 1, none⟩ = some (.int .i64 0) := HJa.out.cell 1
  have q2 : WE.cell? ⟨(w.heap.size + 5), 2, none⟩ = some (.int .i64 0) := HJa.out.cell 2
  have q3 : WE.cell? ⟨(w.heap.size + 5), 3, none⟩ = some (.int .i64 0) := HJa.out.cell 3
  have q4 : WE.cell? ⟨(w.heap.size + 5), 4, none⟩ = some (.int .i64 0) := HJa.out.cell 4
  have q5 : WE.cell? ⟨(w.heap.size + 5), 5, none⟩ = some (.int .i64 0) := HJa.out.cell 5
  have q6 : WE.cell? ⟨(w.heap.size + 5), 6, none⟩ = some (.int .i64 0) := HJa.out.cell 6
  have p0 : WE.frozen? ⟨(w.heap.size + 5), 0, none⟩ = false := HJa.out.free 0
  have p1 : WE.frozen? ⟨(w.heap.size + 5), 1, none⟩ = false := HJa.out.free 1
  have p2 : WE.frozen? ⟨(w.heap.size + 5), 2, none⟩ = false := HJa.out.free 2
  have p3 : WE.frozen? ⟨(w.heap.size + 5), 3, none⟩ = false := HJa.out.free 3
  have p4 : WE.frozen? ⟨(w.heap.size + 5), 4, none⟩ = false := HJa.out.free 4
  have p5 : WE.frozen? ⟨(w.heap.size + 5), 5, none⟩ = false := HJa.out.free 5
  have p6 : WE.frozen? ⟨(w.heap.size + 5), 6, none⟩ = false := HJa.out.free 6
  go_simp
  refine hK.out _ _ ?_ (fun hHeld => ?_)
  · exact wc_xxxxxyyyyyyy_7 (W := WE) (by assumption) (w.heap.size + 5) (by omega) (by omega) _ _ _ _ _ _ _
  clear hK K
  (try simp only [Act.put, List.setIfInBounds_toArray, List.set_cons_zero, List.set_cons_succ])
  refine takeH (i := 14) (v := ?vv18) 10 rfl rfl (by kernel_rfl) (by kernel_rfl) (by kernel_rfl) (fun _ _ _ h => h) (Or.inl ⟨by kernel_rfl, ?yy18⟩) (by assumption) ?_
  case yy18 => intro w hSw; (try dsimp only at hSw); go_simp; (try with_reducible rfl)
  simp only [List.setIfInBounds_toArray, List.set_cons_zero, List.set_cons_succ]
  refine takeH (i := 15) (v := ?vv19) 11 rfl rfl (by kernel_rfl) (by kernel_rfl) (by kernel_rfl) (fun _ _ _ h => h) (Or.inl ⟨by kernel_rfl, ?yy19⟩) (by assumption) ?_
  case yy19 => intro w hSw; (try dsimp only at hSw); go_simp; (try with_reducible rfl)
  simp only [List.setIfInBounds_toArray, List.set_cons_zero, List.set_cons_succ]
  refine wpAnyH_done (by kernel_rfl) ?_ _
  have KR := Lib.hid (HRa.out.sets7_ne (c := w.heap.size + 5) (by omega) (.int .i64 nj.x.g) (.int .i64 nj.x.e) (.int .i64 nj.x.a) (.int .i64 nj.x.z) (.int .i64 nj.x.p) (.int .i64 nj.n) (.int .i64 nj.r)); have KJ := Lib.hid (HJa.out.sets7 (.int .i64 nj.x.g) (.int .i64 nj.x.e) (.int .i64 nj.x.a) (.int .i64 nj.x.z) (.int .i64 nj.x.p) (.int .i64 nj.n) (.int .i64 nj.r)); have KL := Lib.hid (HLa.out.sets7i HJa.out (.int .i64 nj.x.g) (.int .i64 nj.x.e) (.int .i64 nj.x.a) (.int .i64 nj.x.z) (.int .i64 nj.x.p) (.int .i64 nj.n) (.int .i64 nj.r)).drewD; have KB := Lib.hid (below_sets7 HBa.out (w.heap.size + 5) (by omega) (.int .i64 nj.x.g) (.int .i64 nj.x.e) (.int .i64 nj.x.a) (.int .i64 nj.x.z) (.int .i64 nj.x.p) (.int .i64 nj.n) (.int .i64 nj.r)).drew
  go_wp2
  have k0 := KR.out.cell 0
  have k1 := KR.out.cell 1
  have k2 := KR.out.cell 2
  have k3 := KR.out.cell 3
  have k4 := KR.out.cell 4
  have m0 := KJ.out.cell 0
  have m1 := KJ.out.cell 1
  have m2 := KJ.out.cell 2
  have m3 := KJ.out.cell 3
  have m4 := KJ.out.cell 4
  have m5 := KJ.out.cell 5
  have m6 := KJ.out.cell 6
  simp only [List.getElem?_toArray, List.getElem?_cons_zero, List.getElem?_cons_succ] at k0 k1 k2 k3 k4 m0 m1 m2 m3 m4 m5 m6
  refine bodyPost_ret (v := .tuple #[.agg #[.slice a1 nd.S.length c1, .slice a2 nd.P.length c2, .int .i64 nd.fuse, .int .i64 nd.ops, .bool nd.dead], .agg #[.int .i64 nj.x.g, .int .i64 nj.x.e, .int .i64 nj.x.a, .int .i64 nj.x.z, .int .i64 nj.x.p, .int .i64 nj.n, .int .i64 nj.r], .int .i64 e, .bool true]) (by simp [results, Try.results48, go_sem, k0, k1, k2, k3, k4, m0, m1, m2, m3, m4, m5, m6]) rfl ?_
  exact ⟨a1, c1, a2, c2, rfl, KL.out, KB.out⟩
set_option maxRecDepth 100000 in
set_option maxHeartbeats 64000000 in
theorem do_open_ok (sa pa : Option Addr) (sc pc : Nat) (d : Dk) (j : Jn) (va : Option Addr) (vc : Nat) (c : Ct) (k : Int) (l : List UInt8) (p : Int) (nd : Dk) (nj : Jn) (e : Int) (w : World) (hD : Lists w sa sc pa pc d) (hc : StrS w (.slice va c.recs.length vc) c.recs) (im : List UInt8) (M : List (List UInt8)) (hcl : c.recs.length ≤ 9000000000000) (hml : M.length ≤ 9000000000000) (hp : d.P.length ≤ 8000000000000) (hp2 : nd.P.length ≤ 9000000000000) (hs2 : nd.S.length ≤ 9000000000000) (hk0 : k ≠ 0) (hk1 : k ≠ 1) (hq : openW d = ⟨nd, nj, im, M, e⟩) (he : e = 0) (th : Bool) (hh : hasC c im nj M = th) :
    Calls Try.prog 48 #[.agg #[.slice sa d.S.length sc, .slice pa d.P.length pc, .int .i64 d.fuse, .int .i64 d.ops, .bool d.dead], .agg (jnV j), .agg #[.string (bs c.image), .int .i64 c.pos, .slice va c.recs.length vc], .agg #[.int .i64 k, .string (bs l), .int .i64 p]] w (DOPost nd nj e th w) := by
  have tk0 : (k == 0) = false := by rw [beq_eq_false_iff_ne]; exact hk0
  have tk : (k == 1) = false := by rw [beq_eq_false_iff_ne]; exact hk1
  have HQ := Lib.hid hq; have HCS := Lib.hid hc; clear hk0 hk1 hq hc
  have te : (e != 0) = false := by rw [he]; rfl
  have HH := Lib.hid hh; clear hh he
  unfold DOPost; simp only [jnV]
  have hb0 := (((((((Below.refl w.heap.size w).alloc (Nat.le_refl _) (.cells #[.slice sa d.S.length sc, .slice pa d.P.length pc, .int .i64 d.fuse, .int .i64 d.ops, .bool d.dead] 38)).alloc (by simp) (.cells #[.int .i64 j.x.g, .int .i64 j.x.e, .int .i64 j.x.a, .int .i64 j.x.z, .int .i64 j.x.p, .int .i64 j.n, .int .i64 j.r] 57)).alloc (by simp; try omega) (.cells #[.string (bs c.image), .int .i64 c.pos, .slice va c.recs.length vc] 74)).alloc (by simp; try omega) (.cells #[.int .i64 k, .string (bs l), .int .i64 p] 67)).alloc (by simp; try omega) (.cells #[.slice none 0 0, .slice none 0 0, .int .i64 0, .int .i64 0, .bool false] 38)).alloc (by simp; try omega) (.cells #[.int .i64 0, .int .i64 0, .int .i64 0, .int .i64 0, .int .i64 0, .int .i64 0, .int .i64 0] 57))
  have h_HX := ((((((Bx.new w #[.slice sa d.S.length sc, .slice pa d.P.length pc, .int .i64 d.fuse, .int .i64 d.ops, .bool d.dead] 38).alloc (.cells #[.int .i64 j.x.g, .int .i64 j.x.e, .int .i64 j.x.a, .int .i64 j.x.z, .int .i64 j.x.p, .int .i64 j.n, .int .i64 j.r] 57)).alloc (.cells #[.string (bs c.image), .int .i64 c.pos, .slice va c.recs.length vc] 74)).alloc (.cells #[.int .i64 k, .string (bs l), .int .i64 p] 67)).alloc (.cells #[.slice none 0 0, .slice none 0 0, .int .i64 0, .int .i64 0, .bool false] 38)).alloc (.cells #[.int .i64 0, .int .i64 0, .int .i64 0, .int .i64 0, .int .i64 0, .int .i64 0, .int .i64 0] 57))
  have h_HJ := (((((Bx.new (w.alloc (.cells #[.slice sa d.S.length sc, .slice pa d.P.length pc, .int .i64 d.fuse, .int .i64 d.ops, .bool d.dead] 38)) #[.int .i64 j.x.g, .int .i64 j.x.e, .int .i64 j.x.a, .int .i64 j.x.z, .int .i64 j.x.p, .int .i64 j.n, .int .i64 j.r] 57).alloc (.cells #[.string (bs c.image), .int .i64 c.pos, .slice va c.recs.length vc] 74)).alloc (.cells #[.int .i64 k, .string (bs l), .int .i64 p] 67)).alloc (.cells #[.slice none 0 0, .slice none 0 0, .int .i64 0, .int .i64 0, .bool false] 38)).alloc (.cells #[.int .i64 0, .int .i64 0, .int .i64 0, .int .i64 0, .int .i64 0, .int .i64 0, .int .i64 0] 57))
  rw [show (w.alloc (.cells #[.slice sa d.S.length sc, .slice pa d.P.length pc, .int .i64 d.fuse, .int .i64 d.ops, .bool d.dead] 38)).heap.size = w.heap.size + 1 by simp] at h_HJ
  have h_HC := ((((Bx.new ((w.alloc (.cells #[.slice sa d.S.length sc, .slice pa d.P.length pc, .int .i64 d.fuse, .int .i64 d.ops, .bool d.dead] 38)).alloc (.cells #[.int .i64 j.x.g, .int .i64 j.x.e, .int .i64 j.x.a, .int .i64 j.x.z, .int .i64 j.x.p, .int .i64 j.n, .int .i64 j.r] 57)) #[.string (bs c.image), .int .i64 c.pos, .slice va c.recs.length vc] 74).alloc (.cells #[.int .i64 k, .string (bs l), .int .i64 p] 67)).alloc (.cells #[.slice none 0 0, .slice none 0 0, .int .i64 0, .int .i64 0, .bool false] 38)).alloc (.cells #[.int .i64 0, .int .i64 0, .int .i64 0, .int .i64 0, .int .i64 0, .int .i64 0, .int .i64 0] 57))
  rw [show ((w.alloc (.cells #[.slice sa d.S.length sc, .slice pa d.P.length pc, .int .i64 d.fuse, .int .i64 d.ops, .bool d.dead] 38)).alloc (.cells #[.int .i64 j.x.g, .int .i64 j.x.e, .int .i64 j.x.a, .int .i64 j.x.z, .int .i64 j.x.p, .int .i64 j.n, .int .i64 j.r] 57)).heap.size = w.heap.size + 2 by simp] at h_HC
  have h_HT := (((Bx.new (((w.alloc (.cells #[.slice sa d.S.length sc, .slice pa d.P.length pc, .int .i64 d.fuse, .int .i64 d.ops, .bool d.dead] 38)).alloc (.cells #[.int .i64 j.x.g, .int .i64 j.x.e, .int .i64 j.x.a, .int .i64 j.x.z, .int .i64 j.x.p, .int .i64 j.n, .int .i64 j.r] 57)).alloc (.cells #[.string (bs c.image), .int .i64 c.pos, .slice va c.recs.length vc] 74)) #[.int .i64 k, .string (bs l), .int .i64 p] 67).alloc (.cells #[.slice none 0 0, .slice none 0 0, .int .i64 0, .int .i64 0, .bool false] 38)).alloc (.cells #[.int .i64 0, .int .i64 0, .int .i64 0, .int .i64 0, .int .i64 0, .int .i64 0, .int .i64 0] 57))
  rw [show (((w.alloc (.cells #[.slice sa d.S.length sc, .slice pa d.P.length pc, .int .i64 d.fuse, .int .i64 d.ops, .bool d.dead] 38)).alloc (.cells #[.int .i64 j.x.g, .int .i64 j.x.e, .int .i64 j.x.a, .int .i64 j.x.z, .int .i64 j.x.p, .int .i64 j.n, .int .i64 j.r] 57)).alloc (.cells #[.string (bs c.image), .int .i64 c.pos, .slice va c.recs.length vc] 74)).heap.size = w.heap.size + 3 by simp] at h_HT
  have h_HR := ((Bx.new ((((w.alloc (.cells #[.slice sa d.S.length sc, .slice pa d.P.length pc, .int .i64 d.fuse, .int .i64 d.ops, .bool d.dead] 38)).alloc (.cells #[.int .i64 j.x.g, .int .i64 j.x.e, .int .i64 j.x.a, .int .i64 j.x.z, .int .i64 j.x.p, .int .i64 j.n, .int .i64 j.r] 57)).alloc (.cells #[.string (bs c.image), .int .i64 c.pos, .slice va c.recs.length vc] 74)).alloc (.cells #[.int .i64 k, .string (bs l), .int .i64 p] 67)) #[.slice none 0 0, .slice none 0 0, .int .i64 0, .int .i64 0, .bool false] 38).alloc (.cells #[.int .i64 0, .int .i64 0, .int .i64 0, .int .i64 0, .int .i64 0, .int .i64 0, .int .i64 0] 57))
  rw [show ((((w.alloc (.cells #[.slice sa d.S.length sc, .slice pa d.P.length pc, .int .i64 d.fuse, .int .i64 d.ops, .bool d.dead] 38)).alloc (.cells #[.int .i64 j.x.g, .int .i64 j.x.e, .int .i64 j.x.a, .int .i64 j.x.z, .int .i64 j.x.p, .int .i64 j.n, .int .i64 j.r] 57)).alloc (.cells #[.string (bs c.image), .int .i64 c.pos, .slice va c.recs.length vc] 74)).alloc (.cells #[.int .i64 k, .string (bs l), .int .i64 p] 67)).heap.size = w.heap.size + 4 by simp] at h_HR
  have h_HJ2 := (Bx.new (((((w.alloc (.cells #[.slice sa d.S.length sc, .slice pa d.P.length pc, .int .i64 d.fuse, .int .i64 d.ops, .bool d.dead] 38)).alloc (.cells #[.int .i64 j.x.g, .int .i64 j.x.e, .int .i64 j.x.a, .int .i64 j.x.z, .int .i64 j.x.p, .int .i64 j.n, .int .i64 j.r] 57)).alloc (.cells #[.string (bs c.image), .int .i64 c.pos, .slice va c.recs.length vc] 74)).alloc (.cells #[.int .i64 k, .string (bs l), .int .i64 p] 67)).alloc (.cells #[.slice none 0 0, .slice none 0 0, .int .i64 0, .int .i64 0, .bool false] 38)) #[.int .i64 0, .int .i64 0, .int .i64 0, .int .i64 0, .int .i64 0, .int .i64 0, .int .i64 0] 57)
  rw [show (((((w.alloc (.cells #[.slice sa d.S.length sc, .slice pa d.P.length pc, .int .i64 d.fuse, .int .i64 d.ops, .bool d.dead] 38)).alloc (.cells #[.int .i64 j.x.g, .int .i64 j.x.e, .int .i64 j.x.a, .int .i64 j.x.z, .int .i64 j.x.p, .int .i64 j.n, .int .i64 j.r] 57)).alloc (.cells #[.string (bs c.image), .int .i64 c.pos, .slice va c.recs.length vc] 74)).alloc (.cells #[.int .i64 k, .string (bs l), .int .i64 p] 67)).alloc (.cells #[.slice none 0 0, .slice none 0 0, .int .i64 0, .int .i64 0, .bool false] 38)).heap.size = w.heap.size + 5 by simp] at h_HJ2
  have HB := Lib.hid hb0; have HX := Lib.hid h_HX; have HJ := Lib.hid h_HJ; have HC := Lib.hid h_HC; have HT := Lib.hid h_HT; have HR := Lib.hid h_HR; have HJ2 := Lib.hid h_HJ2
  clear hb0 h_HX h_HJ h_HC h_HT h_HR h_HJ2
  have HD := Lib.hid (hD.below HB.out)
  go_enter Try.func48, Try.ntmps48
  go_upto_region 1 with (fail)
  generalize hW0 : (((((w.alloc (.cells #[.slice sa d.S.length sc, .slice pa d.P.length pc, .int .i64 d.fuse, .int .i64 d.ops, .bool d.dead] 38)).alloc (.cells #[.int .i64 j.x.g, .int .i64 j.x.e, .int .i64 j.x.a, .int .i64 j.x.z, .int .i64 j.x.p, .int .i64 j.n, .int .i64 j.r] 57)).alloc (.cells #[.string (bs c.image), .int .i64 c.pos, .slice va c.recs.length vc] 74)).alloc (.cells #[.int .i64 k, .string (bs l), .int .i64 p] 67)).alloc (.cells #[.slice none 0 0, .slice none 0 0, .int .i64 0, .int .i64 0, .bool false] 38)).alloc (.cells #[.int .i64 0, .int .i64 0, .int .i64 0, .int .i64 0, .int .i64 0, .int .i64 0, .int .i64 0] 57) = v0 at HB HD HX HJ HC HT HR HJ2 ⊢
  clear hW0
  have HCS := Lib.hid (HCS.out.below HB.out)
  have x0 : v0.cell? ⟨w.heap.size, 0, none⟩ = some (.slice sa d.S.length sc) := HX.out.cell 0
  have x1 : v0.cell? ⟨w.heap.size, 1, none⟩ = some (.slice pa d.P.length pc) := HX.out.cell 1
  have x2 : v0.cell? ⟨w.heap.size, 2, none⟩ = some (.int .i64 d.fuse) := HX.out.cell 2
  have x3 : v0.cell? ⟨w.heap.size, 3, none⟩ = some (.int .i64 d.ops) := HX.out.cell 3
  have x4 : v0.cell? ⟨w.heap.size, 4, none⟩ = some (.bool d.dead) := HX.out.cell 4
  have y0 : v0.cell? ⟨(w.heap.size + 1), 0, none⟩ = some (.int .i64 j.x.g) := HJ.out.cell 0
  have y1 : v0.cell? ⟨(w.heap.size + 1), 1, none⟩ = some (.int .i64 j.x.e) := HJ.out.cell 1
  have y2 : v0.cell? ⟨(w.heap.size + 1), 2, none⟩ = some (.int .i64 j.x.a) := HJ.out.cell 2
  have y3 : v0.cell? ⟨(w.heap.size + 1), 3, none⟩ = some (.int .i64 j.x.z) := HJ.out.cell 3
  have y4 : v0.cell? ⟨(w.heap.size + 1), 4, none⟩ = some (.int .i64 j.x.p) := HJ.out.cell 4
  have y5 : v0.cell? ⟨(w.heap.size + 1), 5, none⟩ = some (.int .i64 j.n) := HJ.out.cell 5
  have y6 : v0.cell? ⟨(w.heap.size + 1), 6, none⟩ = some (.int .i64 j.r) := HJ.out.cell 6
  have t0 : v0.cell? ⟨(w.heap.size + 3), 0, none⟩ = some (.int .i64 k) := HT.out.cell 0
  have t1 : v0.cell? ⟨(w.heap.size + 3), 1, none⟩ = some (.string (bs l)) := HT.out.cell 1
  have t2 : v0.cell? ⟨(w.heap.size + 3), 2, none⟩ = some (.int .i64 p) := HT.out.cell 2
  go_wp2_with fail
  refine (openW_use _ _ _ _ d nd nj im M e _ HD.out (by omega) HQ.out hp2 hs2).mono ?_
  simp only [jnV]
  rintro er w1 ⟨a1, c1, a2, c2, a3, c3, rfl, hL, hM, hb1⟩
  clear x0 x1 x2 x3 x4
  clear y0 y1 y2 y3 y4 y5 y6
  clear t0 t1 t2
  have zw1 : w.heap.size + 5 < w1.heap.size := by have := (HJ2.out.call hb1).lt; omega
  have HMS := Lib.hid hM; have HCS := Lib.hid (HCS.out.below hb1); clear hM
  have hal := ((Below.refl w1.heap.size w1).alloc (Nat.le_refl _) (.cells #[.slice a1 nd.S.length c1, .slice a2 nd.P.length c2, .int .i64 nd.fuse, .int .i64 nd.ops, .bool nd.dead] 38)).alloc (by simp) (.cells #[.int .i64 nj.x.g, .int .i64 nj.x.e, .int .i64 nj.x.a, .int .i64 nj.x.z, .int .i64 nj.x.p, .int .i64 nj.n, .int .i64 nj.r] 57)
  have HA := Lib.hid ((Bx.new w1 #[.slice a1 nd.S.length c1, .slice a2 nd.P.length c2, .int .i64 nd.fuse, .int .i64 nd.ops, .bool nd.dead] 38).alloc (.cells #[.int .i64 nj.x.g, .int .i64 nj.x.e, .int .i64 nj.x.a, .int .i64 nj.x.z, .int .i64 nj.x.p, .int .i64 nj.n, .int .i64 nj.r] 57)); have HJA := Lib.hid (Bx.new1 w1 (.cells #[.slice a1 nd.S.length c1, .slice a2 nd.P.length c2, .int .i64 nd.fuse, .int .i64 nd.ops, .bool nd.dead] 38) #[.int .i64 nj.x.g, .int .i64 nj.x.e, .int .i64 nj.x.a, .int .i64 nj.x.z, .int .i64 nj.x.p, .int .i64 nj.n, .int .i64 nj.r] 57); have HLA := Lib.hid (hL.below hal)
  have HX := Lib.hid ((HX.out.call hb1).call hal)
  have HJ := Lib.hid ((HJ.out.call hb1).call hal)
  have HC := Lib.hid ((HC.out.call hb1).call hal)
  have HT := Lib.hid ((HT.out.call hb1).call hal)
  have HR := Lib.hid ((HR.out.call hb1).call hal)
  have HJ2 := Lib.hid ((HJ2.out.call hb1).call hal)
  have HMS := Lib.hid (HMS.out.below hal)
  have HCS := Lib.hid (HCS.out.below hal)
  have zj0 := HJ2.out.lt
  have HB := Lib.hid (btrans (btrans HB.out HB.out.size hb1) (btrans HB.out HB.out.size hb1).size hal); clear hb1 hL hal
  go_upto_region 8 with (fail)
  generalize hW : (w1.alloc (.cells #[.slice a1 nd.S.length c1, .slice a2 nd.P.length c2, .int .i64 nd.fuse, .int .i64 nd.ops, .bool nd.dead] 38)).alloc (.cells #[.int .i64 nj.x.g, .int .i64 nj.x.e, .int .i64 nj.x.a, .int .i64 nj.x.z, .int .i64 nj.x.p, .int .i64 nj.n, .int .i64 nj.r] 57) = v1 at HX HJ HC HT HR HJ2 HB HA HJA HLA HMS HCS ⊢
  clear hW
  have n0 : v1.cell? ⟨w1.heap.size, 0, none⟩ = some (.slice a1 nd.S.length c1) := HA.out.cell 0
  have n1 : v1.cell? ⟨w1.heap.size, 1, none⟩ = some (.slice a2 nd.P.length c2) := HA.out.cell 1
  have n2 : v1.cell? ⟨w1.heap.size, 2, none⟩ = some (.int .i64 nd.fuse) := HA.out.cell 2
  have n3 : v1.cell? ⟨w1.heap.size, 3, none⟩ = some (.int .i64 nd.ops) := HA.out.cell 3
  have n4 : v1.cell? ⟨w1.heap.size, 4, none⟩ = some (.bool nd.dead) := HA.out.cell 4
  have m0 : v1.cell? ⟨(w1.heap.size + 1), 0, none⟩ = some (.int .i64 nj.x.g) := HJA.out.cell 0
  have m1 : v1.cell? ⟨(w1.heap.size + 1), 1, none⟩ = some (.int .i64 nj.x.e) := HJA.out.cell 1
  have m2 : v1.cell? ⟨(w1.heap.size + 1), 2, none⟩ = some (.int .i64 nj.x.a) := HJA.out.cell 2
  have m3 : v1.cell? ⟨(w1.heap.size + 1), 3, none⟩ = some (.int .i64 nj.x.z) := HJA.out.cell 3
  have m4 : v1.cell? ⟨(w1.heap.size + 1), 4, none⟩ = some (.int .i64 nj.x.p) := HJA.out.cell 4
  have m5 : v1.cell? ⟨(w1.heap.size + 1), 5, none⟩ = some (.int .i64 nj.n) := HJA.out.cell 5
  have m6 : v1.cell? ⟨(w1.heap.size + 1), 6, none⟩ = some (.int .i64 nj.r) := HJA.out.cell 6
  have x0 : v1.cell? ⟨(w.heap.size + 2), 0, none⟩ = some (.string (bs c.image)) := HC.out.cell 0
  have x1 : v1.cell? ⟨(w.heap.size + 2), 1, none⟩ = some (.int .i64 c.pos) := HC.out.cell 1
  have x2 : v1.cell? ⟨(w.heap.size + 2), 2, none⟩ = some (.slice va c.recs.length vc) := HC.out.cell 2
  have hsL : v1.drew.cell? ⟨(w1.heap.size), 0, none⟩ = some (.slice a1 nd.S.length c1) ∧ v1.drew.cell? ⟨(w1.heap.size), 1, none⟩ = some (.slice a2 nd.P.length c2) ∧ v1.drew.cell? ⟨(w1.heap.size), 2, none⟩ = some (.int .i64 nd.fuse) ∧ v1.drew.cell? ⟨(w1.heap.size), 3, none⟩ = some (.int .i64 nd.ops) ∧ v1.drew.cell? ⟨(w1.heap.size), 4, none⟩ = some (.bool nd.dead) ∧ v1.drew.cell? ⟨(w1.heap.size + 1), 0, none⟩ = some (.int .i64 nj.x.g) ∧ v1.drew.cell? ⟨(w1.heap.size + 1), 1, none⟩ = some (.int .i64 nj.x.e) ∧ v1.drew.cell? ⟨(w1.heap.size + 1), 2, none⟩ = some (.int .i64 nj.x.a) ∧ v1.drew.cell? ⟨(w1.heap.size + 1), 3, none⟩ = some (.int .i64 nj.x.z) ∧ v1.drew.cell? ⟨(w1.heap.size + 1), 4, none⟩ = some (.int .i64 nj.x.p) ∧ v1.drew.cell? ⟨(w1.heap.size + 1), 5, none⟩ = some (.int .i64 nj.n) ∧ v1.drew.cell? ⟨(w1.heap.size + 1), 6, none⟩ = some (.int .i64 nj.r) ∧ v1.drew.cell? ⟨(w.heap.size + 2), 0, none⟩ = some (.string (bs c.image)) ∧ v1.drew.cell? ⟨(w.heap.size + 2), 1, none⟩ = some (.int .i64 c.pos) ∧ v1.drew.cell? ⟨(w.heap.size + 2), 2, none⟩ = some (.slice va c.recs.length vc) := ⟨n0, n1, n2, n3, n4, m0, m1, m2, m3, m4, m5, m6, x0, x1, x2⟩
  have HSL := Lib.hid hsL; clear hsL n0 n1 n2 n3 n4 m0 m1 m2 m3 m4 m5 m6 x0 x1 x2
  go_wp2_with fail
  refine wp_region_held_drew (S := (fun w' => w'.cell? ⟨(w1.heap.size), 0, none⟩ = some (.slice a1 nd.S.length c1) ∧ w'.cell? ⟨(w1.heap.size), 1, none⟩ = some (.slice a2 nd.P.length c2) ∧ w'.cell? ⟨(w1.heap.size), 2, none⟩ = some (.int .i64 nd.fuse) ∧ w'.cell? ⟨(w1.heap.size), 3, none⟩ = some (.int .i64 nd.ops) ∧ w'.cell? ⟨(w1.heap.size), 4, none⟩ = some (.bool nd.dead) ∧ w'.cell? ⟨(w1.heap.size + 1), 0, none⟩ = some (.int .i64 nj.x.g) ∧ w'.cell? ⟨(w1.heap.size + 1), 1, none⟩ = some (.int .i64 nj.x.e) ∧ w'.cell? ⟨(w1.heap.size + 1), 2, none⟩ = some (.int .i64 nj.x.a) ∧ w'.cell? ⟨(w1.heap.size + 1), 3, none⟩ = some (.int .i64 nj.x.z) ∧ w'.cell? ⟨(w1.heap.size + 1), 4, none⟩ = some (.int .i64 nj.x.p) ∧ w'.cell? ⟨(w1.heap.size + 1), 5, none⟩ = some (.int .i64 nj.n) ∧ w'.cell? ⟨(w1.heap.size + 1), 6, none⟩ = some (.int .i64 nj.r) ∧ w'.cell? ⟨(w.heap.size + 2), 0, none⟩ = some (.string (bs c.image)) ∧ w'.cell? ⟨(w.heap.size + 2), 1, none⟩ = some (.int .i64 c.pos) ∧ w'.cell? ⟨(w.heap.size + 2), 2, none⟩ = some (.slice va c.recs.length vc))) (by kernel_rfl) ?_ (fun hHeld => ?_)
  · exact HSL.out
  refine takeH (i := 0) (v := ?vv21) 63 rfl rfl (by kernel_rfl) (by kernel_rfl) (by kernel_rfl) (fun _ _ _ h => h) (Or.inl ⟨by kernel_rfl, ?yy21⟩) (by assumption) ?_
  case yy21 => intro w hSw; (try dsimp only at hSw); go_simp; (try with_reducible rfl)
  simp only [List.setIfInBounds_toArray, List.set_cons_zero, List.set_cons_succ]
  refine takeH (i := 1) (v := ?vv22) 64 rfl rfl (by kernel_rfl) (by kernel_rfl) (by kernel_rfl) (fun _ _ _ h => h) (Or.inl ⟨by kernel_rfl, ?yy22⟩) (by assumption) ?_
  case yy22 => intro w hSw; (try dsimp only at hSw); go_simp; (try with_reducible rfl)
  simp only [List.setIfInBounds_toArray, List.set_cons_zero, List.set_cons_succ]
  refine takeH (i := 2) (v := ?vv23) 65 rfl rfl (by kernel_rfl) (by kernel_rfl) (by kernel_rfl) (fun _ _ _ h => h) (Or.inl ⟨by kernel_rfl, ?yy23⟩) (by assumption) ?_
  case yy23 => intro w hSw; (try dsimp only at hSw); go_simp; (try with_reducible rfl)
  simp only [List.setIfInBounds_toArray, List.set_cons_zero, List.set_cons_succ]
  refine takeH (i := 3) (v := ?vv24) 66 rfl rfl (by kernel_rfl) (by kernel_rfl) (by kernel_rfl) (fun _ _ _ h => h) (Or.inl ⟨by kernel_rfl, ?yy24⟩) (by assumption) ?_
  case yy24 => intro w hSw; (try dsimp only at hSw); go_simp; (try with_reducible rfl)
  simp only [List.setIfInBounds_toArray, List.set_cons_zero, List.set_cons_succ]
  refine takeH (i := 4) (v := ?vv25) 67 rfl rfl (by kernel_rfl) (by kernel_rfl) (by kernel_rfl) (fun _ _ _ h => h) (Or.inl ⟨by kernel_rfl, ?yy25⟩) (by assumption) ?_
  case yy25 => intro w hSw; (try dsimp only at hSw); go_simp; (try with_reducible rfl)
  simp only [List.setIfInBounds_toArray, List.set_cons_zero, List.set_cons_succ]
  refine takeH (i := 5) (v := ?vv26) 68 rfl rfl (by kernel_rfl) (by kernel_rfl) (by kernel_rfl) (fun _ _ _ h => h) (Or.inl ⟨by kernel_rfl, ?yy26⟩) (by assumption) ?_
  case yy26 => intro w hSw; (try dsimp only at hSw); go_simp; (try with_reducible rfl)
  simp only [List.setIfInBounds_toArray, List.set_cons_zero, List.set_cons_succ]
  refine takeH (i := 6) (v := ?vv27) 69 rfl rfl (by kernel_rfl) (by kernel_rfl) (by kernel_rfl) (fun _ _ _ h => h) (Or.inl ⟨by kernel_rfl, ?yy27⟩) (by assumption) ?_
  case yy27 => intro w hSw; (try dsimp only at hSw); go_simp; (try with_reducible rfl)
  simp only [List.setIfInBounds_toArray, List.set_cons_zero, List.set_cons_succ]
  refine takeH (i := 7) (v := ?vv28) 70 rfl rfl (by kernel_rfl) (by kernel_rfl) (by kernel_rfl) (fun _ _ _ h => h) (Or.inl ⟨by kernel_rfl, ?yy28⟩) (by assumption) ?_
  case yy28 => intro w hSw; (try dsimp only at hSw); go_simp; (try with_reducible rfl)
  simp only [List.setIfInBounds_toArray, List.set_cons_zero, List.set_cons_succ]
  refine takeH (i := 8) (v := ?vv29) 71 rfl rfl (by kernel_rfl) (by kernel_rfl) (by kernel_rfl) (fun _ _ _ h => h) (Or.inl ⟨by kernel_rfl, ?yy29⟩) (by assumption) ?_
  case yy29 => intro w hSw; (try dsimp only at hSw); go_simp; (try with_reducible rfl)
  simp only [List.setIfInBounds_toArray, List.set_cons_zero, List.set_cons_succ]
  refine takeH (i := 9) (v := ?vv30) 72 rfl rfl (by kernel_rfl) (by kernel_rfl) (by kernel_rfl) (fun _ _ _ h => h) (Or.inl ⟨by kernel_rfl, ?yy30⟩) (by assumption) ?_
  case yy30 => intro w hSw; (try dsimp only at hSw); go_simp; (try with_reducible rfl)
  simp only [List.setIfInBounds_toArray, List.set_cons_zero, List.set_cons_succ]
  refine wpAnyH_ready (rs := [10]) (by kernel_rfl) (by simp) ?_
  refine (AllReadyH.cons rfl (fun K hK => ?_) AllReadyH.nil)
  go_simp
  (refine (hasC_any va a3 vc c3 c im nj M _ (HCS.out.below (Below.refl v1.heap.size v1).drew) (HMS.out.below (Below.refl v1.heap.size v1).drew) hcl hml).mono ?_; rw [HH.out]; rintro er w9 ⟨rfl, hb9⟩)
  (try go_wp2_with fail)
  refine hK.out _ _ ?_ (fun hHeld => ?_)
  · exact dcells15_below hHeld hb9
  clear hK K
  (try simp only [Act.put, List.setIfInBounds_toArray, List.set_cons_zero, List.set_cons_succ])
  have hc9 := btrans (Below.refl v1.heap.size v1).drew (Nat.le_refl _) hb9
  have HR := Lib.hid (HR.out.call hc9); have HJ2 := Lib.hid (HJ2.out.call hc9); have HLA := Lib.hid (HLA.out.below hc9); have HB := Lib.hid (btrans HB.out HB.out.size hc9)
  refine takeH (i := 11) (v := ?vv20) 74 rfl rfl (by kernel_rfl) (by kernel_rfl) (by kernel_rfl) (fun _ _ _ h => h) (Or.inl ⟨by kernel_rfl, ?yy20⟩) (by assumption) ?_
  case yy20 => intro w hSw; (try dsimp only at hSw); go_simp; (try with_reducible rfl)
  simp only [List.setIfInBounds_toArray, List.set_cons_zero, List.set_cons_succ]
  refine wpAnyH_ready (rs := [12]) (by kernel_rfl) (by simp) ?_
  refine (AllReadyH.cons rfl (fun K hK => ?_) AllReadyH.nil)
  have r0 : w9.cell? ⟨(w.heap.size + 4), 0, none⟩ = some (.slice none 0 0) := HR.out.cell 0
  have r1 : w9.cell? ⟨(w.heap.size + 4), 1, none⟩ = some (.slice none 0 0) := HR.out.cell 1
  have r2 : w9.cell? ⟨(w.heap.size + 4), 2, none⟩ = some (.int .i64 0) := HR.out.cell 2
  have r3 : w9.cell? ⟨(w.heap.size + 4), 3, none⟩ = some (.int .i64 0) := HR.out.cell 3
  have r4 : w9.cell? ⟨(w.heap.size + 4), 4, none⟩ = some (.bool false) := HR.out.cell 4
  have f0 : w9.frozen? ⟨(w.heap.size + 4), 0, none⟩ = false := HR.out.free 0
  have f1 : w9.frozen? ⟨(w.heap.size + 4), 1, none⟩ = false := HR.out.free 1
  have f2 : w9.frozen? ⟨(w.heap.size + 4), 2, none⟩ = false := HR.out.free 2
  have f3 : w9.frozen? ⟨(w.heap.size + 4), 3, none⟩ = false := HR.out.free 3
  have f4 : w9.frozen? ⟨(w.heap.size + 4), 4, none⟩ = false := HR.out.free 4
  go_simp
  refine hK.out _ _ ?_ (fun hHeld => ?_)
  · exact wc_xxxxxyyyyyyyzzz_5n (W := w9) (by assumption) (w.heap.size + 4) (by omega) (by omega) (by omega) _ _ _ _ _
  clear hK K
  (try simp only [Act.put, List.setIfInBounds_toArray, List.set_cons_zero, List.set_cons_succ])
  clear r0 r1 r2 r3 r4
  clear f0 f1 f2 f3 f4
  have HRa := Lib.hid (HR.out.sets (.slice a1 nd.S.length c1) (.slice a2 nd.P.length c2) (.int .i64 nd.fuse) (.int .i64 nd.ops) (.bool nd.dead)); have HJa := Lib.hid (HJ2.out.sets_ne (c := w.heap.size + 4) (by omega) (.slice a1 nd.S.length c1) (.slice a2 nd.P.length c2) (.int .i64 nd.fuse) (.int .i64 nd.ops) (.bool nd.dead)); have HBa := Lib.hid (below_sets HB.out (w.heap.size + 4) (by omega) (.slice a1 nd.S.length c1) (.slice a2 nd.P.length c2) (.int .i64 nd.fuse) (.int .i64 nd.ops) (.bool nd.dead)); have HLa := Lib.hid (HLA.out.sets_box HR.out (.slice a1 nd.S.length c1) (.slice a2 nd.P.length c2) (.int .i64 nd.fuse) (.int .i64 nd.ops) (.bool nd.dead))
  generalize hWE : (((((w9.setCell ⟨(w.heap.size + 4), 0, none⟩ (.slice a1 nd.S.length c1)).setCell ⟨(w.heap.size + 4), 1, none⟩ (.slice a2 nd.P.length c2)).setCell ⟨(w.heap.size + 4), 2, none⟩ (.int .i64 nd.fuse)).setCell ⟨(w.heap.size + 4), 3, none⟩ (.int .i64 nd.ops)).setCell ⟨(w.heap.size + 4), 4, none⟩ (.bool nd.dead)) = WE at HRa HJa HBa HLa hHeld ⊢
  clear hWE
  refine wpAnyH_ready (rs := [13]) (by kernel_rfl) (by simp) ?_
  refine (AllReadyH.cons rfl (fun K hK => ?_) AllReadyH.nil)
  have q0 : WE.cell? ⟨(w.heap.size + 5), 0, none⟩ = some (.int .i64 0) := HJa.out.cell 0
  have q1 : WE.cell? ⟨(w.heap.size + 5), 1, none⟩ = some (.int .i64 0) := HJa.out.cell 1
  have q2 : WE.cell? ⟨(w.heap.size + 5), 2, none⟩ = some (.int .i64 0) := HJa.out.cell 2
  have q3 : WE.cell? ⟨(w.heap.size + 5), 3, none⟩ = some (.int .i64 0) := HJa.out.cell 3
  have q4 : WE.cell? ⟨(w.heap.size + 5), 4, none⟩ = some (.int .i64 0) := HJa.out.cell 4
  have q5 : WE.cell? ⟨(w.heap.size + 5), 5, none⟩ = some (.int .i64 0) := HJa.out.cell 5
  have q6 : WE.cell? ⟨(w.heap.size + 5), 6, none⟩ = some (.int .i64 0) := HJa.out.cell 6
  have p0 : WE.frozen? ⟨(w.heap.size + 5), 0, none⟩ = false := HJa.out.free 0
  have p1 : WE.frozen? ⟨(w.heap.size + 5), 1, none⟩ = false := HJa.out.free 1
  have p2 : WE.frozen? ⟨(w.heap.size + 5), 2, none⟩ = false := HJa.out.free 2
  have p3 : WE.frozen? ⟨(w.heap.size + 5), 3, none⟩ = false := HJa.out.free 3
  have p4 : WE.frozen? ⟨(w.heap.size + 5), 4, none⟩ = false := HJa.out.free 4
  have p5 : WE.frozen? ⟨(w.heap.size + 5), 5, none⟩ = false := HJa.out.free 5
  have p6 : WE.frozen? ⟨(w.heap.size + 5), 6, none⟩ = false := HJa.out.free 6
  go_simp
  refine hK.out _ _ ?_ (fun hHeld => ?_)
  · exact wc_xxxxxyyyyyyyzzz_7n (W := WE) (by assumption) (w.heap.size + 5) (by omega) (by omega) (by omega) _ _ _ _ _ _ _
  clear hK K
  (try simp only [Act.put, List.setIfInBounds_toArray, List.set_cons_zero, List.set_cons_succ])
  refine takeH (i := 14) (v := ?vv31) 10 rfl rfl (by kernel_rfl) (by kernel_rfl) (by kernel_rfl) (fun _ _ _ h => h) (Or.inl ⟨by kernel_rfl, ?yy31⟩) (by assumption) ?_
  case yy31 => intro w hSw; (try dsimp only at hSw); go_simp; (try with_reducible rfl)
  simp only [List.setIfInBounds_toArray, List.set_cons_zero, List.set_cons_succ]
  refine takeH (i := 15) (v := ?vv32) 11 rfl rfl (by kernel_rfl) (by kernel_rfl) (by kernel_rfl) (fun _ _ _ h => h) (Or.inl ⟨by kernel_rfl, ?yy32⟩) (by assumption) ?_
  case yy32 => intro w hSw; (try dsimp only at hSw); go_simp; (try with_reducible rfl)
  simp only [List.setIfInBounds_toArray, List.set_cons_zero, List.set_cons_succ]
  refine wpAnyH_done (by kernel_rfl) ?_ _
  have KR := Lib.hid (HRa.out.sets7_ne (c := w.heap.size + 5) (by omega) (.int .i64 nj.x.g) (.int .i64 nj.x.e) (.int .i64 nj.x.a) (.int .i64 nj.x.z) (.int .i64 nj.x.p) (.int .i64 nj.n) (.int .i64 nj.r)); have KJ := Lib.hid (HJa.out.sets7 (.int .i64 nj.x.g) (.int .i64 nj.x.e) (.int .i64 nj.x.a) (.int .i64 nj.x.z) (.int .i64 nj.x.p) (.int .i64 nj.n) (.int .i64 nj.r)); have KL := Lib.hid (HLa.out.sets7i HJa.out (.int .i64 nj.x.g) (.int .i64 nj.x.e) (.int .i64 nj.x.a) (.int .i64 nj.x.z) (.int .i64 nj.x.p) (.int .i64 nj.n) (.int .i64 nj.r)); have KB := Lib.hid (below_sets7 HBa.out (w.heap.size + 5) (by omega) (.int .i64 nj.x.g) (.int .i64 nj.x.e) (.int .i64 nj.x.a) (.int .i64 nj.x.z) (.int .i64 nj.x.p) (.int .i64 nj.n) (.int .i64 nj.r))
  go_wp2
  have k0 := KR.out.cell 0
  have k1 := KR.out.cell 1
  have k2 := KR.out.cell 2
  have k3 := KR.out.cell 3
  have k4 := KR.out.cell 4
  have m0 := KJ.out.cell 0
  have m1 := KJ.out.cell 1
  have m2 := KJ.out.cell 2
  have m3 := KJ.out.cell 3
  have m4 := KJ.out.cell 4
  have m5 := KJ.out.cell 5
  have m6 := KJ.out.cell 6
  simp only [List.getElem?_toArray, List.getElem?_cons_zero, List.getElem?_cons_succ] at k0 k1 k2 k3 k4 m0 m1 m2 m3 m4 m5 m6
  refine bodyPost_ret (v := .tuple #[.agg #[.slice a1 nd.S.length c1, .slice a2 nd.P.length c2, .int .i64 nd.fuse, .int .i64 nd.ops, .bool nd.dead], .agg #[.int .i64 nj.x.g, .int .i64 nj.x.e, .int .i64 nj.x.a, .int .i64 nj.x.z, .int .i64 nj.x.p, .int .i64 nj.n, .int .i64 nj.r], .int .i64 e, .bool th]) (by simp [results, Try.results48, go_sem, k0, k1, k2, k3, k4, m0, m1, m2, m3, m4, m5, m6]) rfl ?_
  exact ⟨a1, c1, a2, c2, rfl, KL.out, KB.out⟩
end Go.Proofs.Ytkpfkknldeafkaa
namespace Go.Proofs.Ytkpfkknldeafkaa
open Go.ChangeShapes Go.WideShapes Go.ChangeAt Go.RowKit

structure Ac where
  k : Int
  l : List UInt8
  p : Int
/-- v is a slice whose elements are the acts M -/
def AcS (W : World) (v : Value) (M : List Ac) : Prop :=
  ∃ a cap, v = .slice a M.length cap ∧ M.length ≤ cap ∧ (M ≠ [] → ∃ b off, a = some ⟨b, off, none⟩ ∧ ∀ i (h : i < M.length), W.cell? ⟨b, off + i * 3, none⟩ = some (.int .i64 M[i].k) ∧ W.cell? ⟨b, off + i * 3 + 1, none⟩ = some (.string (bs M[i].l)) ∧ W.cell? ⟨b, off + i * 3 + 2, none⟩ = some (.int .i64 M[i].p))
theorem AcS.at {W : World} {a : Option Addr} {c : Nat} {M : List Ac} (h : AcS W (.slice a M.length c) M) (k : Nat) (hk : k < M.length) :
    ∃ b off, a = some ⟨b, off, none⟩ ∧ M.length ≤ c ∧ W.cell? ⟨b, off + k * 3, none⟩ = some (.int .i64 M[k].k) ∧ W.cell? ⟨b, off + k * 3 + 1, none⟩ = some (.string (bs M[k].l)) ∧ W.cell? ⟨b, off + k * 3 + 2, none⟩ = some (.int .i64 M[k].p) := by
  obtain ⟨a', cap, he, hc, hx⟩ := h
  cases he
  obtain ⟨b, off, rfl, hcell⟩ := hx (by intro h0; rw [h0] at hk; simp at hk)
  exact ⟨b, off, rfl, hc, hcell k hk⟩
theorem AcS.below {W W' : World} {v : Value} {M : List Ac} (h : AcS W v M) (hb : Below W.heap.size W W') : AcS W' v M := by
  obtain ⟨a, cap, rfl, hc, hM⟩ := h
  refine ⟨a, cap, rfl, hc, fun hne => ?_⟩
  obtain ⟨b, off, rfl, hcell⟩ := hM hne
  refine ⟨b, off, rfl, fun i hi => ?_⟩
  exact ⟨cell1_below (hcell i hi).1 hb, cell1_below (hcell i hi).2.1 hb, cell1_below (hcell i hi).2.2 hb⟩

section
variable {H : Type} {enc : TypeId × Value → H} {W : World} {base : Nat} {spare : Nat → Bool} {held : Bool}
set_option maxRecDepth 100000 in
theorem trod_act {fuel : Nat} {cs : List Value} {x : DataW H × List MemPlace} (h : DataW.trod enc Try.prog W base spare held fuel 67 cs = some x) (hz : ∀ n ∈ x.1.weights Try.prog 67, n ≤ reachBytes) :
    ∃ q : Ac, cs = [.int .i64 q.k, .string (bs q.l), .int .i64 q.p] ∧ q.l.length ≤ 140737488351232 := by
  obtain ⟨ys, n, _, hx, hlen, hyl, hf⟩ := DataW.trod_struct Try.underlying67 h
  rw [show Try.prog.cellsOf 67 = 3 by kernel_rfl] at hlen
  match cs, hlen with
  | [u0, u1, u2], _ =>
    match ys, hyl with
    | [y0, y1, y2], _ =>
      have h0 : DataW.trod enc Try.prog W base spare held n 3 (([u0, u1, u2].drop 0).take (Try.prog.cellsOf 3)) = some y0 := hf 0 _ rfl
      have h1 : DataW.trod enc Try.prog W base spare held n 9 (([u0, u1, u2].drop 1).take (Try.prog.cellsOf 9)) = some y1 := hf 1 _ rfl
      have h2 : DataW.trod enc Try.prog W base spare held n 2 (([u0, u1, u2].drop 2).take (Try.prog.cellsOf 2)) = some y2 := hf 2 _ rfl
      rw [show Try.prog.cellsOf 3 = 1 by kernel_rfl] at h0
      rw [show Try.prog.cellsOf 9 = 1 by kernel_rfl] at h1
      rw [show Try.prog.cellsOf 2 = 1 by kernel_rfl] at h2
      have z1 : ∀ n ∈ y1.1.weights Try.prog 9, n ≤ reachBytes := fun n hn => hz n (by rw [hx]; simp only [DataW.weights, Try.underlying67, List.map_cons, List.map_nil, DataW.weightsEach, List.mem_append]; exact Or.inr (Or.inl hn))
      obtain ⟨a, e0, _⟩ := DataW.trod_int Try.underlying3 h0
      obtain ⟨s, e1, f1⟩ := DataW.trod_string Try.underlying9 h1
      obtain ⟨q, e2, _⟩ := DataW.trod_int Try.underlying2 h2
      simp at e0 e1 e2
      subst e0 e1 e2
      rw [f1.1] at z1
      refine ⟨⟨a, s.data.toList, q⟩, by simp only; rw [bs_toList], ?_⟩
      have := z1 s.data.toList.length (by simp [DataW.weights])
      unfold reachBytes at this
      show s.data.toList.length ≤ _
      omega
theorem weightsAll_mem {P : Program} {e : TypeId} {l : List (DataW H)} {d : DataW H} (hd : d ∈ l) {n : Nat} (hn : n ∈ d.weights P e) : n ∈ DataW.weightsAll P e l := by
  induction l with
  | nil => cases hd
  | cons x r ih =>
    simp only [DataW.weightsAll, List.mem_append]
    rcases List.mem_cons.1 hd with h | h
    · subst h; exact .inl hn
    · exact .inr (ih h)
set_option maxRecDepth 100000 in
theorem open_acts {r : Reach} {b0 : Nat} {v : Value} {d : DataW H} {p : List MemPlace} (hv : Value.okWide Try.prog W r b0 70 v) (h : DataW.Trod enc Try.prog W base spare held 70 v d p) (hz : ∀ n ∈ d.weights Try.prog 70, n ≤ reachBytes) :
    ∃ (a : Option Addr) (c : Nat) (M : List Ac), v = .slice a M.length c ∧ AcS W (.slice a M.length c) M ∧ M.length ≤ 4398046511104 ∧ ∀ q ∈ M, q.l.length ≤ 140737488351232 := by
  obtain ⟨a0, len0, cap0, rfl⟩ := okWide_slice Try.underlying70 hv
  obtain ⟨fuel, hf⟩ := h
  rcases Deep.open_slice Try.underlying70 hf with ⟨hcs, _⟩ | ⟨a, len, cap, m, n, D, Pl, hcs, _, hl, _, hm, hx, hi⟩
  · simp [Value.cells] at hcs
    obtain ⟨rfl, rfl, rfl⟩ := hcs
    exact ⟨none, 0, [], rfl, ⟨none, 0, rfl, Nat.le_refl _, fun hne => absurd rfl hne⟩, by simp, by simp⟩
  · simp [Value.cells] at hcs
    obtain ⟨rfl, rfl, rfl⟩ := hcs
    have hlm : len0 ≤ m := by rw [hm]; split <;> omega
    rw [Prod.mk.injEq] at hx
    have hsz : len0 ≤ 4398046511104 := by
      have h1 := hz ((((List.range len0).map D).length + (((List.range (m - len0)).map fun j => D (len0 + j))).length) * Try.prog.bytesOf 67) (by rw [hx.1]; simp [DataW.weights, Try.underlying70])
      rw [show Try.prog.bytesOf 67 = 32 by kernel_rfl] at h1
      rw [List.length_map, List.length_range] at h1
      unfold reachBytes at h1
      omega
    have hel : ∀ i, i < len0 → ∃ q : Ac, (W.cell? (a.add (i * 3)) = some (.int .i64 q.k) ∧ W.cell? ((a.add (i * 3)).add 1) = some (.string (bs q.l)) ∧ W.cell? ((a.add (i * 3)).add 2) = some (.int .i64 q.p)) ∧ q.l.length ≤ 140737488351232 := by
      intro i hil
      obtain ⟨cs', hc, ht⟩ := hi i (by omega)
      rw [show Try.prog.cellsOf 67 = 3 by kernel_rfl] at hc
      obtain ⟨q, rfl, hql⟩ := trod_act ht (fun n hn => hz n (by
        rw [hx.1]
        simp only [DataW.weights, Try.underlying70, List.mem_cons, List.mem_append]
        exact .inr (.inl (weightsAll_mem (List.mem_map.2 ⟨i, List.mem_range.2 hil, rfl⟩) hn))))
      obtain ⟨_, _, hat⟩ := World.cells?_some hc
      have h0 := hat 0 (by decide)
      have h1 := hat 1 (by decide)
      have h2 := hat 2 (by decide)
      refine ⟨q, ⟨?_, h1, h2⟩, hql⟩
      have : (a.add (i * 3)).add 0 = a.add (i * 3) := by unfold Addr.add; split <;> simp_all
      rw [this] at h0; exact h0
    obtain ⟨F, hF⟩ : ∃ F : Nat → Ac, ∀ i, i < len0 → (W.cell? (a.add (i * 3)) = some (.int .i64 (F i).k) ∧ W.cell? ((a.add (i * 3)).add 1) = some (.string (bs (F i).l)) ∧ W.cell? ((a.add (i * 3)).add 2) = some (.int .i64 (F i).p)) ∧ (F i).l.length ≤ 140737488351232 :=
      ⟨fun i => if h : i < len0 then (hel i h).choose else ⟨0, [], 0⟩, fun i h => by simp only [dif_pos h]; exact (hel i h).choose_spec⟩
    have hML : ((List.range len0).map F).length = len0 := by simp
    refine ⟨some a, cap0, (List.range len0).map F, by rw [hML], ⟨some a, cap0, rfl, by rw [hML]; exact hl, fun hne => ?_⟩, by rw [hML]; exact hsz, ?_⟩
    · have h0 : 0 < len0 := by
        rcases Nat.eq_zero_or_pos len0 with h | h
        · subst h; simp at hne
        · exact h
      obtain ⟨b, off, spot⟩ := a
      have hspot : spot = none := by simpa [Addr.add] using World.cell?_spot (hF 0 h0).1.1
      subst hspot
      refine ⟨b, off, rfl, fun i hi2 => ?_⟩
      rw [hML] at hi2
      obtain ⟨⟨q1, q2, q3⟩, _⟩ := hF i hi2
      rw [addr_add] at q1 q2 q3
      rw [addr_add] at q2 q3
      simp only [List.getElem_map, List.getElem_range]
      exact ⟨q1, q2, q3⟩
    · intro q hq
      obtain ⟨i, hi2, rfl⟩ := List.mem_map.1 hq
      exact (hF i (List.mem_range.1 hi2)).2
end
end Go.Proofs.Ytkpfkknldeafkaa
namespace Go.Proofs.Ytkpfkknldeafkaa
open Go.RowKit

theorem inv_lens {n : Nat} {d : Dk} {j : Jn} {c : Ct} (h : Inv n d j c) : d.S.length ≤ 1024 ∧ d.P.length ≤ 0 ∧ c.recs.length ≤ 1024 := by
  have h1 := qt_len h.q
  have h2 := h.q.s
  have h3 := h.q.p
  obtain ⟨_, f1, f2, f3, f4⟩ := h.fits
  have h5 := h.r
  refine ⟨by omega, by rw [h3]; exact Nat.le_refl _, by omega⟩
/-- the outcome of an act -/
def DoOut (m : Nat) (d : Dk) (j : Jn) (c : Ct) (a : Ac) (nd : Dk) (nj : Jn) (e : Int) : Prop :=
  (e ≠ 0 ∧ e ≠ 18 ∧ nd = d) ∨ (e = 0 ∧ Inv m nd nj (aft c a.k a.l a.p) ∧ (d.fuse = 0 → nd.fuse = 0) ∧ nj.x.g ≤ j.x.g + 1) ∨ (e = 18 ∧ Died m d nd (j.x.g + 1) c (aft c a.k a.l a.p))
theorem aft_app (c : Ct) {a : Ac} (h : a.k = 0) : aft c a.k a.l a.p = c.add a.l := by unfold aft; rw [if_pos h]
theorem aft_res (c : Ct) {a : Ac} (h : a.k = 1) : aft c a.k a.l a.p = ⟨a.l, a.p, []⟩ := by unfold aft; rw [if_neg (by rw [h]; decide), if_pos h]
theorem aft_open (c : Ct) {a : Ac} (h0 : a.k ≠ 0) (h1 : a.k ≠ 1) : aft c a.k a.l a.p = c := by unfold aft; rw [if_neg h0, if_neg h1]
theorem died_sizes {n : Nat} {d d2 : Dk} {top : Int} {c c2 : Ct} (h : Died n d d2 top c c2) (hn : n ≤ 1024) : d2.S.length ≤ 9000000000000 ∧ d2.P.length ≤ 9000000000000 := by
  obtain ⟨_, _, h3, h4, _⟩ := h; omega
theorem do_out {m : Nat} {d : Dk} {j : Jn} {c : Ct} (h : Inv m d j c) (hg : j.x.g < 1099511627776) (a : Ac) (ha : a.l.length ≤ 1000000000000000) :
    ∃ nd nj e, DoOut m d j c a nd nj e ∧ (a.k = 0 → ((planS d j a.l).2 = 0 ↔ e = 0 ∨ e = 18)) ∧
      ∀ (sa pa va : Option Addr) (sc pc vc : Nat) (w : World), Lists w sa sc pa pc d → StrS w (.slice va c.recs.length vc) c.recs →
        Calls Try.prog 48 #[.agg #[.slice sa d.S.length sc, .slice pa d.P.length pc, .int .i64 d.fuse, .int .i64 d.ops, .bool d.dead], .agg (jnV j), .agg #[.string (bs c.image), .int .i64 c.pos, .slice va c.recs.length vc], .agg #[.int .i64 a.k, .string (bs a.l), .int .i64 a.p]] w (DOPost nd nj e true w) := by
  obtain ⟨l1, l2, l3⟩ := inv_lens h
  obtain ⟨n1, n2⟩ := qt_len h.q
  by_cases h0 : a.k = 0
  · rcases app_out h a.l with ⟨p1, p2, p3⟩ | ⟨p1, d2, SL, ⟨p2, p3, p4, p5⟩ | ⟨p2, p3⟩⟩
    · exact ⟨_, _, _, .inl ⟨p1, p2, rfl⟩, fun _ => by omega, fun sa pa va sc pc vc w hD hS => do_app sa pa sc pc d j va vc c a.k a.l a.p _ _ _ w hD ha (by omega) h0 p3⟩
    · exact ⟨_, _, _, .inr (.inl ⟨rfl, by rw [aft_app c h0]; exact p3, p5, by show j.x.g ≤ _; omega⟩), fun _ => by simp [p1], fun sa pa va sc pc vc w hD hS => do_app sa pa sc pc d j va vc c a.k a.l a.p _ _ _ w hD ha (by omega) h0 p2⟩
    · exact ⟨_, _, _, .inr (.inr ⟨rfl, by rw [aft_app c h0]; exact p3⟩), fun _ => by simp [p1], fun sa pa va sc pc vc w hD hS => do_app sa pa sc pc d j va vc c a.k a.l a.p _ _ _ w hD ha (by omega) h0 p2⟩
  · by_cases h1 : a.k = 1
    · rcases res_out h a.l a.p with ⟨p1, p2, p3⟩ | ⟨p1, d2, ⟨p2, p3, p4, p5⟩ | ⟨p2, p3⟩⟩
      · exact ⟨_, _, _, .inl ⟨p1, p2, rfl⟩, fun h => absurd h h0, fun sa pa va sc pc vc w hD hS => do_res sa pa sc pc d j va vc c a.k a.l a.p _ _ _ w hD ha (by omega) h1 p3⟩
      · exact ⟨_, _, _, .inr (.inl ⟨rfl, by rw [aft_res c h1]; exact p3, p5, by show j.x.g + 1 ≤ _; omega⟩), fun h => absurd h h0, fun sa pa va sc pc vc w hD hS => do_res sa pa sc pc d j va vc c a.k a.l a.p _ _ _ w hD ha (by omega) h1 p2⟩
      · exact ⟨_, _, _, .inr (.inr ⟨rfl, by rw [aft_res c h1]; exact p3⟩), fun h => absurd h h0, fun sa pa va sc pc vc w hD hS => do_res sa pa sc pc d j va vc c a.k a.l a.p _ _ _ w hD ha (by omega) h1 p2⟩
    · obtain ⟨d2, ⟨p2, p3, p5⟩ | ⟨p2, p3⟩⟩ := open_out h hg
      · obtain ⟨m1, m2, _⟩ := inv_lens p3
        have hh : hasC c c.image ⟨nextS j.x, j.n, j.r⟩ c.recs = true := (hasC_iff _ _ _ _).2 ⟨rfl, h.p, rfl, h.r⟩
        exact ⟨_, _, _, .inr (.inl ⟨rfl, by rw [aft_open c h0 h1]; exact p3, p5, by show j.x.g + 1 ≤ _; omega⟩), fun h => absurd h h0, fun sa pa va sc pc vc w hD hS => do_open_ok sa pa sc pc d j va vc c a.k a.l a.p _ _ _ w hD hS _ _ (by omega) (by omega) (by omega) (by omega) (by omega) h0 h1 p2 rfl true hh⟩
      · obtain ⟨m1, m2⟩ := died_sizes p3 n2
        exact ⟨_, _, _, .inr (.inr ⟨rfl, by rw [aft_open c h0 h1]; exact p3⟩), fun h => absurd h h0, fun sa pa va sc pc vc w hD hS => do_open_no sa pa sc pc d j va vc c a.k a.l a.p _ _ _ w hD hS _ [] (by omega) (by simp) (by omega) m2 m1 h0 h1 p2 (by decide)⟩
end Go.Proofs.Ytkpfkknldeafkaa
namespace Go.Proofs.Ytkpfkknldeafkaa
open Go.RowKit

theorem Bx.sets3 {b : Nat} {T : TypeId} {W : World} {z0 z1 z2 : Value} (h : Bx b #[z0, z1, z2] T W) (u0 u1 u2 : Value) :
    Bx b #[u0, u1, u2] T (((W.setCell ⟨b, 0, none⟩ u0).setCell ⟨b, 1, none⟩ u1).setCell ⟨b, 2, none⟩ u2) := by
  have := ((h.set 0 u0).set 1 u1).set 2 u2
  simpa using this
theorem Bx.sets3_ne {b c : Nat} {cs : Array Value} {T : TypeId} {W : World} (h : Bx b cs T W) (hne : b ≠ c) (u0 u1 u2 : Value) :
    Bx b cs T (((W.setCell ⟨c, 0, none⟩ u0).setCell ⟨c, 1, none⟩ u1).setCell ⟨c, 2, none⟩ u2) := ((h.other hne u0).other hne u1).other hne u2
theorem below_sets3 {B : Nat} {w W : World} (h : Below B w W) (b : Nat) (hb : B ≤ b) (u0 u1 u2 : Value) :
    Below B w (((W.setCell ⟨b, 0, none⟩ u0).setCell ⟨b, 1, none⟩ u1).setCell ⟨b, 2, none⟩ u2) := below_set (below_set (below_set h b 0 hb u0) b 1 hb u1) b 2 hb u2
theorem KpB.sets3 (b : Nat) (W : World) (u0 u1 u2 : Value) : KpB b W (((W.setCell ⟨b, 0, none⟩ u0).setCell ⟨b, 1, none⟩ u1).setCell ⟨b, 2, none⟩ u2) := (((KpB.refl b W).set 0 u0).set 1 u1).set 2 u2
theorem KpB.sets7 (b : Nat) (W : World) (u0 u1 u2 u3 u4 u5 u6 : Value) : KpB b W (((((((W.setCell ⟨b, 0, none⟩ u0).setCell ⟨b, 1, none⟩ u1).setCell ⟨b, 2, none⟩ u2).setCell ⟨b, 3, none⟩ u3).setCell ⟨b, 4, none⟩ u4).setCell ⟨b, 5, none⟩ u5).setCell ⟨b, 6, none⟩ u6) := (((KpB.refl b W).sets u0 u1 u2 u3 u4).set 5 u5).set 6 u6
/-- no cell of a block is a string -/
theorem StrS.kp {b : Nat} {W W' : World} {v : Value} {L : List (List UInt8)} (h : StrS W v L) (hk : KpB b W W') (hn : ∀ (o : Nat) (s : List UInt8), W.cell? ⟨b, o, none⟩ ≠ some (strV s)) : StrS W' v L := by
  obtain ⟨a, cap, he, hc, hx⟩ := h
  refine ⟨a, cap, he, hc, fun hne => ?_⟩
  obtain ⟨b', off, ha, hcell⟩ := hx hne
  refine ⟨b', off, ha, fun i hi => hk.cell (hcell i hi) ?_⟩
  intro e; subst e; exact hn _ _ (hcell i hi)
theorem none_disk {b : Nat} {W : World} {T : TypeId} {a0 a1 : Option Addr} {l0 l1 c0 c1 : Nat} {i0 i1 : Int} {t : Bool} (h : Bx b #[.slice a0 l0 c0, .slice a1 l1 c1, .int .i64 i0, .int .i64 i1, .bool t] T W) : ∀ (o : Nat) (s : List UInt8), W.cell? ⟨b, o, none⟩ ≠ some (strV s) := by
  intro o s
  rw [h.cell o]
  match o with
  | 0 | 1 | 2 | 3 | 4 => intro e; cases e
  | n + 5 => intro e; simp at e
theorem none_jn {b : Nat} {W : World} {T : TypeId} {i0 i1 i2 i3 i4 i5 i6 : Int} (h : Bx b #[.int .i64 i0, .int .i64 i1, .int .i64 i2, .int .i64 i3, .int .i64 i4, .int .i64 i5, .int .i64 i6] T W) : ∀ (o : Nat) (s : List UInt8), W.cell? ⟨b, o, none⟩ ≠ some (strV s) := by
  intro o s
  rw [h.cell o]
  match o with
  | 0 | 1 | 2 | 3 | 4 | 5 | 6 => intro e; cases e
  | n + 7 => intro e; simp at e
/-- the slice's memory is another block than b -/
def Off (b : Nat) (a : Option Addr) : Prop := ∀ q, a = some q → q.block ≠ b
theorem StrS.kpo {b : Nat} {W W' : World} {a : Option Addr} {n c : Nat} {L : List (List UInt8)} (h : StrS W (.slice a n c) L) (hk : KpB b W W') (ho : Off b a) : StrS W' (.slice a n c) L := by
  obtain ⟨a', cap, he, hc, hx⟩ := h
  cases he
  refine ⟨a, c, rfl, hc, fun hne => ?_⟩
  obtain ⟨b', off, ha, hcell⟩ := hx hne
  exact ⟨b', off, ha, fun i hi => hk.cell (hcell i hi) (ho _ ha)⟩
/-- a disk's sectors and writes do not lie in the box of a content -/
theorem Lists.kpc {b : Nat} {W W' : World} {T : TypeId} {s : List UInt8} {p : Int} {a0 : Option Addr} {n0 m0 : Nat} {sa pa : Option Addr} {sc pc : Nat} {d : Dk} (h : Lists W sa sc pa pc d) (hB : Bx b #[.string (bs s), .int .i64 p,   .slice a0 n0 m0] T W) (hk : KpB b W W') (h2 : 2 ≤ d.S.length) : Lists W' sa sc pa pc d := by
  have c0 : W.cell? ⟨b, 0, none⟩ = some (.string (bs s)) := hB.cell 0
  have c1 : W.cell? ⟨b, 1, none⟩ = some (.int .i64 p) := hB.cell 1
  have c2 : W.cell? ⟨b, 2, none⟩ = some (.slice a0 n0 m0) := hB.cell 2
  have c3 : ∀ o, W.cell? ⟨b, o + 3, none⟩ = none := by intro o; rw [hB.cell]; simp
  obtain ⟨⟨a, cap, he, hc, hx⟩, ⟨a', cap', he', hc', hx'⟩, h3, h4⟩ := h
  refine ⟨⟨a, cap, he, hc, fun hne => ?_⟩, ⟨a', cap', he', hc', fun hne => ?_⟩, h3, h4⟩
  · obtain ⟨b', off, ha, hcell⟩ := hx hne
    refine ⟨b', off, ha, fun i hi => hk.cell (hcell i hi) ?_⟩
    intro e; subst e
    have q0 := hcell 0 (by omega)
    have q1 := hcell 1 (by omega)
    rw [Nat.add_zero] at q0
    match off, q0, q1 with
    | 0, q0, q1 => rw [show (0 : Nat) + 1 = 1 from rfl, c1] at q1; cases q1
    | 1, q0, q1 => rw [c1] at q0; cases q0
    | 2, q0, q1 => rw [c2] at q0; cases q0
    | n + 3, q0, q1 => rw [c3] at q0; cases q0
  · obtain ⟨b', off, ha, hcell⟩ := hx' hne
    refine ⟨b', off, ha, fun i hi => ?_⟩
    have hne2 : b' ≠ b := by
      intro e; subst e
      obtain ⟨q0, q1⟩ := hcell i hi
      generalize off + i * 2 = z at q0 q1
      match z, q0, q1 with
      | 0, q0, q1 => rw [c0] at q0; cases q0
      | 1, q0, q1 => rw [show (1 : Nat) + 1 = 2 from rfl, c2] at q1; cases q1
      | 2, q0, q1 => rw [c2] at q0; cases q0
      | n + 3, q0, q1 => rw [c3] at q0; cases q0
    exact ⟨hk.cell (hcell i hi).1 hne2, hk.cell (hcell i hi).2 hne2⟩
theorem strs_nil {W : World} {a : Option Addr} {c : Nat} (h : StrS W (.slice a 0 c) []) (W' : World) : StrS W' (.slice a 0 c) [] := by
  obtain ⟨a', cap, he, hc, _⟩ := h
  exact ⟨a', cap, he, hc, fun hne => absurd rfl hne⟩
end Go.Proofs.Ytkpfkknldeafkaa
namespace Go.Proofs.Ytkpfkknldeafkaa
open Go.ChangeShapes Go.WideShapes Go.ChangeAt Go.RowKit

theorem bulk_one {H : Type} (d : DataW H) : 1 ≤ Rows.uptoBulk d := by
  cases d with
  | lit l => cases l <;> simp [Rows.uptoBulk]
  | _ => simp [Rows.uptoBulk]
theorem bulk_length {H : Type} (l : List (DataW H)) : l.length ≤ Rows.uptoBulkAll l := by
  induction l with
  | nil => simp [Rows.uptoBulkAll]
  | cons x r ih => have := bulk_one x; simp only [Rows.uptoBulkAll, List.length_cons]; omega
theorem bulk_part {H : Type} {d : DataW H} {l : List (DataW H)} (h : d ∈ l) : Rows.uptoBulk d ≤ Rows.uptoBulkAll l := by
  induction l with
  | nil => cases h
  | cons x r ih =>
    simp only [Rows.uptoBulkAll]
    cases List.mem_cons.1 h with
    | inl e => subst e; omega
    | inr e => have := ih e; omega
theorem bulk_bound {H : Type} {l : List (DataW H)} (hk : Rows.uptoSmall H l = true) : Rows.uptoBulkAll l ≤ 1048576 := of_decide_eq_true hk
theorem upto_len {H : Type} {d : DataW H} {l : List (DataW H)} (hk : Rows.uptoSmall H l = true) (hd : d ∈ l) {n : Nat} (hn : n ≤ Rows.uptoBulk d) : n ≤ 1048576 :=
  Nat.le_trans hn (Nat.le_trans (bulk_part hd) (bulk_bound hk))
section
variable {H : Type} {enc : TypeId × Value → H} {W : World} {base : Nat} {spare : Nat → Bool} {held : Bool}
set_option maxRecDepth 100000 in
theorem bulk_acts {r : Reach} {b0 : Nat} {a : Option Addr} {c n : Nat} {d : DataW H} {p : List MemPlace} (_hv : Value.okWide Try.prog W r b0 70 (.slice a n c)) (h : DataW.Trod enc Try.prog W base spare held 70 (.slice a n c) d p) : n ≤ Rows.uptoBulk d := by
  obtain ⟨fuel, hf⟩ := h
  rcases Deep.open_slice Try.underlying70 hf with ⟨hcs, _⟩ | ⟨a, len, cap, m, fu, D, Pl, hcs, _, hl, _, hm, hx, hi⟩
  · simp [Value.cells] at hcs
    obtain ⟨rfl, rfl, rfl⟩ := hcs
    exact Nat.zero_le _
  · simp [Value.cells] at hcs
    obtain ⟨rfl, rfl, rfl⟩ := hcs
    rw [Prod.mk.injEq] at hx
    rw [hx.1]
    have h1 := bulk_length ((List.range n).map D)
    rw [List.length_map, List.length_range] at h1
    simp only [Rows.uptoBulk]
    omega
end
end Go.Proofs.Ytkpfkknldeafkaa
