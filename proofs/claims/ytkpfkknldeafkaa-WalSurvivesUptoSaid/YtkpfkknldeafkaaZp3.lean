/- What the claim needs of: WalOne. No conditions. -/
import Derived.Test.YtkpfkknldeafkaaZp2
import Derived.Test.YtkpfkknldeafkaaRows
import Derived.WalkKit
import Derived.WalkSpells
import Derived.WalkLawsBesides
import Derived.Lib.SlBytesRow
import Derived.Lib.Hide
import Derived.Laws.Bits64
import Derived.Laws.CopyOwn
import Derived.Lib.BufferWrite
import Derived.Deep.RegionLaw
import Derived.Deep.DeepCutAuto
import Derived.ChangeAlike
import Derived.RegionTactic
import Derived.Deep.RegionHeld3
import Derived.Laws.ResultCell
import Derived.RangeFuncNested
import Derived.RangeFuncBound
import Derived.RangeFuncCalls
import Derived.RangeFuncLeaves
import Derived.Shelf.Abstract
import Derived.Shelf.RegionOpen
import Derived.OwnWalkIn
import Derived.TacticsInMore
import Derived.LoopNIn
import Derived.LoopIn
import Derived.Laws.AppendOwnNone
import Derived.Deep.DeepAppendWide
import Derived.Laws.OwnMore
import Derived.Deep.AppendLies
import Derived.Outline
import Derived.Shelf.Bits.Mul64
import Derived.OrdersIn
import Derived.TacticsIn
import Derived.Deep.QuietTactic
import Derived.BigQuiet
import Derived.Deep.Cut
import Derived.Deep.CutRange
import Derived.ProofKit
import Derived.OpenShut
import Derived.Lib.SmallJoins
import Derived.SliceStrings
import Derived.Deep.Slices
import Derived.SizedLaws
import Derived.ArgAppend
import Derived.Lib.AppendStr
import Derived.Tactics
import Derived.Tactics2
import Derived.Defers
import Derived.Recover
import Derived.Laws.Pointers
namespace Go.Proofs.Ytkpfkknldeafkaa
open Go.RowKit

structure Jn where
  x : Sp
  n : Int
  r : Int
deriving DecidableEq
def j0 : Jn := ⟨sp0, 0, 0⟩
def jnV (j : Jn) : Array Value := #[.int .i64 j.x.g, .int .i64 j.x.e, .int .i64 j.x.a, .int .i64 j.x.z, .int .i64 j.x.p, .int .i64 j.n, .int .i64 j.r]
/-- the number of sectors of an image area, and of the log -/
def arN (d : Dk) : Nat := (d.S.length - 2) / 4
def szN (d : Dk) : Nat := d.S.length - 2 - 2 * arN d
def areasS (d : Dk) : Int × Int × Int := if validB d = true then ((arN d : Int), 2 + 2 * (arN d : Int), (szN d : Int)) else (0, 0, 0)
theorem areas_ok {d : Dk} (h : validB d = true) : areasS d = ((arN d : Int), 2 + 2 * (arN d : Int), (szN d : Int)) := by unfold areasS; rw [if_pos h]
theorem areas_no {d : Dk} (h : validB d = false) : areasS d = (0, 0, 0) := by unfold areasS; rw [if_neg (by rw [h]; simp)]
theorem valid_len {d : Dk} (h : validB d = true) : 16 ≤ d.S.length ∧ d.S.length ≤ 1024 := by
  obtain ⟨h0, _⟩ := (validB_iff d).1 h
  obtain ⟨h1, h2, _⟩ := (numsB_iff d).1 h0
  exact ⟨h1, h2⟩
theorem arN_bounds {d : Dk} (h : validB d = true) : 3 ≤ arN d ∧ arN d ≤ 255 ∧ 8 ≤ szN d ∧ szN d ≤ 1016 ∧ 2 + 2 * arN d + szN d = d.S.length ∧ arN d ≤ szN d := by
  obtain ⟨h1, h2⟩ := valid_len h
  unfold szN arN; omega
/-- n sectors from a sector on -/
def regS (d : Dk) (from_ : Int) (n : Nat) : List (List UInt8) := (List.range n).map fun (i : Nat) => (readS d (from_ + (i : Int))).1
theorem regS_succ (d : Dk) (f : Int) (n : Nat) : regS d f (n + 1) = regS d f n ++ [(readS d (f + (n : Int))).1] := by unfold regS; rw [List.range_succ, List.map_append]; rfl
theorem regS_length (d : Dk) (f : Int) (n : Nat) : (regS d f n).length = n := by unfold regS; simp
theorem regS_le (d : Dk) (f : Int) (n : Nat) : ∀ s ∈ regS d f n, s.length ≤ 9223372036854775807 := by
  intro s hs
  unfold regS at hs
  obtain ⟨i, _, rfl⟩ := List.mem_map.1 hs
  exact read_len d _

theorem join_ok {L : List (List UInt8)} {least most : Int} (h : (joinS L least most).2.2.2 = true) :
    ∃ (rec : List UInt8) (g : Int) (k : Nat), joinS L least most = (rec, g, (k : Int), true) ∧ 1 ≤ k ∧ k ≤ L.length ∧ least ≤ g ∧ g ≤ most ∧ splitS g rec = (L.take k, 0) := by
  unfold joinS at h ⊢
  split at h
  · cases h
  · next s hs =>
    split at h
    · next hc =>
      rw [if_pos hc]
      split at h
      · next hd =>
        rw [if_pos hd]
        obtain ⟨g, p, q, d, ho, hst, _⟩ := openS_ok hc.1
        obtain ⟨_, h2, h3, h4⟩ := hc
        rw [ho] at hd h2 h3 h4 ⊢
        simp only at hd h2 h3 h4
        have hq := ((stampB_iff _ _ _).1 hst).2.2.1
        rw [Int.toNat_natCast] at hd
        refine ⟨cat L q, g, q, ?_, by omega, by omega, h2, h3, hd.2⟩
        simp only [Int.toNat_natCast]
      · cases h
    · cases h

/-- the records at the beginning of sectors, and the number of their sectors -/
def recF : Nat → List (List UInt8) → Int → Int → List (List UInt8) × Nat
  | 0, _, _, _ => ([], 0)
  | f + 1, L, least, most =>
    if (joinS L least most).2.2.2 = true then
      ((joinS L least most).1 :: (recF f (L.drop (joinS L least most).2.2.1.toNat) (joinS L least most).2.1 most).1,
        (joinS L least most).2.2.1.toNat + (recF f (L.drop (joinS L least most).2.2.1.toNat) (joinS L least most).2.1 most).2)
    else ([], 0)
def recS (L : List (List UInt8)) (least most : Int) : List (List UInt8) × Nat := recF L.length L least most
theorem join_nil (least most : Int) : joinS [] least most = joinFail := rfl
theorem recF_fuel : ∀ (f g : Nat) (L : List (List UInt8)) (least most : Int), L.length ≤ f → L.length ≤ g → recF f L least most = recF g L least most := by
  intro f
  induction f with
  | zero =>
    intro g L least most hf hg
    have : L = [] := List.eq_nil_of_length_eq_zero (by omega)
    subst this
    cases g with
    | zero => rfl
    | succ g => unfold recF; rw [join_nil]; rfl
  | succ f ih =>
    intro g L least most hf hg
    cases g with
    | zero =>
      have : L = [] := List.eq_nil_of_length_eq_zero (by omega)
      subst this
      unfold recF; rw [join_nil]; rfl
    | succ g =>
      unfold recF
      by_cases h : (joinS L least most).2.2.2 = true
      · obtain ⟨rec, gn, k, hj, k1, k2, _⟩ := join_ok h
        rw [if_pos h, if_pos h]
        have hl : (L.drop (joinS L least most).2.2.1.toNat).length ≤ f ∧ (L.drop (joinS L least most).2.2.1.toNat).length ≤ g := by
          rw [hj, List.length_drop]; simp only [Int.toNat_natCast]; omega
        rw [ih g _ _ _ hl.1 hl.2]
      · rw [if_neg h, if_neg h]
theorem recS_some {L : List (List UInt8)} {least most : Int} {rec : List UInt8} {g : Int} {k : Nat} (h : joinS L least most = (rec, g, (k : Int), true)) :
    recS L least most = (rec :: (recS (L.drop k) g most).1, k + (recS (L.drop k) g most).2) := by
  have ht : (joinS L least most).2.2.2 = true := by rw [h]
  obtain ⟨rec', g', k', hj, k1, k2, _⟩ := join_ok ht
  rw [h] at hj
  simp only [Prod.mk.injEq, and_true] at hj
  have hkk : k = k' := by omega
  unfold recS
  obtain ⟨n, hn⟩ : ∃ n, L.length = n + 1 := ⟨L.length - 1, by omega⟩
  rw [hn]
  conv => lhs; unfold recF
  rw [if_pos ht, h]
  simp only [Int.toNat_natCast]
  rw [recF_fuel n (L.drop k).length _ _ _ (by rw [List.length_drop]; omega) (Nat.le_refl _)]
theorem recS_none {L : List (List UInt8)} {least most : Int} (h : (joinS L least most).2.2.2 = false) : recS L least most = ([], 0) := by
  unfold recS
  cases L.length with
  | zero => rfl
  | succ n => unfold recF; rw [if_neg (by rw [h]; simp)]
/-- the image of the checkpoint of a superblock -/
def ckS (d : Dk) (x : Sp) : List UInt8 × Bool :=
  if x.a = 0 then ([], true)
  else ((joinS (regS d (2 + (x.a - 1) * (arN d : Int)) (arN d)) x.e x.e).1,
    (joinS (regS d (2 + (x.a - 1) * (arN d : Int)) (arN d)) x.e x.e).2.2.2 && decide (((joinS (regS d (2 + (x.a - 1) * (arN d : Int)) (arN d)) x.e x.e).1.length : Int) = x.z))
/-- the records of the log of a superblock -/
def logS (d : Dk) (x : Sp) : List (List UInt8) × Nat := recS (regS d (2 + 2 * (arN d : Int)) (szN d)) x.e x.g
def sp1 : Sp := ⟨1, 0, 0, 0, 0⟩
def nextS (x : Sp) : Sp := { x with g := x.g + 1 }
structure Opened where
  d : Dk
  j : Jn
  image : List UInt8
  recs : List (List UInt8)
  e : Int
def openW (d : Dk) : Opened :=
  if validB d = true then
    (if (loadS d).2 = 20 then
      (if (storeS d sp1).2 = 0 then ⟨(storeS d sp1).1, ⟨sp1, 0, 0⟩, [], [], 0⟩ else ⟨(storeS d sp1).1, j0, [], [], (storeS d sp1).2⟩)
    else if (loadS d).2 = 0 then
      (if (ckS d (loadS d).1).2 = true then
        (if (loadS d).1.g = 1099511627776 then ⟨d, j0, [], [], 2⟩
         else if (storeS d (nextS (loadS d).1)).2 = 0 then
          ⟨(storeS d (nextS (loadS d).1)).1, ⟨nextS (loadS d).1, ((logS d (loadS d).1).2 : Int), ((logS d (loadS d).1).1.length : Int)⟩, (ckS d (loadS d).1).1, (logS d (loadS d).1).1, 0⟩
         else ⟨(storeS d (nextS (loadS d).1)).1, j0, [], [], (storeS d (nextS (loadS d).1)).2⟩)
      else ⟨d, j0, [], [], 20⟩)
    else ⟨d, j0, [], [], (loadS d).2⟩)
  else ⟨d, j0, [], [], 1⟩

/-- a journal is valid for a disk -/
def jB (d : Dk) (j : Jn) : Bool := spB j.x && decide (0 ≤ j.n ∧ j.n ≤ (areasS d).2.2 ∧ 0 ≤ j.r ∧ j.r ≤ j.n)
def planS (d : Dk) (j : Jn) (rec : List UInt8) : List (List UInt8) × Int :=
  if validB d = true ∧ jB d j = true then
    (if (splitS j.x.g rec).2 = 0 then (if (szN d : Int) - j.n < ((splitS j.x.g rec).1.length : Int) then ([], 17) else ((splitS j.x.g rec).1, 0)) else ([], (splitS j.x.g rec).2))
  else ([], 1)
/-- sectors are written from a sector on, and synced -/
def wrF : List (List UInt8) → Dk → Int → Dk × Int
  | [], d, _ => syncS d
  | s :: r, d, f => if (writeS d f s).2 = 0 then wrF r (writeS d f s).1 (f + 1) else writeS d f s
def appW (d : Dk) (j : Jn) (rec : List UInt8) : Dk × Jn × Int :=
  if (planS d j rec).2 = 0 then
    (if (wrF (planS d j rec).1 d (2 + 2 * (arN d : Int) + j.n)).2 = 0 then ((wrF (planS d j rec).1 d (2 + 2 * (arN d : Int) + j.n)).1, ⟨j.x, j.n + ((planS d j rec).1.length : Int), j.r + 1⟩, 0)
     else ((wrF (planS d j rec).1 d (2 + 2 * (arN d : Int) + j.n)).1, j0, (wrF (planS d j rec).1 d (2 + 2 * (arN d : Int) + j.n)).2))
  else (d, j0, (planS d j rec).2)
def otherA (x : Sp) : Int := if x.a = 1 then 2 else 1
def resX (j : Jn) (image : List UInt8) (pos : Int) : Sp := ⟨j.x.g + 1, j.x.g + 1, otherA j.x, (image.length : Int), pos⟩
/-- what Reset does once the image's sectors are known -/
def resD (d : Dk) (j : Jn) (image : List UInt8) (pos : Int) (L : List (List UInt8)) : Dk × Int :=
  if (wrF L d (2 + (otherA j.x - 1) * (arN d : Int))).2 = 0 then storeS (wrF L d (2 + (otherA j.x - 1) * (arN d : Int))).1 (resX j image pos) else wrF L d (2 + (otherA j.x - 1) * (arN d : Int))
def resArg (d : Dk) (j : Jn) (image : List UInt8) (pos : Int) : Bool := validB d && (jB d j && (decide (image ≠ []) && (decide (0 ≤ pos) && decide (pos ≤ 1099511627776))))
def resE (d : Dk) (j : Jn) (image : List UInt8) (pos : Int) : Int :=
  if resArg d j image pos = true then
    (if 16384 < image.length ∨ j.x.g = 1099511627776 then 2
     else if (splitS (j.x.g + 1) image).2 = 0 then (if arN d < (splitS (j.x.g + 1) image).1.length then 17 else 0) else (splitS (j.x.g + 1) image).2)
  else 1
def resW (d : Dk) (j : Jn) (image : List UInt8) (pos : Int) : Dk × Jn × Int :=
  if resE d j image pos = 0 then
    (if (resD d j image pos (splitS (j.x.g + 1) image).1).2 = 0 then ((resD d j image pos (splitS (j.x.g + 1) image).1).1, ⟨resX j image pos, 0, 0⟩, 0)
     else ((resD d j image pos (splitS (j.x.g + 1) image).1).1, j0, (resD d j image pos (splitS (j.x.g + 1) image).1).2))
  else (d, j0, resE d j image pos)
end Go.Proofs.Ytkpfkknldeafkaa

namespace Go.Proofs.Ytkpfkknldeafkaa
open Go.RowKit

def dropV (a : Option Addr) (len cap k : Nat) : Value := .slice (if cap = k then a else a.map (·.add k)) (len - k) (cap - k)
theorem run_slice_from {P : Program} {w : World} (t e : TypeId) (i : TypeInfo) (ht : P.underlying t = some (.slice e)) (hi : P.info? e = some i) (hz : i.size = 1) (a : Option Addr) (len cap k : Nat) (hk : k ≤ len) :
    (Instr.slice t (.slice a len cap) (some (.int .i64 (k : Int))) none none).run P w = .ok (dropV a len cap k) w := by
  simp [Instr.slice, Instr.sliceBounds, Instr.sliceBound, run_underlying ht, sizeOf, typeInfo, hi, hz, asIntOf, dropV, hk]
theorem run_slice_strs {w : World} (a : Option Addr) (len cap k : Nat) (hk : k ≤ len) :
    (Instr.slice 35 (.slice a len cap) (some (.int .i64 (k : Int))) none none).run Try.prog w = .ok (dropV a len cap k) w := by
  obtain ⟨i0, hi, hz0, hz1, hz2⟩ := info_parts Try.info9
  exact run_slice_from 35 9 i0 Try.underlying35 hi hz1 a len cap k hk
theorem StrS.drop {W : World} {a : Option Addr} {cap : Nat} {L : List (List UInt8)} (h : StrS W (.slice a L.length cap) L) (k : Nat) (hk : k ≤ L.length) : StrS W (dropV a L.length cap k) (L.drop k) := by
  obtain ⟨a', cap', he, hc, hL⟩ := h
  simp only [Value.slice.injEq, true_and] at he
  obtain ⟨rfl, rfl⟩ := he
  unfold dropV
  refine ⟨_, cap - k, by rw [List.length_drop], by rw [List.length_drop]; omega, fun hne => ?_⟩
  have hkl : k < L.length := by
    rcases Nat.lt_or_ge k L.length with h' | h'
    · exact h'
    · exact absurd (List.drop_of_length_le h') hne
  obtain ⟨b, off, rfl, hcell⟩ := hL (by intro h0; rw [h0] at hkl; simp at hkl)
  refine ⟨b, off + k, ?_, fun i hi => ?_⟩
  · rw [if_neg (by omega)]
    simp [Addr.add]
  · rw [List.length_drop] at hi
    rw [List.getElem_drop, Nat.add_assoc]
    exact hcell (k + i) (by omega)
theorem StrS.len {W : World} {v : Value} {L : List (List UInt8)} (h : StrS W v L) : ∃ a cap, v = .slice a L.length cap := by
  obtain ⟨a, cap, h, _⟩ := h
  exact ⟨a, cap, h⟩

/-! ### seven cells -/
theorem Bx.sets7 {b : Nat} {T : TypeId} {W : World} {z0 z1 z2 z3 z4 z5 z6 : Value} (h : Bx b #[z0, z1, z2, z3, z4, z5, z6] T W) (u0 u1 u2 u3 u4 u5 u6 : Value) :
    Bx b #[u0, u1, u2, u3, u4, u5, u6] T (((((((W.setCell ⟨b, 0, none⟩ u0).setCell ⟨b, 1, none⟩ u1).setCell ⟨b, 2, none⟩ u2).setCell ⟨b, 3, none⟩ u3).setCell ⟨b, 4, none⟩ u4).setCell ⟨b, 5, none⟩ u5).setCell ⟨b, 6, none⟩ u6) := by
  have := ((((((h.set 0 u0).set 1 u1).set 2 u2).set 3 u3).set 4 u4).set 5 u5).set 6 u6
  simpa using this
theorem Bx.sets7_ne {b c : Nat} {cs : Array Value} {T : TypeId} {W : World} (h : Bx b cs T W) (hne : b ≠ c) (u0 u1 u2 u3 u4 u5 u6 : Value) :
    Bx b cs T (((((((W.setCell ⟨c, 0, none⟩ u0).setCell ⟨c, 1, none⟩ u1).setCell ⟨c, 2, none⟩ u2).setCell ⟨c, 3, none⟩ u3).setCell ⟨c, 4, none⟩ u4).setCell ⟨c, 5, none⟩ u5).setCell ⟨c, 6, none⟩ u6) :=
  ((((((h.other hne u0).other hne u1).other hne u2).other hne u3).other hne u4).other hne u5).other hne u6
theorem below_sets7 {B : Nat} {w W : World} (h : Below B w W) (b : Nat) (hb : B ≤ b) (u0 u1 u2 u3 u4 u5 u6 : Value) :
    Below B w (((((((W.setCell ⟨b, 0, none⟩ u0).setCell ⟨b, 1, none⟩ u1).setCell ⟨b, 2, none⟩ u2).setCell ⟨b, 3, none⟩ u3).setCell ⟨b, 4, none⟩ u4).setCell ⟨b, 5, none⟩ u5).setCell ⟨b, 6, none⟩ u6) :=
  below_set (below_set (below_sets h b hb u0 u1 u2 u3 u4) b 5 hb u5) b 6 hb u6
theorem Owned.sets7 {B : Nat} {d : Dk} {w : World} {vs vp : Value} (h : Owned B d w vs vp) (b : Nat) (hb : b < B) (u0 u1 u2 u3 u4 u5 u6 : Value) :
    Owned B d (((((((w.setCell ⟨b, 0, none⟩ u0).setCell ⟨b, 1, none⟩ u1).setCell ⟨b, 2, none⟩ u2).setCell ⟨b, 3, none⟩ u3).setCell ⟨b, 4, none⟩ u4).setCell ⟨b, 5, none⟩ u5).setCell ⟨b, 6, none⟩ u6) vs vp :=
  ((h.sets b hb u0 u1 u2 u3 u4).set b 5 hb u5).set b 6 hb u6
theorem own_sets5 {B : Nat} {e : TypeId} {k : Nat} {v : Value} {n : Nat} {xs : List Value} {w : World} (h : w.ownsRow B e k v n xs) (b : Nat) (hb : b < B) (u0 u1 u2 u3 u4 : Value) :
    (((((w.setCell ⟨b, 0, none⟩ u0).setCell ⟨b, 1, none⟩ u1).setCell ⟨b, 2, none⟩ u2).setCell ⟨b, 3, none⟩ u3).setCell ⟨b, 4, none⟩ u4).ownsRow B e k v n xs :=
  own_set (own_set (own_set (own_set (own_set h b 0 hb u0) b 1 hb u1) b 2 hb u2) b 3 hb u3) b 4 hb u4
theorem own_sets7 {B : Nat} {e : TypeId} {k : Nat} {v : Value} {n : Nat} {xs : List Value} {w : World} (h : w.ownsRow B e k v n xs) (b : Nat) (hb : b < B) (u0 u1 u2 u3 u4 u5 u6 : Value) :
    (((((((w.setCell ⟨b, 0, none⟩ u0).setCell ⟨b, 1, none⟩ u1).setCell ⟨b, 2, none⟩ u2).setCell ⟨b, 3, none⟩ u3).setCell ⟨b, 4, none⟩ u4).setCell ⟨b, 5, none⟩ u5).setCell ⟨b, 6, none⟩ u6).ownsRow B e k v n xs :=
  own_set (own_set (own_sets5 h b hb u0 u1 u2 u3 u4) b 5 hb u5) b 6 hb u6
end Go.Proofs.Ytkpfkknldeafkaa

namespace Go.Proofs.Ytkpfkknldeafkaa
open Go.RowKit

set_option maxRecDepth 100000 in
set_option maxHeartbeats 4000000 in
theorem clone_w (sa pa : Option Addr) (sc pc : Nat) (d : Dk) (w : World) (hD : Lists w sa sc pa pc d) :
    Calls Try.prog 71 #[.agg #[.slice sa d.S.length sc, .slice pa d.P.length pc, .int .i64 d.fuse, .int .i64 d.ops, .bool d.dead]] w (ClonePost d w) := by
  have hX := (Bx.new w #[.slice sa d.S.length sc, .slice pa d.P.length pc, .int .i64 d.fuse, .int .i64 d.ops, .bool d.dead] 38).alloc (.cells #[.slice none 0 0, .slice none 0 0, .int .i64 0, .int .i64 0, .bool false] 38)
  have hR := Bx.new1 w (.cells #[.slice sa d.S.length sc, .slice pa d.P.length pc, .int .i64 d.fuse, .int .i64 d.ops, .bool d.dead] 38) #[.slice none 0 0, .slice none 0 0, .int .i64 0, .int .i64 0, .bool false] 38
  have hb0 := ((Below.refl w.heap.size w).alloc (Nat.le_refl _) (.cells #[.slice sa d.S.length sc, .slice pa d.P.length pc, .int .i64 d.fuse, .int .i64 d.ops, .bool d.dead] 38)).alloc (by simp) (.cells #[.slice none 0 0, .slice none 0 0, .int .i64 0, .int .i64 0, .bool false] 38)
  have hsz0 : ((w.alloc (.cells #[.slice sa d.S.length sc, .slice pa d.P.length pc, .int .i64 d.fuse, .int .i64 d.ops, .bool d.dead] 38)).alloc (.cells #[.slice none 0 0, .slice none 0 0, .int .i64 0, .int .i64 0, .bool false] 38)).heap.size = w.heap.size + 2 := by simp
  obtain ⟨i0, hi, hz0, hz1, hz2⟩ := info_parts Try.info9
  obtain ⟨i1, hi', hz0', hz1', hz2'⟩ := info_parts infoWrite
  have l3 := hD.2.2.1
  have l4 := hD.2.2.2
  have HD := Lib.hid hD; clear hD
  go_enter Try.func71, Try.ntmps71
  go_upto_region 1 with (fail)
  generalize hW0 : (w.alloc (.cells #[.slice sa d.S.length sc, .slice pa d.P.length pc, .int .i64 d.fuse, .int .i64 d.ops, .bool d.dead] 38)).alloc (.cells #[.slice none 0 0, .slice none 0 0, .int .i64 0, .int .i64 0, .bool false] 38) = w0 at hX hR hb0 hsz0 ⊢
  clear hW0
  have HX0 := Lib.hid hX; have HR0 := Lib.hid hR; have HB0 := Lib.hid hb0; have HZ0 := Lib.hid hsz0; clear hX hR hb0 hsz0
  have hC := CellsAt.of_strs (HD.out.below HB0.out).1
  have HC := Lib.hid hC; clear hC
  have x0 : w0.cell? ⟨w.heap.size, 0, none⟩ = some (.slice sa d.S.length sc) := HX0.out.cell 0
  go_wp2_with (at_builtin; refine wpList_append_any rfl _ _ 35 rfl w0.heap.size 9 i0 (.string ⟨#[]⟩) 1 16 Try.underlying35 hi hz0 hz1 hz2 rfl (by decide) (.slice none 0 0) (.slice sa d.S.length sc) 0 d.S.length [] (d.S.map strV) rfl (World.ownsRow_nil _ _ _ _) rfl HC.out (by simp) (by intro u hu; obtain ⟨l, _, rfl⟩ := List.mem_map.1 hu; rfl) (by unfold maxLen; omega) (by omega) w0 w0.heap.size (Below.refl _ _) (Nat.le_refl _) (Nat.le_refl _) ?_)
  intro v1 w1 hown1 hb1 _
  clear x0
  obtain ⟨a1, c1, rfl⟩ := own_slice hown1
  have HX1 := Lib.hid (HX0.out.call hb1); have HR1 := Lib.hid (HR0.out.call hb1); have HB1 := Lib.hid (btrans HB0.out HB0.out.size hb1)
  have x0 : w1.cell? ⟨w.heap.size, 0, none⟩ = some (.slice sa d.S.length sc) := HX1.out.cell 0
  have f0 := HX1.out.free 0
  have hne1 : (Value.slice a1 d.S.length c1).ownBlock ≠ some w.heap.size := by intro e; have := (hown1.lt _ e).1; have := HZ0.out; omega
  have HO1 := Lib.hid (own_set2 hown1 w.heap.size 0 hne1 (.slice a1 d.S.length c1)); have HX2 := Lib.hid (HX1.out.set 0 (.slice a1 d.S.length c1)); have HR2 := Lib.hid (HR1.out.other (c := w.heap.size) (i := 0) (by omega) (.slice a1 d.S.length c1)); have HB2 := Lib.hid (below_set HB1.out w.heap.size 0 (Nat.le_refl _) (.slice a1 d.S.length c1))
  have hs1 := hb1.size
  clear hown1 hb1 hne1
  go_upto_region 2 with (fail)
  generalize hW1 : w1.setCell ⟨w.heap.size, 0, none⟩ (.slice a1 d.S.length c1) = w2 at HO1 HX2 HR2 HB2 ⊢
  have HS2 := Lib.hid (show w2.heap.size = w1.heap.size by rw [← hW1]; simp)
  clear hW1 x0 f0
  have hX2 := HX2.out
  simp only [List.setIfInBounds_toArray, List.set_cons_zero] at hX2
  have HXE := Lib.hid hX2; clear hX2
  have hC := CellsAt.of_wr (HD.out.below HB2.out).2.1
  have HC2 := Lib.hid hC; clear hC
  have x1 : w2.cell? ⟨w.heap.size, 1, none⟩ = some (.slice pa d.P.length pc) := HXE.out.cell 1
  go_wp2_with (at_builtin; refine wpList_append_any rfl _ _ 36 rfl w2.heap.size 94 i1 (.agg #[.int .i64 0, .string ⟨#[]⟩]) 2 24 Try.underlying36 hi' hz0' hz1' hz2' rfl (by decide) (.slice none 0 0) (.slice pa d.P.length pc) 0 d.P.length [] (wcs d.P) rfl (World.ownsRow_nil _ _ _ _) rfl HC2.out (wcs_length _) (wcs_one _) (by unfold maxLen; omega) (by omega) w2 w2.heap.size (Below.refl _ _) (Nat.le_refl _) (Nat.le_refl _) ?_)
  intro v3 w3 hown3 hb3 _
  clear x1
  obtain ⟨a2, c2, rfl⟩ := own_slice hown3
  have HX3 := Lib.hid (HXE.out.call hb3); have HR3 := Lib.hid (HR2.out.call hb3); have HB3 := Lib.hid (btrans HB2.out HB2.out.size hb3)
  have x1 : w3.cell? ⟨w.heap.size, 1, none⟩ = some (.slice pa d.P.length pc) := HX3.out.cell 1
  have f1 := HX3.out.free 1
  have hOw : Owned (w.heap.size + 2) d w3 (.slice a1 d.S.length c1) (.slice a2 d.P.length c2) := by
    refine ⟨w2.heap.size, ?_, fun g hg => ?_, own_mono (own_below HO1.out hb3) (by rw [HZ0.out]; exact Nat.le_refl _), hown3, hb3.size⟩
    · have := HZ0.out; have := HS2.out; omega
    · have := (HO1.out.lt g hg).2; omega
  have HO4 := Lib.hid (hOw.set w.heap.size 1 (by omega) (.slice a2 d.P.length c2)); have HX4 := Lib.hid (HX3.out.set 1 (.slice a2 d.P.length c2)); have HR4 := Lib.hid (HR3.out.other (c := w.heap.size) (i := 1) (by omega) (.slice a2 d.P.length c2)); have HB4 := Lib.hid (below_set HB3.out w.heap.size 1 (Nat.le_refl _) (.slice a2 d.P.length c2))
  clear hOw hown3 hb3
  go_upto_region 3 with (fail)
  generalize hW3 : w3.setCell ⟨w.heap.size, 1, none⟩ (.slice a2 d.P.length c2) = w4 at HO4 HX4 HR4 HB4 ⊢
  clear hW3 x1 f1
  have hX4 := HX4.out
  simp only [List.setIfInBounds_toArray, List.set_cons_zero, List.set_cons_succ] at hX4
  have x0 : w4.cell? ⟨w.heap.size, 0, none⟩ = some (.slice a1 d.S.length c1) := hX4.cell 0
  have x1 : w4.cell? ⟨w.heap.size, 1, none⟩ = some (.slice a2 d.P.length c2) := hX4.cell 1
  have x2 : w4.cell? ⟨w.heap.size, 2, none⟩ = some (.int .i64 d.fuse) := hX4.cell 2
  have x3 : w4.cell? ⟨w.heap.size, 3, none⟩ = some (.int .i64 d.ops) := hX4.cell 3
  have x4 : w4.cell? ⟨w.heap.size, 4, none⟩ = some (.bool d.dead) := hX4.cell 4
  clear hX4
  have r0 : w4.cell? ⟨w.heap.size + 1, 0, none⟩ = some (.slice none 0 0) := HR4.out.cell 0
  have r1 : w4.cell? ⟨w.heap.size + 1, 1, none⟩ = some (.slice none 0 0) := HR4.out.cell 1
  have r2 : w4.cell? ⟨w.heap.size + 1, 2, none⟩ = some (.int .i64 0) := HR4.out.cell 2
  have r3 : w4.cell? ⟨w.heap.size + 1, 3, none⟩ = some (.int .i64 0) := HR4.out.cell 3
  have r4 : w4.cell? ⟨w.heap.size + 1, 4, none⟩ = some (.bool false) := HR4.out.cell 4
  have g0 := HR4.out.free 0
  have g1 := HR4.out.free 1
  have g2 := HR4.out.free 2
  have g3 := HR4.out.free 3
  have g4 := HR4.out.free 4
  have KK := Lib.hid (HR4.out.sets (.slice a1 d.S.length c1) (.slice a2 d.P.length c2) (.int .i64 d.fuse) (.int .i64 d.ops) (.bool d.dead))
  go_wp2
  have k0 := KK.out.cell 0
  have k1 := KK.out.cell 1
  have k2 := KK.out.cell 2
  have k3 := KK.out.cell 3
  have k4 := KK.out.cell 4
  simp only [List.getElem?_toArray, List.getElem?_cons_zero, List.getElem?_cons_succ] at k0 k1 k2 k3 k4
  refine bodyPost_ret (v := .agg #[.slice a1 d.S.length c1, .slice a2 d.P.length c2, .int .i64 d.fuse, .int .i64 d.ops, .bool d.dead]) (by simp [results, Try.results71, go_sem, k0, k1, k2, k3, k4]) rfl ⟨a1, c1, a2, c2, rfl, ?_, ?_⟩
  · exact (HO4.out.sets (w.heap.size + 1) (by omega) _ _ _ _ _).mono (by omega)
  · exact below_sets HB4.out (w.heap.size + 1) (by omega) _ _ _ _ _
set_option maxRecDepth 100000 in
set_option maxHeartbeats 4000000 in
theorem Areas_any (sa pa : Option Addr) (sc pc : Nat) (d : Dk) (w : World) (hD : Lists w sa sc pa pc d) :
    Calls Try.prog 37 #[.agg #[.slice sa d.S.length sc, .slice pa d.P.length pc, .int .i64 d.fuse, .int .i64 d.ops, .bool d.dead]] w fun e w' => e = .returned (.tuple #[.int .i64 (areasS d).1, .int .i64 (areasS d).2.1, .int .i64 (areasS d).2.2]) ∧ Below w.heap.size w w' := by
  have hb0 := ((Below.refl w.heap.size w).alloc (Nat.le_refl _) (.cells #[.slice sa d.S.length sc, .slice pa d.P.length pc, .int .i64 d.fuse, .int .i64 d.ops, .bool d.dead] 38))
  have h_HX := (Bx.new w #[.slice sa d.S.length sc, .slice pa d.P.length pc, .int .i64 d.fuse, .int .i64 d.ops, .bool d.dead] 38)
  have HB := Lib.hid hb0; have HX := Lib.hid h_HX
  clear hb0 h_HX
  have HD := Lib.hid (hD.below HB.out)
  go_enter Try.func37, Try.ntmps37
  go_upto_region 1 with (fail)
  generalize hW0 : w.alloc (.cells #[.slice sa d.S.length sc, .slice pa d.P.length pc, .int .i64 d.fuse, .int .i64 d.ops, .bool d.dead] 38) = v0 at HB HD HX ⊢
  clear hW0
  have x0 : v0.cell? ⟨w.heap.size, 0, none⟩ = some (.slice sa d.S.length sc) := HX.out.cell 0
  have x1 : v0.cell? ⟨w.heap.size, 1, none⟩ = some (.slice pa d.P.length pc) := HX.out.cell 1
  have x2 : v0.cell? ⟨w.heap.size, 2, none⟩ = some (.int .i64 d.fuse) := HX.out.cell 2
  have x3 : v0.cell? ⟨w.heap.size, 3, none⟩ = some (.int .i64 d.ops) := HX.out.cell 3
  have x4 : v0.cell? ⟨w.heap.size, 4, none⟩ = some (.bool d.dead) := HX.out.cell 4
  cases hv : validB d with
  | false =>
    have HV := Lib.hid hv; clear hv
    go_wp2_with fail
    refine (Valid_any _ _ _ _ d _ HD.out).mono ?_
    rw [HV.out]
    rintro e w1 ⟨rfl, hb1⟩
    clear x0 x1 x2 x3 x4
    go_wp2_with fail
    go_ret3
    rw [areas_no HV.out]
    exact ⟨rfl, btrans HB.out HB.out.size hb1⟩
  | true =>
    have HV := Lib.hid hv
    obtain ⟨s1, s2⟩ := valid_len hv
    clear hv
    go_wp2_with fail
    refine (Valid_any _ _ _ _ d _ HD.out).mono ?_
    rw [HV.out]
    rintro e w1 ⟨rfl, hb1⟩
    clear x0 x1 x2 x3 x4
    have HX1 := Lib.hid (HX.out.call hb1); have HB1 := Lib.hid (btrans HB.out HB.out.size hb1); clear hb1
    have x0 : w1.cell? ⟨w.heap.size, 0, none⟩ = some (.slice sa d.S.length sc) := HX1.out.cell 0
    obtain ⟨a, ha⟩ : ∃ a : Nat, a = arN d := ⟨_, rfl⟩
    have hq : ((d.S.length : Int) - 2) / 4 = (a : Int) := by rw [ha]; unfold arN; omega
    have hz : (szN d : Int) = (d.S.length : Int) - 2 - 2 * (a : Int) := by rw [ha]; unfold szN arN; omega
    have ha2 : a ≤ 255 := by omega
    have har : areasS d = (((d.S.length : Int) - 2) / 4, 2 + 2 * (a : Int), (d.S.length : Int) - 2 - 2 * (a : Int)) := by rw [areas_ok HV.out, ← ha, hz, hq]
    have HAR := Lib.hid har; clear ha hz har
    go_wp2_with fail
    go_ret3
    rw [HAR.out]
    exact ⟨rfl, HB1.out⟩
set_option maxRecDepth 100000 in
set_option maxHeartbeats 4000000 in
theorem region_any (sa pa : Option Addr) (sc pc : Nat) (d : Dk) (f : Int) (n : Nat) (w : World) (hD : Lists w sa sc pa pc d) (f0 : 0 ≤ f) (f1 : f ≤ 1000000) (n1 : n ≤ 1000000) :
    Calls Try.prog 109 #[.agg #[.slice sa d.S.length sc, .slice pa d.P.length pc, .int .i64 d.fuse, .int .i64 d.ops, .bool d.dead], .int .i64 f, .int .i64 (n : Int)] w fun e w' => ∃ v, e = .returned v ∧ w'.ownsRow w.heap.size 9 1 v (regS d f n).length ((regS d f n).map strV) ∧ Below w.heap.size w w' := by
  have hb0 := ((Below.refl w.heap.size w).alloc (Nat.le_refl _) (.cells #[.slice sa d.S.length sc, .slice pa d.P.length pc, .int .i64 d.fuse, .int .i64 d.ops, .bool d.dead] 38))
  have h_HX := (Bx.new w #[.slice sa d.S.length sc, .slice pa d.P.length pc, .int .i64 d.fuse, .int .i64 d.ops, .bool d.dead] 38)
  have HB := Lib.hid hb0; have HX := Lib.hid h_HX
  clear hb0 h_HX
  have HD := Lib.hid (hD.below HB.out)
  go_enter Try.func109, Try.ntmps109
  go_upto_region 1 with (fail)
  generalize hW0 : w.alloc (.cells #[.slice sa d.S.length sc, .slice pa d.P.length pc, .int .i64 d.fuse, .int .i64 d.ops, .bool d.dead] 38) = v0 at HB HD HX ⊢
  clear hW0
  go_wp2
  go_loopw [7, 12] (fun v i wr => ∃ k : Nat, k ≤ n ∧ i = .int .i64 k ∧ wr.ownsRow v0.heap.size 9 1 v (regS d f k).length ((regS d f k).map strV) ∧ Below v0.heap.size v0 wr) (fun _ i _ => n - (intOf i).toNat)
  case atStart => exact ⟨0, Nat.zero_le _, rfl, World.ownsRow_nil _ _ _ _, Below.refl _ _⟩
  case round =>
    obtain ⟨k, hk, rfl, hown, h3⟩ := hrel
    have HO := Lib.hid hown; have HE := Lib.hid h3; have HX1 := Lib.hid (HX.out.call h3); have HD1 := Lib.hid (HD.out.below h3); clear hown h3
    by_cases hlt : k < n
    · have hlt2 : (k : Int) < (n : Int) := by omega
      have x0 : wr.cell? ⟨w.heap.size, 0, none⟩ = some (.slice sa d.S.length sc) := HX1.out.cell 0
      have x1 : wr.cell? ⟨w.heap.size, 1, none⟩ = some (.slice pa d.P.length pc) := HX1.out.cell 1
      have x2 : wr.cell? ⟨w.heap.size, 2, none⟩ = some (.int .i64 d.fuse) := HX1.out.cell 2
      have x3 : wr.cell? ⟨w.heap.size, 3, none⟩ = some (.int .i64 d.ops) := HX1.out.cell 3
      have x4 : wr.cell? ⟨w.heap.size, 4, none⟩ = some (.bool d.dead) := HX1.out.cell 4
      go_wp2_with fail
      refine (Read_any _ _ _ _ d _ _ HD1.out).mono ?_
      rintro e w1 ⟨rfl, hb1⟩
      clear x0 x1 x2 x3 x4
      have hown1 := own_below HO.out hb1; have hbel1 := btrans HE.out HE.out.size hb1
      clear hb1
      go_wp2_with (at_builtin; refine wpList_append_str rfl _ _ rfl v0.heap.size _ (regS d f k) (readS d (f + (k : Int))).1 hown1 rfl rfl (by rw [regS_length]; omega) v0 hbel1 hbel1.size ?_; intro v2 w2 hown2 hbel2 _)
      rw [← regS_succ] at hown2
      go_wp2
      go_roundw
      case rel => exact ⟨k + 1, by omega, by go_num, hown2, hbel2⟩
      case measure => simp [intOf]; omega
    · obtain rfl : k = n := by omega
      go_wp2
      go_ret
      exact ⟨_, rfl, own_mono HO.out HB.out.size, btrans HB.out HB.out.size HE.out⟩
set_option maxRecDepth 100000 in
set_option maxHeartbeats 4000000 in
theorem validW_any (sa pa : Option Addr) (sc pc : Nat) (d : Dk) (j : Jn) (w : World) (hD : Lists w sa sc pa pc d) :
    Calls Try.prog 84 #[.agg #[.slice sa d.S.length sc, .slice pa d.P.length pc, .int .i64 d.fuse, .int .i64 d.ops, .bool d.dead], .agg (jnV j)] w fun e w' => e = .returned (.bool (jB d j)) ∧ Below w.heap.size w w' := by
  obtain ⟨⟨a, fr, z⟩, hz⟩ : ∃ r, areasS d = r := ⟨_, rfl⟩
  have hjb : jB d j = (spB j.x && decide (0 ≤ j.n ∧ j.n ≤ z ∧ 0 ≤ j.r ∧ j.r ≤ j.n)) := by unfold jB; rw [hz]
  have HZ := Lib.hid hz; have HJB := Lib.hid hjb; clear hz hjb
  simp only [jnV]
  have hb0 := (((Below.refl w.heap.size w).alloc (Nat.le_refl _) (.cells #[.slice sa d.S.length sc, .slice pa d.P.length pc, .int .i64 d.fuse, .int .i64 d.ops, .bool d.dead] 38)).alloc (by simp) (.cells #[.int .i64 j.x.g, .int .i64 j.x.e, .int .i64 j.x.a, .int .i64 j.x.z, .int .i64 j.x.p, .int .i64 j.n, .int .i64 j.r] 57))
  have h_HX := ((Bx.new w #[.slice sa d.S.length sc, .slice pa d.P.length pc, .int .i64 d.fuse, .int .i64 d.ops, .bool d.dead] 38).alloc (.cells #[.int .i64 j.x.g, .int .i64 j.x.e, .int .i64 j.x.a, .int .i64 j.x.z, .int .i64 j.x.p, .int .i64 j.n, .int .i64 j.r] 57))
  have h_HJ := (Bx.new (w.alloc (.cells #[.slice sa d.S.length sc, .slice pa d.P.length pc, .int .i64 d.fuse, .int .i64 d.ops, .bool d.dead] 38)) #[.int .i64 j.x.g, .int .i64 j.x.e, .int .i64 j.x.a, .int .i64 j.x.z, .int .i64 j.x.p, .int .i64 j.n, .int .i64 j.r] 57)
  rw [show (w.alloc (.cells #[.slice sa d.S.length sc, .slice pa d.P.length pc, .int .i64 d.fuse, .int .i64 d.ops, .bool d.dead] 38)).heap.size = w.heap.size + 1 by simp] at h_HJ
  have HB := Lib.hid hb0; have HX := Lib.hid h_HX; have HJ := Lib.hid h_HJ
  clear hb0 h_HX h_HJ
  have HD := Lib.hid (hD.below HB.out)
  go_enter Try.func84, Try.ntmps84
  go_upto_region 1 with (fail)
  generalize hW0 : (w.alloc (.cells #[.slice sa d.S.length sc, .slice pa d.P.length pc, .int .i64 d.fuse, .int .i64 d.ops, .bool d.dead] 38)).alloc (.cells #[.int .i64 j.x.g, .int .i64 j.x.e, .int .i64 j.x.a, .int .i64 j.x.z, .int .i64 j.x.p, .int .i64 j.n, .int .i64 j.r] 57) = v0 at HB HD HX HJ ⊢
  clear hW0
  have x0 : v0.cell? ⟨w.heap.size, 0, none⟩ = some (.slice sa d.S.length sc) := HX.out.cell 0
  have x1 : v0.cell? ⟨w.heap.size, 1, none⟩ = some (.slice pa d.P.length pc) := HX.out.cell 1
  have x2 : v0.cell? ⟨w.heap.size, 2, none⟩ = some (.int .i64 d.fuse) := HX.out.cell 2
  have x3 : v0.cell? ⟨w.heap.size, 3, none⟩ = some (.int .i64 d.ops) := HX.out.cell 3
  have x4 : v0.cell? ⟨w.heap.size, 4, none⟩ = some (.bool d.dead) := HX.out.cell 4
  go_wp2_with fail
  refine (Areas_any _ _ _ _ d _ HD.out).mono ?_
  rw [HZ.out]
  rintro e w1 ⟨rfl, hb1⟩
  clear x0 x1 x2 x3 x4
  have HJ1 := Lib.hid (HJ.out.call hb1); have HB1 := Lib.hid (btrans HB.out HB.out.size hb1); clear hb1
  have y0 : w1.cell? ⟨(w.heap.size + 1), 0, none⟩ = some (.int .i64 j.x.g) := HJ1.out.cell 0
  have y1 : w1.cell? ⟨(w.heap.size + 1), 1, none⟩ = some (.int .i64 j.x.e) := HJ1.out.cell 1
  have y2 : w1.cell? ⟨(w.heap.size + 1), 2, none⟩ = some (.int .i64 j.x.a) := HJ1.out.cell 2
  have y3 : w1.cell? ⟨(w.heap.size + 1), 3, none⟩ = some (.int .i64 j.x.z) := HJ1.out.cell 3
  have y4 : w1.cell? ⟨(w.heap.size + 1), 4, none⟩ = some (.int .i64 j.x.p) := HJ1.out.cell 4
  have y5 : w1.cell? ⟨(w.heap.size + 1), 5, none⟩ = some (.int .i64 j.n) := HJ1.out.cell 5
  have y6 : w1.cell? ⟨(w.heap.size + 1), 6, none⟩ = some (.int .i64 j.r) := HJ1.out.cell 6
  cases hs : spB j.x with
  | false =>
    have HS := Lib.hid hs; clear hs
    go_wp2_with fail
    refine (SValid_any j.x _).mono ?_
    rw [HS.out]
    rintro e w2 ⟨rfl, hb2⟩
    have z5 := cell1_below y5 hb2
    have z6 := cell1_below y6 hb2
    clear y0 y1 y2 y3 y4 y5 y6
    have HB2 := Lib.hid (btrans HB1.out HB1.out.size hb2); clear hb2
    go_wp2_with fail
    go_ret
    rw [show jB d j = false by rw [HJB.out, HS.out]; rfl]
    exact ⟨rfl, HB2.out⟩
  | true =>
    have HS := Lib.hid hs; clear hs
    by_cases c0 : 0 ≤ j.n
    rotate_left
    · skip
      go_wp2_with fail
      refine (SValid_any j.x _).mono ?_
      rw [HS.out]
      rintro e w2 ⟨rfl, hb2⟩
      have z5 := cell1_below y5 hb2
      have z6 := cell1_below y6 hb2
      clear y0 y1 y2 y3 y4 y5 y6
      have HB2 := Lib.hid (btrans HB1.out HB1.out.size hb2); clear hb2
      go_wp2_with fail
      go_ret
      rw [show jB d j = false by rw [HJB.out, HS.out]; rw [Bool.true_and]; simp only [decide_eq_false_iff_not]; omega]
      exact ⟨rfl, HB2.out⟩
    by_cases c1 : j.n ≤ z
    rotate_left
    · skip
      go_wp2_with fail
      refine (SValid_any j.x _).mono ?_
      rw [HS.out]
      rintro e w2 ⟨rfl, hb2⟩
      have z5 := cell1_below y5 hb2
      have z6 := cell1_below y6 hb2
      clear y0 y1 y2 y3 y4 y5 y6
      have HB2 := Lib.hid (btrans HB1.out HB1.out.size hb2); clear hb2
      go_wp2_with fail
      go_ret
      rw [show jB d j = false by rw [HJB.out, HS.out]; rw [Bool.true_and]; simp only [decide_eq_false_iff_not]; omega]
      exact ⟨rfl, HB2.out⟩
    by_cases c2 : 0 ≤ j.r
    rotate_left
    · skip
      go_wp2_with fail
      refine (SValid_any j.x _).mono ?_
      rw [HS.out]
      rintro e w2 ⟨rfl, hb2⟩
      have z5 := cell1_below y5 hb2
      have z6 := cell1_below y6 hb2
      clear y0 y1 y2 y3 y4 y5 y6
      have HB2 := Lib.hid (btrans HB1.out HB1.out.size hb2); clear hb2
      go_wp2_with fail
      go_ret
      rw [show jB d j = false by rw [HJB.out, HS.out]; rw [Bool.true_and]; simp only [decide_eq_false_iff_not]; omega]
      exact ⟨rfl, HB2.out⟩
    go_wp2_with fail
    refine (SValid_any j.x _).mono ?_
    rw [HS.out]
    rintro e w2 ⟨rfl, hb2⟩
    have z5 := cell1_below y5 hb2
    have z6 := cell1_below y6 hb2
    clear y0 y1 y2 y3 y4 y5 y6
    have HB2 := Lib.hid (btrans HB1.out HB1.out.size hb2); clear hb2
    go_wp2_with fail
    go_ret
    rw [show jB d j = decide (j.r ≤ j.n) by rw [HJB.out, HS.out]; rw [Bool.true_and]; apply decide_eq_decide.2; omega]
    exact ⟨rfl, HB2.out⟩
end Go.Proofs.Ytkpfkknldeafkaa

namespace Go.Proofs.Ytkpfkknldeafkaa
open Go.RowKit

theorem wcells7_below {W W' : World} {b0 i0 b1 i1 b2 i2 b3 i3 b4 i4 b5 i5 b6 i6 : Nat} {u0 u1 u2 u3 u4 u5 u6 : Value} (h : W.cell? ⟨b0, i0, none⟩ = some u0 ∧ W.cell? ⟨b1, i1, none⟩ = some u1 ∧ W.cell? ⟨b2, i2, none⟩ = some u2 ∧ W.cell? ⟨b3, i3, none⟩ = some u3 ∧ W.cell? ⟨b4, i4, none⟩ = some u4 ∧ W.cell? ⟨b5, i5, none⟩ = some u5 ∧ W.cell? ⟨b6, i6, none⟩ = some u6) (hb : Below W.heap.size W W') : W'.cell? ⟨b0, i0, none⟩ = some u0 ∧ W'.cell? ⟨b1, i1, none⟩ = some u1 ∧ W'.cell? ⟨b2, i2, none⟩ = some u2 ∧ W'.cell? ⟨b3, i3, none⟩ = some u3 ∧ W'.cell? ⟨b4, i4, none⟩ = some u4 ∧ W'.cell? ⟨b5, i5, none⟩ = some u5 ∧ W'.cell? ⟨b6, i6, none⟩ = some u6 := by
  obtain ⟨h0, h1, h2, h3, h4, h5, h6⟩ := h
  exact ⟨cell1_below h0 hb, cell1_below h1 hb, cell1_below h2 hb, cell1_below h3 hb, cell1_below h4 hb, cell1_below h5 hb, cell1_below h6 hb⟩
set_option maxRecDepth 100000 in
set_option maxHeartbeats 8000000 in
theorem checkpoint_any (sa pa : Option Addr) (sc pc : Nat) (d : Dk) (x : Sp) (w : World) (hD : Lists w sa sc pa pc d) (hv : validB d = true) (ha0 : 0 ≤ x.a) (ha2 : x.a ≤ 2) :
    Calls Try.prog 72 #[.agg #[.slice sa d.S.length sc, .slice pa d.P.length pc, .int .i64 d.fuse, .int .i64 d.ops, .bool d.dead], .agg (spV x)] w fun e w' => e = .returned (.tuple #[.string (bs (ckS d x).1), .bool (ckS d x).2]) ∧ Below w.heap.size w w' := by
  have HV := Lib.hid hv; clear hv
  simp only [spV]
  have hb0 := (((Below.refl w.heap.size w).alloc (Nat.le_refl _) (.cells #[.slice sa d.S.length sc, .slice pa d.P.length pc, .int .i64 d.fuse, .int .i64 d.ops, .bool d.dead] 38)).alloc (by simp) (.cells #[.int .i64 x.g, .int .i64 x.e, .int .i64 x.a, .int .i64 x.z, .int .i64 x.p] 23))
  have h_HX := ((Bx.new w #[.slice sa d.S.length sc, .slice pa d.P.length pc, .int .i64 d.fuse, .int .i64 d.ops, .bool d.dead] 38).alloc (.cells #[.int .i64 x.g, .int .i64 x.e, .int .i64 x.a, .int .i64 x.z, .int .i64 x.p] 23))
  have h_HY := (Bx.new (w.alloc (.cells #[.slice sa d.S.length sc, .slice pa d.P.length pc, .int .i64 d.fuse, .int .i64 d.ops, .bool d.dead] 38)) #[.int .i64 x.g, .int .i64 x.e, .int .i64 x.a, .int .i64 x.z, .int .i64 x.p] 23)
  rw [show (w.alloc (.cells #[.slice sa d.S.length sc, .slice pa d.P.length pc, .int .i64 d.fuse, .int .i64 d.ops, .bool d.dead] 38)).heap.size = w.heap.size + 1 by simp] at h_HY
  have HB := Lib.hid hb0; have HX := Lib.hid h_HX; have HY := Lib.hid h_HY
  clear hb0 h_HX h_HY
  have HD := Lib.hid (hD.below HB.out)
  go_enter Try.func72, Try.ntmps72
  go_upto_region 1 with (fail)
  generalize hW0 : (w.alloc (.cells #[.slice sa d.S.length sc, .slice pa d.P.length pc, .int .i64 d.fuse, .int .i64 d.ops, .bool d.dead] 38)).alloc (.cells #[.int .i64 x.g, .int .i64 x.e, .int .i64 x.a, .int .i64 x.z, .int .i64 x.p] 23) = v0 at HB HD HX HY ⊢
  clear hW0
  have y2 : v0.cell? ⟨w.heap.size + 1, 2, none⟩ = some (.int .i64 x.a) := HY.out.cell 2
  by_cases hA : x.a = 0
  · have HA := Lib.hid hA
    have tA : (x.a == 0) = true := by rw [hA]; rfl
    clear hA
    go_wp2_with fail
    go_ret2
    rw [show ckS d x = ([], true) by unfold ckS; rw [if_pos HA.out]]
    exact ⟨rfl, HB.out⟩
  · have tA : (x.a == 0) = false := by rw [beq_eq_false_iff_ne]; exact hA
    have x0 : v0.cell? ⟨w.heap.size, 0, none⟩ = some (.slice sa d.S.length sc) := HX.out.cell 0
    have x1 : v0.cell? ⟨w.heap.size, 1, none⟩ = some (.slice pa d.P.length pc) := HX.out.cell 1
    have x2 : v0.cell? ⟨w.heap.size, 2, none⟩ = some (.int .i64 d.fuse) := HX.out.cell 2
    have x3 : v0.cell? ⟨w.heap.size, 3, none⟩ = some (.int .i64 d.ops) := HX.out.cell 3
    have x4 : v0.cell? ⟨w.heap.size, 4, none⟩ = some (.bool d.dead) := HX.out.cell 4
    have HA := Lib.hid hA; clear hA
    go_wp2_with fail
    refine (Areas_any _ _ _ _ d _ HD.out).mono ?_
    rw [areas_ok HV.out]
    rintro e w1 ⟨rfl, hb1⟩
    clear x0 x1 x2 x3 x4 y2 tA
    have HX1 := Lib.hid (HX.out.call hb1); have HY1 := Lib.hid (HY.out.call hb1); have HD1 := Lib.hid (HD.out.below hb1); have HB1 := Lib.hid (btrans HB.out HB.out.size hb1); clear hb1
    obtain ⟨a, ha⟩ : ∃ a : Nat, a = arN d := ⟨_, rfl⟩
    have hab := (arN_bounds HV.out).2.1
    have hck : ckS d x = ((joinS (regS d (2 + (x.a - 1) * (a : Int)) a) x.e x.e).1, (joinS (regS d (2 + (x.a - 1) * (a : Int)) a) x.e x.e).2.2.2 && decide (((joinS (regS d (2 + (x.a - 1) * (a : Int)) a) x.e x.e).1.length : Int) = x.z)) := by rw [ha]; unfold ckS; rw [if_neg HA.out]
    rw [← ha] at hab ⊢
    have HCK := Lib.hid hck; clear hck ha
    have hA0 := HA.out
    have hmul : (x.a - 1) * (a : Int) = 0 ∨ (x.a - 1) * (a : Int) = (a : Int) := by
      rcases (show x.a = 1 ∨ x.a = 2 by omega) with h | h <;> rw [h]
      · left; omega
      · right; omega
    have hw1 : IntKind.i64.wrap (x.a - 1) = x.a - 1 := by rw [IntKind.wrap_i64]; omega
    have hw2 : IntKind.i64.wrap ((x.a - 1) * (a : Int)) = (x.a - 1) * (a : Int) := by rw [IntKind.wrap_i64]; omega
    have hw3 : IntKind.i64.wrap (2 + (x.a - 1) * (a : Int)) = 2 + (x.a - 1) * (a : Int) := by rw [IntKind.wrap_i64]; omega
    have hf0 : 0 ≤ 2 + (x.a - 1) * (a : Int) ∧ 2 + (x.a - 1) * (a : Int) ≤ 1000000 := by omega
    have HF := Lib.hid hf0; clear hf0 hmul hA0
    obtain ⟨⟨rec, g, n, ok⟩, hj⟩ : ∃ r, joinS (regS d (2 + (x.a - 1) * (a : Int)) a) x.e x.e = r := ⟨_, rfl⟩
    have HJ := Lib.hid hj; clear hj
    have x0 : w1.cell? ⟨w.heap.size, 0, none⟩ = some (.slice sa d.S.length sc) := HX1.out.cell 0
    have x1 : w1.cell? ⟨w.heap.size, 1, none⟩ = some (.slice pa d.P.length pc) := HX1.out.cell 1
    have x2 : w1.cell? ⟨w.heap.size, 2, none⟩ = some (.int .i64 d.fuse) := HX1.out.cell 2
    have x3 : w1.cell? ⟨w.heap.size, 3, none⟩ = some (.int .i64 d.ops) := HX1.out.cell 3
    have x4 : w1.cell? ⟨w.heap.size, 4, none⟩ = some (.bool d.dead) := HX1.out.cell 4
    have y1 : w1.cell? ⟨w.heap.size + 1, 1, none⟩ = some (.int .i64 x.e) := HY1.out.cell 1
    have y2 : w1.cell? ⟨w.heap.size + 1, 2, none⟩ = some (.int .i64 x.a) := HY1.out.cell 2
    have hs4 : w1.drew.cell? ⟨w.heap.size, 0, none⟩ = some (.slice sa d.S.length sc) ∧ w1.drew.cell? ⟨w.heap.size, 1, none⟩ = some (.slice pa d.P.length pc) ∧ w1.drew.cell? ⟨w.heap.size, 2, none⟩ = some (.int .i64 d.fuse) ∧ w1.drew.cell? ⟨w.heap.size, 3, none⟩ = some (.int .i64 d.ops) ∧ w1.drew.cell? ⟨w.heap.size, 4, none⟩ = some (.bool d.dead) ∧ w1.drew.cell? ⟨w.heap.size + 1, 1, none⟩ = some (.int .i64 x.e) ∧ w1.drew.cell? ⟨w.heap.size + 1, 2, none⟩ = some (.int .i64 x.a) := ⟨x0, x1, x2, x3, x4, y1, y2⟩
    have HS4 := Lib.hid hs4; clear hs4 x0 x1 x2 x3 x4 y1 y2
    go_wp2_with fail
    refine wp_region_held_drew (S := (fun w' => w'.cell? ⟨w.heap.size, 0, none⟩ = some (.slice sa d.S.length sc) ∧ w'.cell? ⟨w.heap.size, 1, none⟩ = some (.slice pa d.P.length pc) ∧ w'.cell? ⟨w.heap.size, 2, none⟩ = some (.int .i64 d.fuse) ∧ w'.cell? ⟨w.heap.size, 3, none⟩ = some (.int .i64 d.ops) ∧ w'.cell? ⟨w.heap.size, 4, none⟩ = some (.bool d.dead) ∧ w'.cell? ⟨w.heap.size + 1, 1, none⟩ = some (.int .i64 x.e) ∧ w'.cell? ⟨w.heap.size + 1, 2, none⟩ = some (.int .i64 x.a))) (by kernel_rfl) ?_ (fun hHeld => ?_)
    · exact HS4.out
    refine takeH (i := 0) (v := ?vv1) 23 rfl rfl (by kernel_rfl) (by kernel_rfl) (by kernel_rfl) (fun _ _ _ h => h) (Or.inl ⟨by kernel_rfl, ?yy1⟩) (by assumption) ?_
    case yy1 => intro w hSw; (try dsimp only at hSw); go_simp; (try with_reducible rfl)
    simp only [List.setIfInBounds_toArray, List.set_cons_zero, List.set_cons_succ]
    refine takeH (i := 1) (v := ?vv2) 24 rfl rfl (by kernel_rfl) (by kernel_rfl) (by kernel_rfl) (fun _ _ _ h => h) (Or.inl ⟨by kernel_rfl, ?yy2⟩) (by assumption) ?_
    case yy2 => intro w hSw; (try dsimp only at hSw); go_simp; (try with_reducible rfl)
    simp only [List.setIfInBounds_toArray, List.set_cons_zero, List.set_cons_succ]
    refine takeH (i := 2) (v := ?vv3) 25 rfl rfl (by kernel_rfl) (by kernel_rfl) (by kernel_rfl) (fun _ _ _ h => h) (Or.inl ⟨by kernel_rfl, ?yy3⟩) (by assumption) ?_
    case yy3 => intro w hSw; (try dsimp only at hSw); go_simp; (try with_reducible rfl)
    simp only [List.setIfInBounds_toArray, List.set_cons_zero, List.set_cons_succ]
    refine takeH (i := 3) (v := ?vv4) 26 rfl rfl (by kernel_rfl) (by kernel_rfl) (by kernel_rfl) (fun _ _ _ h => h) (Or.inl ⟨by kernel_rfl, ?yy4⟩) (by assumption) ?_
    case yy4 => intro w hSw; (try dsimp only at hSw); go_simp; (try with_reducible rfl)
    simp only [List.setIfInBounds_toArray, List.set_cons_zero, List.set_cons_succ]
    refine takeH (i := 4) (v := ?vv5) 27 rfl rfl (by kernel_rfl) (by kernel_rfl) (by kernel_rfl) (fun _ _ _ h => h) (Or.inl ⟨by kernel_rfl, ?yy5⟩) (by assumption) ?_
    case yy5 => intro w hSw; (try dsimp only at hSw); go_simp; (try with_reducible rfl)
    simp only [List.setIfInBounds_toArray, List.set_cons_zero, List.set_cons_succ]
    refine takeH (i := 5) (v := ?vv6) 28 rfl rfl (by kernel_rfl) (by kernel_rfl) (by kernel_rfl) (fun _ _ _ h => h) (Or.inl ⟨by kernel_rfl, ?yy6⟩) (by assumption) ?_
    case yy6 => intro w hSw; (try dsimp only at hSw); go_simp; (try with_reducible rfl)
    simp only [List.setIfInBounds_toArray, List.set_cons_zero, List.set_cons_succ]
    refine takeH (i := 6) (v := ?vv7) 29 rfl rfl (by kernel_rfl) (by kernel_rfl) (by kernel_rfl) (fun _ _ _ h => h) (Or.inl ⟨by kernel_rfl, ?yy7⟩) (by assumption) ?_
    case yy7 => intro w hSw; (try dsimp only at hSw); go_simp; (try with_reducible rfl)
    simp only [List.setIfInBounds_toArray, List.set_cons_zero, List.set_cons_succ]
    refine takeH (i := 7) (v := ?vv8) 30 rfl rfl (by kernel_rfl) (by kernel_rfl) (by kernel_rfl) (fun _ _ _ h => h) (Or.inl ⟨by kernel_rfl, ?yy8⟩) (by assumption) ?_
    case yy8 => intro w hSw; (try dsimp only at hSw); go_simp; (try with_reducible rfl)
    simp only [List.setIfInBounds_toArray, List.set_cons_zero, List.set_cons_succ]
    refine takeH (i := 9) (v := ?vv9) 32 rfl rfl (by kernel_rfl) (by kernel_rfl) (by kernel_rfl) (fun _ _ _ h => h) (Or.inl ⟨by kernel_rfl, ?yy9⟩) (by assumption) ?_
    case yy9 => intro w hSw; (try dsimp only at hSw); go_simp; (try with_reducible rfl)
    simp only [List.setIfInBounds_toArray, List.set_cons_zero, List.set_cons_succ]
    refine takeH (i := 10) (v := ?vv10) 33 rfl rfl (by kernel_rfl) (by kernel_rfl) (by kernel_rfl) (fun _ _ _ h => h) (Or.inl ⟨by kernel_rfl, ?yy10⟩) (by assumption) ?_
    case yy10 => intro w hSw; (try dsimp only at hSw); go_simp; (try with_reducible rfl)
    simp only [List.setIfInBounds_toArray, List.set_cons_zero, List.set_cons_succ]
    refine takeH (i := 11) (v := ?vv11) 34 rfl rfl (by kernel_rfl) (by kernel_rfl) (by kernel_rfl) (fun _ _ _ h => h) (Or.inl ⟨by kernel_rfl, ?yy11⟩) (by assumption) ?_
    case yy11 => intro w hSw; (try dsimp only at hSw); go_simp; (try with_reducible rfl)
    simp only [List.setIfInBounds_toArray, List.set_cons_zero, List.set_cons_succ]
    refine takeH (i := 12) (v := ?vv12) 35 rfl rfl (by kernel_rfl) (by kernel_rfl) (by kernel_rfl) (fun _ _ _ h => h) (Or.inl ⟨by kernel_rfl, ?yy12⟩) (by assumption) ?_
    case yy12 => intro w hSw; (try dsimp only at hSw); go_simp; (try with_reducible rfl)
    simp only [List.setIfInBounds_toArray, List.set_cons_zero, List.set_cons_succ]
    refine wpAnyH_ready (rs := [8]) (by kernel_rfl) (by simp) ?_
    refine (AllReadyH.cons rfl (fun K hK => ?_) AllReadyH.nil)
    go_simp
    (refine (region_any _ _ _ _ d (2 + (x.a - 1) * (a : Int)) a _ (HD1.out.below (Below.refl w1.heap.size w1).drew) HF.out.1 HF.out.2 (by omega)).mono ?_; rintro e w2 ⟨v, rfl, hown2, hb2⟩)
    (try go_wp2_with fail)
    refine hK.out _ _ ?_ (fun hHeld => ?_)
    · exact wcells7_below hHeld hb2
    clear hK K
    (try simp only [Act.put, List.setIfInBounds_toArray, List.set_cons_zero, List.set_cons_succ])
    refine wpAnyH_ready (rs := [13]) (by kernel_rfl) (by simp) ?_
    refine (AllReadyH.cons rfl (fun K hK => ?_) AllReadyH.nil)
    go_simp
    (refine (Join_any _ _ x.e x.e _ (StrS.of_own hown2) (regS_le _ _ _)).mono ?_; rw [HJ.out]; rintro e w3 ⟨rfl, hb3⟩)
    (try go_wp2_with fail)
    refine hK.out _ _ ?_ (fun hHeld => ?_)
    · exact wcells7_below hHeld hb3
    clear hK K
    (try simp only [Act.put, List.setIfInBounds_toArray, List.set_cons_zero, List.set_cons_succ])
    refine takeH (i := 14) (v := ?vv13) 22 rfl rfl (by kernel_rfl) (by kernel_rfl) (by kernel_rfl) (fun _ _ _ h => h) (Or.inl ⟨by kernel_rfl, ?yy13⟩) (by assumption) ?_
    case yy13 => intro w hSw; (try dsimp only at hSw); go_simp; (try with_reducible rfl)
    simp only [List.setIfInBounds_toArray, List.set_cons_zero, List.set_cons_succ]
    refine takeH (i := 15) (v := ?vv14) 37 rfl rfl (by kernel_rfl) (by kernel_rfl) (by kernel_rfl) (fun _ _ _ h => h) (Or.inl ⟨by kernel_rfl, ?yy14⟩) (by assumption) ?_
    case yy14 => intro w hSw; (try dsimp only at hSw); go_simp; (try with_reducible rfl)
    simp only [List.setIfInBounds_toArray, List.set_cons_zero, List.set_cons_succ]
    refine takeH (i := 16) (v := ?vv15) 38 rfl rfl (by kernel_rfl) (by kernel_rfl) (by kernel_rfl) (fun _ _ _ h => h) (Or.inl ⟨by kernel_rfl, ?yy15⟩) (by assumption) ?_
    case yy15 => intro w hSw; (try dsimp only at hSw); go_simp; (try with_reducible rfl)
    simp only [List.setIfInBounds_toArray, List.set_cons_zero, List.set_cons_succ]
    refine takeH (i := 17) (v := ?vv16) 39 rfl rfl (by kernel_rfl) (by kernel_rfl) (by kernel_rfl) (fun _ _ _ h => h) (Or.inl ⟨by kernel_rfl, ?yy16⟩) (by assumption) ?_
    case yy16 => intro w hSw; (try dsimp only at hSw); go_simp; (try with_reducible rfl)
    simp only [List.setIfInBounds_toArray, List.set_cons_zero, List.set_cons_succ]
    refine takeH (i := 18) (v := ?vv17) 40 rfl rfl (by kernel_rfl) (by kernel_rfl) (by kernel_rfl) (fun _ _ _ h => h) (Or.inl ⟨by kernel_rfl, ?yy17⟩) (by assumption) ?_
    case yy17 => intro w hSw; (try dsimp only at hSw); go_simp; (try with_reducible rfl)
    simp only [List.setIfInBounds_toArray, List.set_cons_zero, List.set_cons_succ]
    refine takeH (i := 19) (v := ?vv18) 9 rfl rfl (by kernel_rfl) (by kernel_rfl) (by kernel_rfl) (fun _ _ _ h => h) (Or.inl ⟨by kernel_rfl, ?yy18⟩) (by assumption) ?_
    case yy18 => intro w hSw; (try dsimp only at hSw); go_simp; (try with_reducible rfl)
    simp only [List.setIfInBounds_toArray, List.set_cons_zero, List.set_cons_succ]
    refine takeH (i := 20) (v := ?vv19) 10 rfl rfl (by kernel_rfl) (by kernel_rfl) (by kernel_rfl) (fun _ _ _ h => h) (Or.inl ⟨by kernel_rfl, ?yy19⟩) (by assumption) ?_
    case yy19 => intro w hSw; (try dsimp only at hSw); go_simp; (try with_reducible rfl)
    simp only [List.setIfInBounds_toArray, List.set_cons_zero, List.set_cons_succ]
    refine takeH (i := 21) (v := ?vv20) 11 rfl rfl (by kernel_rfl) (by kernel_rfl) (by kernel_rfl) (fun _ _ _ h => h) (Or.inl ⟨by kernel_rfl, ?yy20⟩) (by assumption) ?_
    case yy20 => intro w hSw; (try dsimp only at hSw); go_simp; (try with_reducible rfl)
    simp only [List.setIfInBounds_toArray, List.set_cons_zero, List.set_cons_succ]
    refine takeH (i := 22) (v := ?vv21) 12 rfl rfl (by kernel_rfl) (by kernel_rfl) (by kernel_rfl) (fun _ _ _ h => h) (Or.inl ⟨by kernel_rfl, ?yy21⟩) (by assumption) ?_
    case yy21 => intro w hSw; (try dsimp only at hSw); go_simp; (try with_reducible rfl)
    simp only [List.setIfInBounds_toArray, List.set_cons_zero, List.set_cons_succ]
    refine wpAnyH_done (by kernel_rfl) ?_ _
    have hb13 := btrans (btrans (Below.refl w1.heap.size w1).drew (Nat.le_refl _) hb2) (btrans (Below.refl w1.heap.size w1).drew (Nat.le_refl _) hb2).size hb3
    have HY3 := Lib.hid (HY1.out.call hb13); have HB3 := Lib.hid (btrans HB1.out HB1.out.size hb13); clear hb13 hb2 hb3 hown2 hHeld HD1 HX1 HY1 HB1
    cases ok with
    | false =>
      have y3 : w3.cell? ⟨w.heap.size + 1, 3, none⟩ = some (.int .i64 x.z) := HY3.out.cell 3
      have hs5 : w3.drew.cell? ⟨w.heap.size + 1, 3, none⟩ = some (.int .i64 x.z) := y3
      have HS5 := Lib.hid hs5; clear hs5 y3
      go_wp2_with fail
      refine wp_region_held_drew (S := (fun w' => w'.cell? ⟨w.heap.size + 1, 3, none⟩ = some (.int .i64 x.z))) (by kernel_rfl) ?_ (fun hHeld => ?_)
      · exact HS5.out
      refine takeH (i := 0) (v := ?vv22) 41 rfl rfl (by kernel_rfl) (by kernel_rfl) (by kernel_rfl) (fun _ _ _ h => h) (Or.inl ⟨by kernel_rfl, ?yy22⟩) (by assumption) ?_
      case yy22 => intro w hSw; (try dsimp only at hSw); go_simp; (try with_reducible rfl)
      simp only [List.setIfInBounds_toArray, List.set_cons_zero, List.set_cons_succ]
      refine takeH (i := 1) (v := ?vv23) 42 rfl rfl (by kernel_rfl) (by kernel_rfl) (by kernel_rfl) (fun _ _ _ h => h) (Or.inl ⟨by kernel_rfl, ?yy23⟩) (by assumption) ?_
      case yy23 => intro w hSw; (try dsimp only at hSw); go_simp; (try with_reducible rfl)
      simp only [List.setIfInBounds_toArray, List.set_cons_zero, List.set_cons_succ]
      refine takeH (i := 2) (v := ?vv24) 43 rfl rfl (by kernel_rfl) (by kernel_rfl) (by kernel_rfl) (fun _ _ _ h => h) (Or.inl ⟨by kernel_rfl, ?yy24⟩) (by assumption) ?_
      case yy24 => intro w hSw; (try dsimp only at hSw); go_simp; (try with_reducible rfl)
      simp only [List.setIfInBounds_toArray, List.set_cons_zero, List.set_cons_succ]
      refine takeH (i := 3) (v := undef) 44 rfl rfl (by kernel_rfl) (by kernel_rfl) (by kernel_rfl) (fun _ _ _ h => h) (Or.inr ⟨by kernel_rfl, rfl⟩) (by assumption) ?_
      simp only [List.setIfInBounds_toArray, List.set_cons_zero, List.set_cons_succ]
      refine takeH (i := 4) (v := undef) 45 rfl rfl (by kernel_rfl) (by kernel_rfl) (by kernel_rfl) (fun _ _ _ h => h) (Or.inr ⟨by kernel_rfl, rfl⟩) (by assumption) ?_
      simp only [List.setIfInBounds_toArray, List.set_cons_zero, List.set_cons_succ]
      refine takeH (i := 5) (v := undef) 46 rfl rfl (by kernel_rfl) (by kernel_rfl) (by kernel_rfl) (fun _ _ _ h => h) (Or.inr ⟨by kernel_rfl, rfl⟩) (by assumption) ?_
      simp only [List.setIfInBounds_toArray, List.set_cons_zero, List.set_cons_succ]
      refine takeH (i := 6) (v := undef) 47 rfl rfl (by kernel_rfl) (by kernel_rfl) (by kernel_rfl) (fun _ _ _ h => h) (Or.inr ⟨by kernel_rfl, rfl⟩) (by assumption) ?_
      simp only [List.setIfInBounds_toArray, List.set_cons_zero, List.set_cons_succ]
      refine takeH (i := 7) (v := undef) 48 rfl rfl (by kernel_rfl) (by kernel_rfl) (by kernel_rfl) (fun _ _ _ h => h) (Or.inr ⟨by kernel_rfl, rfl⟩) (by assumption) ?_
      simp only [List.setIfInBounds_toArray, List.set_cons_zero, List.set_cons_succ]
      refine takeH (i := 8) (v := ?vv25) 49 rfl rfl (by kernel_rfl) (by kernel_rfl) (by kernel_rfl) (fun _ _ _ h => h) (Or.inl ⟨by kernel_rfl, ?yy25⟩) (by assumption) ?_
      case yy25 => intro w hSw; (try dsimp only at hSw); go_simp; (try with_reducible rfl)
      simp only [List.setIfInBounds_toArray, List.set_cons_zero, List.set_cons_succ]
      refine takeH (i := 9) (v := ?vv26) 4 rfl rfl (by kernel_rfl) (by kernel_rfl) (by kernel_rfl) (fun _ _ _ h => h) (Or.inl ⟨by kernel_rfl, ?yy26⟩) (by assumption) ?_
      case yy26 => intro w hSw; (try dsimp only at hSw); go_simp; (try with_reducible rfl)
      simp only [List.setIfInBounds_toArray, List.set_cons_zero, List.set_cons_succ]
      refine takeH (i := 10) (v := ?vv27) 5 rfl rfl (by kernel_rfl) (by kernel_rfl) (by kernel_rfl) (fun _ _ _ h => h) (Or.inl ⟨by kernel_rfl, ?yy27⟩) (by assumption) ?_
      case yy27 => intro w hSw; (try dsimp only at hSw); go_simp; (try with_reducible rfl)
      simp only [List.setIfInBounds_toArray, List.set_cons_zero, List.set_cons_succ]
      refine wpAnyH_done (by kernel_rfl) ?_ _
      go_wp2_with fail
      go_ret2
      rw [show ckS d x = (rec, false) by rw [HCK.out, HJ.out]; rfl]
      exact ⟨rfl, HB3.out.drew⟩
    | true =>
      have y3 : w3.cell? ⟨w.heap.size + 1, 3, none⟩ = some (.int .i64 x.z) := HY3.out.cell 3
      have hs5 : w3.drew.cell? ⟨w.heap.size + 1, 3, none⟩ = some (.int .i64 x.z) := y3
      have HS5 := Lib.hid hs5; clear hs5 y3
      go_wp2_with fail
      refine wp_region_held_drew (S := (fun w' => w'.cell? ⟨w.heap.size + 1, 3, none⟩ = some (.int .i64 x.z))) (by kernel_rfl) ?_ (fun hHeld => ?_)
      · exact HS5.out
      refine takeH (i := 0) (v := ?vv28) 41 rfl rfl (by kernel_rfl) (by kernel_rfl) (by kernel_rfl) (fun _ _ _ h => h) (Or.inl ⟨by kernel_rfl, ?yy28⟩) (by assumption) ?_
      case yy28 => intro w hSw; (try dsimp only at hSw); go_simp; (try with_reducible rfl)
      simp only [List.setIfInBounds_toArray, List.set_cons_zero, List.set_cons_succ]
      refine takeH (i := 1) (v := ?vv29) 42 rfl rfl (by kernel_rfl) (by kernel_rfl) (by kernel_rfl) (fun _ _ _ h => h) (Or.inl ⟨by kernel_rfl, ?yy29⟩) (by assumption) ?_
      case yy29 => intro w hSw; (try dsimp only at hSw); go_simp; (try with_reducible rfl)
      simp only [List.setIfInBounds_toArray, List.set_cons_zero, List.set_cons_succ]
      refine takeH (i := 2) (v := ?vv30) 43 rfl rfl (by kernel_rfl) (by kernel_rfl) (by kernel_rfl) (fun _ _ _ h => h) (Or.inl ⟨by kernel_rfl, ?yy30⟩) (by assumption) ?_
      case yy30 => intro w hSw; (try dsimp only at hSw); go_simp; (try with_reducible rfl)
      simp only [List.setIfInBounds_toArray, List.set_cons_zero, List.set_cons_succ]
      refine takeH (i := 3) (v := ?vv31) 44 rfl rfl (by kernel_rfl) (by kernel_rfl) (by kernel_rfl) (fun _ _ _ h => h) (Or.inl ⟨by kernel_rfl, ?yy31⟩) (by assumption) ?_
      case yy31 => intro w hSw; (try dsimp only at hSw); go_simp; (try with_reducible rfl)
      simp only [List.setIfInBounds_toArray, List.set_cons_zero, List.set_cons_succ]
      refine takeH (i := 4) (v := ?vv32) 45 rfl rfl (by kernel_rfl) (by kernel_rfl) (by kernel_rfl) (fun _ _ _ h => h) (Or.inl ⟨by kernel_rfl, ?yy32⟩) (by assumption) ?_
      case yy32 => intro w hSw; (try dsimp only at hSw); go_simp; (try with_reducible rfl)
      simp only [List.setIfInBounds_toArray, List.set_cons_zero, List.set_cons_succ]
      refine takeH (i := 5) (v := ?vv33) 46 rfl rfl (by kernel_rfl) (by kernel_rfl) (by kernel_rfl) (fun _ _ _ h => h) (Or.inl ⟨by kernel_rfl, ?yy33⟩) (by assumption) ?_
      case yy33 => intro w hSw; (try dsimp only at hSw); go_simp; (try with_reducible rfl)
      simp only [List.setIfInBounds_toArray, List.set_cons_zero, List.set_cons_succ]
      refine takeH (i := 6) (v := ?vv34) 47 rfl rfl (by kernel_rfl) (by kernel_rfl) (by kernel_rfl) (fun _ _ _ h => h) (Or.inl ⟨by kernel_rfl, ?yy34⟩) (by assumption) ?_
      case yy34 => intro w hSw; (try dsimp only at hSw); go_simp; (try with_reducible rfl)
      simp only [List.setIfInBounds_toArray, List.set_cons_zero, List.set_cons_succ]
      refine takeH (i := 7) (v := ?vv35) 48 rfl rfl (by kernel_rfl) (by kernel_rfl) (by kernel_rfl) (fun _ _ _ h => h) (Or.inl ⟨by kernel_rfl, ?yy35⟩) (by assumption) ?_
      case yy35 => intro w hSw; (try dsimp only at hSw); go_simp; (try with_reducible rfl)
      simp only [List.setIfInBounds_toArray, List.set_cons_zero, List.set_cons_succ]
      refine takeH (i := 8) (v := ?vv36) 49 rfl rfl (by kernel_rfl) (by kernel_rfl) (by kernel_rfl) (fun _ _ _ h => h) (Or.inl ⟨by kernel_rfl, ?yy36⟩) (by assumption) ?_
      case yy36 => intro w hSw; (try dsimp only at hSw); go_simp; (try with_reducible rfl)
      simp only [List.setIfInBounds_toArray, List.set_cons_zero, List.set_cons_succ]
      refine takeH (i := 9) (v := ?vv37) 4 rfl rfl (by kernel_rfl) (by kernel_rfl) (by kernel_rfl) (fun _ _ _ h => h) (Or.inl ⟨by kernel_rfl, ?yy37⟩) (by assumption) ?_
      case yy37 => intro w hSw; (try dsimp only at hSw); go_simp; (try with_reducible rfl)
      simp only [List.setIfInBounds_toArray, List.set_cons_zero, List.set_cons_succ]
      refine takeH (i := 10) (v := ?vv38) 5 rfl rfl (by kernel_rfl) (by kernel_rfl) (by kernel_rfl) (fun _ _ _ h => h) (Or.inl ⟨by kernel_rfl, ?yy38⟩) (by assumption) ?_
      case yy38 => intro w hSw; (try dsimp only at hSw); go_simp; (try with_reducible rfl)
      simp only [List.setIfInBounds_toArray, List.set_cons_zero, List.set_cons_succ]
      refine wpAnyH_done (by kernel_rfl) ?_ _
      go_wp2_with fail
      go_ret2
      rw [show ckS d x = (rec, (rec.length : Int) == x.z) by rw [HCK.out, HJ.out]; rfl]
      exact ⟨rfl, HB3.out.drew⟩
set_option maxRecDepth 100000 in
set_option maxHeartbeats 8000000 in
theorem records_any (sa pa : Option Addr) (sc pc : Nat) (d : Dk) (x : Sp) (w : World) (hD : Lists w sa sc pa pc d) (hv : validB d = true) :
    Calls Try.prog 73 #[.agg #[.slice sa d.S.length sc, .slice pa d.P.length pc, .int .i64 d.fuse, .int .i64 d.ops, .bool d.dead], .agg (spV x)] w fun e w' => ∃ v, e = .returned (.tuple #[v, .int .i64 ((logS d x).2 : Int)]) ∧ w'.ownsRow w.heap.size 9 1 v (logS d x).1.length ((logS d x).1.map strV) ∧ Below w.heap.size w w' := by
  have HV := Lib.hid hv; clear hv
  simp only [spV]
  obtain ⟨za1, za2, za3, za4, zaeq⟩ := arN_bounds HV.out
  clear zaeq
  obtain ⟨REG, hR⟩ : ∃ q, q = regS d (2 + 2 * (arN d : Int)) (szN d) := ⟨_, rfl⟩
  have hRl : REG.length ≤ 1016 := by rw [hR, regS_length]; exact za4
  have hRe : ∀ s ∈ REG, s.length ≤ 9223372036854775807 := by rw [hR]; exact regS_le _ _ _
  have HRE := Lib.hid hRe; clear hRe
  rw [show logS d x = recS REG x.e x.g by rw [hR]; rfl]
  have HR := Lib.hid hR; clear hR
  have hb0 := (((Below.refl w.heap.size w).alloc (Nat.le_refl _) (.cells #[.slice sa d.S.length sc, .slice pa d.P.length pc, .int .i64 d.fuse, .int .i64 d.ops, .bool d.dead] 38)).alloc (by simp) (.cells #[.int .i64 x.g, .int .i64 x.e, .int .i64 x.a, .int .i64 x.z, .int .i64 x.p] 23))
  have h_HX := ((Bx.new w #[.slice sa d.S.length sc, .slice pa d.P.length pc, .int .i64 d.fuse, .int .i64 d.ops, .bool d.dead] 38).alloc (.cells #[.int .i64 x.g, .int .i64 x.e, .int .i64 x.a, .int .i64 x.z, .int .i64 x.p] 23))
  have h_HY := (Bx.new (w.alloc (.cells #[.slice sa d.S.length sc, .slice pa d.P.length pc, .int .i64 d.fuse, .int .i64 d.ops, .bool d.dead] 38)) #[.int .i64 x.g, .int .i64 x.e, .int .i64 x.a, .int .i64 x.z, .int .i64 x.p] 23)
  rw [show (w.alloc (.cells #[.slice sa d.S.length sc, .slice pa d.P.length pc, .int .i64 d.fuse, .int .i64 d.ops, .bool d.dead] 38)).heap.size = w.heap.size + 1 by simp] at h_HY
  have HB := Lib.hid hb0; have HX := Lib.hid h_HX; have HY := Lib.hid h_HY
  clear hb0 h_HX h_HY
  have HD := Lib.hid (hD.below HB.out)
  go_enter Try.func73, Try.ntmps73
  go_upto_region 1 with (fail)
  generalize hW0 : (w.alloc (.cells #[.slice sa d.S.length sc, .slice pa d.P.length pc, .int .i64 d.fuse, .int .i64 d.ops, .bool d.dead] 38)).alloc (.cells #[.int .i64 x.g, .int .i64 x.e, .int .i64 x.a, .int .i64 x.z, .int .i64 x.p] 23) = v0 at HB HD HX HY ⊢
  clear hW0
  have x0 : v0.cell? ⟨w.heap.size, 0, none⟩ = some (.slice sa d.S.length sc) := HX.out.cell 0
  have x1 : v0.cell? ⟨w.heap.size, 1, none⟩ = some (.slice pa d.P.length pc) := HX.out.cell 1
  have x2 : v0.cell? ⟨w.heap.size, 2, none⟩ = some (.int .i64 d.fuse) := HX.out.cell 2
  have x3 : v0.cell? ⟨w.heap.size, 3, none⟩ = some (.int .i64 d.ops) := HX.out.cell 3
  have x4 : v0.cell? ⟨w.heap.size, 4, none⟩ = some (.bool d.dead) := HX.out.cell 4
  go_wp2_with fail
  refine (Areas_any _ _ _ _ d _ HD.out).mono ?_
  rw [areas_ok HV.out]
  rintro e w1 ⟨rfl, hb1⟩
  clear x0 x1 x2 x3 x4
  have HX1 := Lib.hid (HX.out.call hb1); have HY1 := Lib.hid (HY.out.call hb1); have HD1 := Lib.hid (HD.out.below hb1); have HB1 := Lib.hid (btrans HB.out HB.out.size hb1); clear hb1 HX HY HD HB
  have x0 : w1.cell? ⟨w.heap.size, 0, none⟩ = some (.slice sa d.S.length sc) := HX1.out.cell 0
  have x1 : w1.cell? ⟨w.heap.size, 1, none⟩ = some (.slice pa d.P.length pc) := HX1.out.cell 1
  have x2 : w1.cell? ⟨w.heap.size, 2, none⟩ = some (.int .i64 d.fuse) := HX1.out.cell 2
  have x3 : w1.cell? ⟨w.heap.size, 3, none⟩ = some (.int .i64 d.ops) := HX1.out.cell 3
  have x4 : w1.cell? ⟨w.heap.size, 4, none⟩ = some (.bool d.dead) := HX1.out.cell 4
  go_wp2_with fail
  refine (region_any _ _ _ _ d _ _ _ HD1.out (by omega) (by omega) (by omega)).mono ?_
  rw [← HR.out]
  rintro e w2 ⟨v, rfl, hown2, hb2⟩
  clear x0 x1 x2 x3 x4
  have HSV := Lib.hid (StrS.of_own hown2); have HY2 := Lib.hid (HY1.out.call hb2); have HB2 := Lib.hid (btrans HB1.out HB1.out.size hb2); clear hb2 hown2 HX1 HY1 HD1 HB1
  have y1 : w2.cell? ⟨w.heap.size + 1, 1, none⟩ = some (.int .i64 x.e) := HY2.out.cell 1
  go_wp2
  clear y1
  go_loopw [9, 10, 11, 12] (fun rest l used least wr => ∃ (k : Nat) (g : Int) (M : List (List UInt8)), used = .int .i64 k ∧ least = .int .i64 g ∧ k ≤ REG.length ∧ StrS w2 rest (REG.drop k) ∧ recS REG x.e x.g = (M ++ (recS (REG.drop k) g x.g).1, k + (recS (REG.drop k) g x.g).2) ∧ M.length ≤ k ∧ wr.ownsRow w2.heap.size 9 1 l M.length (M.map strV) ∧ Below w2.heap.size w2 wr) (fun _ _ u _ _ => REG.length - (intOf u).toNat)
  case atStart => exact ⟨0, x.e, [], rfl, rfl, Nat.zero_le _, HSV.out, by simp, Nat.le_refl _, World.ownsRow_nil _ _ _ _, Below.refl _ _⟩
  case round =>
    obtain ⟨k, g, M, rfl, rfl, hk, hS, hrec, hM, hown, hbel⟩ := hrel
    obtain ⟨Tl, hT⟩ : ∃ q, q = REG.drop k := ⟨_, rfl⟩
    have hdl : Tl.length = REG.length - k := by rw [hT]; exact List.length_drop
    rw [← hT] at hS hrec
    have HTT := Lib.hid hT; have HDL := Lib.hid hdl; clear hT hdl
    have HS := Lib.hid hS; have HREC := Lib.hid hrec; have HO := Lib.hid hown; have HE := Lib.hid hbel; clear hS hrec hown hbel
    obtain ⟨va, vc, hva⟩ := HS.out.len
    subst hva
    have y0 : wr.cell? ⟨w.heap.size + 1, 0, none⟩ = some (.int .i64 x.g) := (HY2.out.call HE.out).cell 0
    obtain ⟨⟨rec, gn, n, ok⟩, hj⟩ : ∃ r, joinS Tl g x.g = r := ⟨_, rfl⟩
    have hle : ∀ s ∈ Tl, s.length ≤ 9223372036854775807 := fun s hs => HRE.out s (List.mem_of_mem_drop (by rw [← HTT.out]; exact hs))
    have HLE := Lib.hid hle; clear hle
    cases ok with
    | false =>
      have hn := recS_none (L := Tl) (least := g) (most := x.g) (by rw [hj])
      have HN := Lib.hid hn; have HJ := Lib.hid hj; clear hn hj
      go_wp2_with fail
      refine (Join_any _ Tl g x.g _ (HS.out.below HE.out) HLE.out).mono ?_
      rw [HJ.out]
      rintro e w3 ⟨rfl, hb3⟩
      clear y0
      have hfin : recS REG x.e x.g = (M, k) := by rw [HREC.out, HN.out]; simp
      go_wp2
      go_ret2
      rw [hfin]
      exact ⟨_, rfl, own_mono (own_below HO.out hb3) HB2.out.size, btrans HB2.out HB2.out.size (btrans HE.out HE.out.size hb3)⟩
    | true =>
      obtain ⟨rec2, gn2, m, hj2, m1, m2, _⟩ := join_ok (L := Tl) (least := g) (most := x.g) (by rw [hj])
      rw [hj] at hj2
      simp only [Prod.mk.injEq, and_true] at hj2
      obtain ⟨rfl, rfl, rfl⟩ := hj2
      have hkm : k + m ≤ 1016 := by have := HDL.out; omega
      have hst := recS_some hj
      have HST := Lib.hid hst; have HJ := Lib.hid hj; clear hst hj
      go_wp2_with fail
      refine (Join_any _ Tl g x.g _ (HS.out.below HE.out) HLE.out).mono ?_
      rw [HJ.out]
      rintro e w3 ⟨rfl, hb3⟩
      clear y0
      have hown3 := own_below HO.out hb3; have hbel3 := btrans HE.out HE.out.size hb3
      clear hb3
      have hsl := fun w : World => run_slice_strs (w := w) va Tl.length vc m m2
      have HSL := Lib.hid hsl; clear hsl
      go_wp2_with (at_builtin; refine wpList_append_str rfl _ _ rfl w2.heap.size _ M rec hown3 rfl rfl (by omega) w2 hbel3 hbel3.size ?_; intro v4 w4 hown4 hbel4 hg4)
      have hslice := HSL.out
      go_wp2
      go_roundw
      case rel => exact ⟨k + m, gn, M ++ [rec], by go_num, rfl, by have := HDL.out; omega, by rw [← List.drop_drop, ← HTT.out]; exact StrS.drop HS.out m m2, by rw [HREC.out, HST.out, ← List.drop_drop, ← HTT.out]; simp [Nat.add_assoc], by simp; omega, hown4, hbel4⟩
      case measure => have := HDL.out; simp [intOf]; omega
end Go.Proofs.Ytkpfkknldeafkaa

namespace Go.Proofs.Ytkpfkknldeafkaa
open Go.RowKit

structure KpB (b : Nat) (W W' : World) : Prop where
  below : Below b W W'
  size : W.heap.size ≤ W'.heap.size
  other : ∀ c, c ≠ b → c < W.heap.size → W'.heap[c]? = W.heap[c]?
theorem KpB.refl (b : Nat) (W : World) : KpB b W W := ⟨Below.refl _ _, Nat.le_refl _, fun _ _ _ => rfl⟩
theorem KpB.trans {b : Nat} {W W' W2 : World} (h : KpB b W W') (k : KpB b W' W2) : KpB b W W2 :=
  ⟨h.below.trans k.below, Nat.le_trans h.size k.size, fun c hc hl => (k.other c hc (Nat.lt_of_lt_of_le hl h.size)).trans (h.other c hc hl)⟩
theorem KpB.of_call {b : Nat} {W W' : World} (h : Below W.heap.size W W') (hb : b ≤ W.heap.size) : KpB b W W' := ⟨h.mono hb, h.size, fun c _ hl => h.block c hl⟩
theorem KpB.set {b : Nat} {W W' : World} (h : KpB b W W') (i : Nat) (u : Value) : KpB b W (W'.setCell ⟨b, i, none⟩ u) :=
  ⟨h.below.setCell (Nat.le_refl _) u, by simpa using h.size, fun c hc hl => (Below.heap_setCell _ _ _ _ hc).trans (h.other c hc hl)⟩
theorem KpB.sets {b : Nat} {W W' : World} (h : KpB b W W') (u0 u1 u2 u3 u4 : Value) :
    KpB b W (((((W'.setCell ⟨b, 0, none⟩ u0).setCell ⟨b, 1, none⟩ u1).setCell ⟨b, 2, none⟩ u2).setCell ⟨b, 3, none⟩ u3).setCell ⟨b, 4, none⟩ u4) :=
  ((((h.set 0 u0).set 1 u1).set 2 u2).set 3 u3).set 4 u4
theorem KpB.bx {b c : Nat} {cs : Array Value} {T : TypeId} {W W' : World} (h : KpB b W W') (hx : Bx c cs T W) (hc : c ≠ b) : Bx c cs T W' := (h.other c hc hx.lt).trans hx
theorem KpB.cell {b c i : Nat} {u : Value} {W W' : World} (h : KpB b W W') (hx : W.cell? ⟨c, i, none⟩ = some u) (hc : c ≠ b) : W'.cell? ⟨c, i, none⟩ = some u := by
  rw [World.cell?_of_block (w := W) (a := ⟨c, i, none⟩) (h.other c hc (World.block_lt_of_cell? W _ hx))]; exact hx
theorem KpB.out {b B : Nat} {W0 W W' : World} (h : KpB b W W') (h0 : Below B W0 W) (hB : B ≤ b) : Below B W0 W' := h0.trans (h.below.mono hB)
/-- a disk's lists stand when the box is written -/
theorem KpB.lists {b : Nat} {W W' : World} {sa pa : Option Addr} {sc pc : Nat} {d : Dk} (hk : KpB b W W') (h : Lists W sa sc pa pc d) {T : TypeId} {i2 i3 : Int} {b4 : Bool} {a0 a1 : Option Addr} {n0 c0 n1 c1 : Nat} (hB : Bx b #[.slice a0 n0 c0, .slice a1 n1 c1, .int .i64 i2, .int .i64 i3, .bool b4] T W) :
    Lists W' sa sc pa pc d := by
  obtain ⟨⟨a, cap, he, hc, hx⟩, ⟨a', cap', he', hc', hx'⟩, h3, h4⟩ := h
  refine ⟨⟨a, cap, he, hc, fun hne => ?_⟩, ⟨a', cap', he', hc', fun hne => ?_⟩, h3, h4⟩
  · obtain ⟨b', off, ha, hcell⟩ := hx hne
    refine ⟨b', off, ha, fun i hi => hk.cell (hcell i hi) ?_⟩
    intro e; subst e; exact box_nostr hB (hcell i hi)
  · obtain ⟨b', off, ha, hcell⟩ := hx' hne
    refine ⟨b', off, ha, fun i hi => ?_⟩
    have hne2 : b' ≠ b := by intro e; subst e; exact box_nostr hB (hcell i hi).2
    exact ⟨hk.cell (hcell i hi).1 hne2, hk.cell (hcell i hi).2 hne2⟩
theorem wrF_nil (d : Dk) (f : Int) : wrF [] d f = syncS d := rfl
theorem wrF_ok {s : List UInt8} {r : List (List UInt8)} {d : Dk} {f : Int} (h : (writeS d f s).2 = 0) : wrF (s :: r) d f = wrF r (writeS d f s).1 (f + 1) := by
  conv => lhs; unfold wrF
  rw [if_pos h]
theorem wrF_no {s : List UInt8} {r : List (List UInt8)} {d : Dk} {f : Int} (h : (writeS d f s).2 ≠ 0) : wrF (s :: r) d f = writeS d f s := by
  conv => lhs; unfold wrF
  rw [if_neg h]
theorem wrF_len : ∀ (L : List (List UInt8)) (d : Dk) (f : Int), (wrF L d f).1.S.length = d.S.length ∧ (wrF L d f).1.P.length ≤ d.P.length + L.length := by
  intro L
  induction L with
  | nil => intro d f; rw [wrF_nil]; have := sync_len d; simp; omega
  | cons s r ih =>
    intro d f
    have hw := write_len d f s
    by_cases h : (writeS d f s).2 = 0
    · rw [wrF_ok h]; have := ih (writeS d f s).1 (f + 1); simp only [List.length_cons]; omega
    · rw [wrF_no h]; simp only [List.length_cons]; omega
end Go.Proofs.Ytkpfkknldeafkaa

namespace Go.Proofs.Ytkpfkknldeafkaa
open Go.RowKit

def WOPost (r : Opened) (w : World) (e : Ending) (w' : World) : Prop :=
  ∃ sa sc pa pc v, e = .returned (.tuple #[.agg #[.slice sa r.d.S.length sc, .slice pa r.d.P.length pc, .int .i64 r.d.fuse, .int .i64 r.d.ops, .bool r.d.dead], .agg (jnV r.j), .string (bs r.image), v, .int .i64 r.e]) ∧
    Owned w.heap.size r.d w' (.slice sa r.d.S.length sc) (.slice pa r.d.P.length pc) ∧ w'.ownsRow w.heap.size 9 1 v r.recs.length (r.recs.map strV) ∧ Below w.heap.size w w'
theorem WOPost.mk {r : Opened} {w w' : World} {e : Ending} (r2 : Opened) (sa : Option Addr) (sc : Nat) (pa : Option Addr) (pc : Nat) (v : Value) (he : e = .returned (.tuple #[.agg #[.slice sa r2.d.S.length sc, .slice pa r2.d.P.length pc, .int .i64 r2.d.fuse, .int .i64 r2.d.ops, .bool r2.d.dead], .agg (jnV r2.j), .string (bs r2.image), v, .int .i64 r2.e]))
    (ho : Owned w.heap.size r2.d w' (.slice sa r2.d.S.length sc) (.slice pa r2.d.P.length pc)) (hv : w'.ownsRow w.heap.size 9 1 v r2.recs.length (r2.recs.map strV)) (hb : Below w.heap.size w w') (hr : r = r2) : WOPost r w e w' := by
  subst hr; exact ⟨sa, sc, pa, pc, v, he, ho, hv, hb⟩

theorem Owned.drewD {B : Nat} {d : Dk} {w : World} {vs vp : Value} (h : Owned B d w vs vp) : Owned B d w.drew vs vp := h
theorem own_drewD {B : Nat} {e : TypeId} {k : Nat} {v : Value} {n : Nat} {xs : List Value} {w : World} (h : w.ownsRow B e k v n xs) : w.drew.ownsRow B e k v n xs := h
theorem drew_cell {W : World} {p : Addr} {u : Value} (h : W.cell? p = some u) : W.drew.cell? p = some u := h
theorem cell_drew {W : World} {p : Addr} {u : Value} (h : W.drew.cell? p = some u) : W.cell? p = some u := h
theorem wcells10_sets {W : World} {x y i0 i1 i2 i3 i4 i5 i6 i7 i8 i9 : Nat} {u0 u1 u2 u3 u4 u5 u6 u7 u8 u9 : Value} (h : W.drew.cell? ⟨x, i0, none⟩ = some u0 ∧ W.drew.cell? ⟨x, i1, none⟩ = some u1 ∧ W.drew.cell? ⟨x, i2, none⟩ = some u2 ∧ W.drew.cell? ⟨x, i3, none⟩ = some u3 ∧ W.drew.cell? ⟨x, i4, none⟩ = some u4 ∧ W.drew.cell? ⟨y, i5, none⟩ = some u5 ∧ W.drew.cell? ⟨y, i6, none⟩ = some u6 ∧ W.drew.cell? ⟨y, i7, none⟩ = some u7 ∧ W.drew.cell? ⟨y, i8, none⟩ = some u8 ∧ W.drew.cell? ⟨y, i9, none⟩ = some u9) (b : Nat) (h_x : b ≠ x) (h_y : b ≠ y) (v0 v1 v2 v3 v4 : Value) :
    (((((W.setCell ⟨b, 0, none⟩ v0).setCell ⟨b, 1, none⟩ v1).setCell ⟨b, 2, none⟩ v2).setCell ⟨b, 3, none⟩ v3).setCell ⟨b, 4, none⟩ v4).drew.cell? ⟨x, i0, none⟩ = some u0 ∧ (((((W.setCell ⟨b, 0, none⟩ v0).setCell ⟨b, 1, none⟩ v1).setCell ⟨b, 2, none⟩ v2).setCell ⟨b, 3, none⟩ v3).setCell ⟨b, 4, none⟩ v4).drew.cell? ⟨x, i1, none⟩ = some u1 ∧ (((((W.setCell ⟨b, 0, none⟩ v0).setCell ⟨b, 1, none⟩ v1).setCell ⟨b, 2, none⟩ v2).setCell ⟨b, 3, none⟩ v3).setCell ⟨b, 4, none⟩ v4).drew.cell? ⟨x, i2, none⟩ = some u2 ∧ (((((W.setCell ⟨b, 0, none⟩ v0).setCell ⟨b, 1, none⟩ v1).setCell ⟨b, 2, none⟩ v2).setCell ⟨b, 3, none⟩ v3).setCell ⟨b, 4, none⟩ v4).drew.cell? ⟨x, i3, none⟩ = some u3 ∧ (((((W.setCell ⟨b, 0, none⟩ v0).setCell ⟨b, 1, none⟩ v1).setCell ⟨b, 2, none⟩ v2).setCell ⟨b, 3, none⟩ v3).setCell ⟨b, 4, none⟩ v4).drew.cell? ⟨x, i4, none⟩ = some u4 ∧ (((((W.setCell ⟨b, 0, none⟩ v0).setCell ⟨b, 1, none⟩ v1).setCell ⟨b, 2, none⟩ v2).setCell ⟨b, 3, none⟩ v3).setCell ⟨b, 4, none⟩ v4).drew.cell? ⟨y, i5, none⟩ = some u5 ∧ (((((W.setCell ⟨b, 0, none⟩ v0).setCell ⟨b, 1, none⟩ v1).setCell ⟨b, 2, none⟩ v2).setCell ⟨b, 3, none⟩ v3).setCell ⟨b, 4, none⟩ v4).drew.cell? ⟨y, i6, none⟩ = some u6 ∧ (((((W.setCell ⟨b, 0, none⟩ v0).setCell ⟨b, 1, none⟩ v1).setCell ⟨b, 2, none⟩ v2).setCell ⟨b, 3, none⟩ v3).setCell ⟨b, 4, none⟩ v4).drew.cell? ⟨y, i7, none⟩ = some u7 ∧ (((((W.setCell ⟨b, 0, none⟩ v0).setCell ⟨b, 1, none⟩ v1).setCell ⟨b, 2, none⟩ v2).setCell ⟨b, 3, none⟩ v3).setCell ⟨b, 4, none⟩ v4).drew.cell? ⟨y, i8, none⟩ = some u8 ∧ (((((W.setCell ⟨b, 0, none⟩ v0).setCell ⟨b, 1, none⟩ v1).setCell ⟨b, 2, none⟩ v2).setCell ⟨b, 3, none⟩ v3).setCell ⟨b, 4, none⟩ v4).drew.cell? ⟨y, i9, none⟩ = some u9 := by
  obtain ⟨h0, h1, h2, h3, h4, h5, h6, h7, h8, h9⟩ := h
  exact ⟨drew_cell (cell1_set _ h_x (cell1_set _ h_x (cell1_set _ h_x (cell1_set _ h_x (cell1_set _ h_x (cell_drew h0)))))), drew_cell (cell1_set _ h_x (cell1_set _ h_x (cell1_set _ h_x (cell1_set _ h_x (cell1_set _ h_x (cell_drew h1)))))), drew_cell (cell1_set _ h_x (cell1_set _ h_x (cell1_set _ h_x (cell1_set _ h_x (cell1_set _ h_x (cell_drew h2)))))), drew_cell (cell1_set _ h_x (cell1_set _ h_x (cell1_set _ h_x (cell1_set _ h_x (cell1_set _ h_x (cell_drew h3)))))), drew_cell (cell1_set _ h_x (cell1_set _ h_x (cell1_set _ h_x (cell1_set _ h_x (cell1_set _ h_x (cell_drew h4)))))), drew_cell (cell1_set _ h_y (cell1_set _ h_y (cell1_set _ h_y (cell1_set _ h_y (cell1_set _ h_y (cell_drew h5)))))), drew_cell (cell1_set _ h_y (cell1_set _ h_y (cell1_set _ h_y (cell1_set _ h_y (cell1_set _ h_y (cell_drew h6)))))), drew_cell (cell1_set _ h_y (cell1_set _ h_y (cell1_set _ h_y (cell1_set _ h_y (cell1_set _ h_y (cell_drew h7)))))), drew_cell (cell1_set _ h_y (cell1_set _ h_y (cell1_set _ h_y (cell1_set _ h_y (cell1_set _ h_y (cell_drew h8)))))), drew_cell (cell1_set _ h_y (cell1_set _ h_y (cell1_set _ h_y (cell1_set _ h_y (cell1_set _ h_y (cell_drew h9))))))⟩
theorem wcells10_sets7 {W : World} {x y i0 i1 i2 i3 i4 i5 i6 i7 i8 i9 : Nat} {u0 u1 u2 u3 u4 u5 u6 u7 u8 u9 : Value} (h : W.drew.cell? ⟨x, i0, none⟩ = some u0 ∧ W.drew.cell? ⟨x, i1, none⟩ = some u1 ∧ W.drew.cell? ⟨x, i2, none⟩ = some u2 ∧ W.drew.cell? ⟨x, i3, none⟩ = some u3 ∧ W.drew.cell? ⟨x, i4, none⟩ = some u4 ∧ W.drew.cell? ⟨y, i5, none⟩ = some u5 ∧ W.drew.cell? ⟨y, i6, none⟩ = some u6 ∧ W.drew.cell? ⟨y, i7, none⟩ = some u7 ∧ W.drew.cell? ⟨y, i8, none⟩ = some u8 ∧ W.drew.cell? ⟨y, i9, none⟩ = some u9) (b : Nat) (h_x : b ≠ x) (h_y : b ≠ y) (v0 v1 v2 v3 v4 v5 v6 : Value) :
    (((((((W.setCell ⟨b, 0, none⟩ v0).setCell ⟨b, 1, none⟩ v1).setCell ⟨b, 2, none⟩ v2).setCell ⟨b, 3, none⟩ v3).setCell ⟨b, 4, none⟩ v4).setCell ⟨b, 5, none⟩ v5).setCell ⟨b, 6, none⟩ v6).drew.cell? ⟨x, i0, none⟩ = some u0 ∧ (((((((W.setCell ⟨b, 0, none⟩ v0).setCell ⟨b, 1, none⟩ v1).setCell ⟨b, 2, none⟩ v2).setCell ⟨b, 3, none⟩ v3).setCell ⟨b, 4, none⟩ v4).setCell ⟨b, 5, none⟩ v5).setCell ⟨b, 6, none⟩ v6).drew.cell? ⟨x, i1, none⟩ = some u1 ∧ (((((((W.setCell ⟨b, 0, none⟩ v0).setCell ⟨b, 1, none⟩ v1).setCell ⟨b, 2, none⟩ v2).setCell ⟨b, 3, none⟩ v3).setCell ⟨b, 4, none⟩ v4).setCell ⟨b, 5, none⟩ v5).setCell ⟨b, 6, none⟩ v6).drew.cell? ⟨x, i2, none⟩ = some u2 ∧ (((((((W.setCell ⟨b, 0, none⟩ v0).setCell ⟨b, 1, none⟩ v1).setCell ⟨b, 2, none⟩ v2).setCell ⟨b, 3, none⟩ v3).setCell ⟨b, 4, none⟩ v4).setCell ⟨b, 5, none⟩ v5).setCell ⟨b, 6, none⟩ v6).drew.cell? ⟨x, i3, none⟩ = some u3 ∧ (((((((W.setCell ⟨b, 0, none⟩ v0).setCell ⟨b, 1, none⟩ v1).setCell ⟨b, 2, none⟩ v2).setCell ⟨b, 3, none⟩ v3).setCell ⟨b, 4, none⟩ v4).setCell ⟨b, 5, none⟩ v5).setCell ⟨b, 6, none⟩ v6).drew.cell? ⟨x, i4, none⟩ = some u4 ∧ (((((((W.setCell ⟨b, 0, none⟩ v0).setCell ⟨b, 1, none⟩ v1).setCell ⟨b, 2, none⟩ v2).setCell ⟨b, 3, none⟩ v3).setCell ⟨b, 4, none⟩ v4).setCell ⟨b, 5, none⟩ v5).setCell ⟨b, 6, none⟩ v6).drew.cell? ⟨y, i5, none⟩ = some u5 ∧ (((((((W.setCell ⟨b, 0, none⟩ v0).setCell ⟨b, 1, none⟩ v1).setCell ⟨b, 2, none⟩ v2).setCell ⟨b, 3, none⟩ v3).setCell ⟨b, 4, none⟩ v4).setCell ⟨b, 5, none⟩ v5).setCell ⟨b, 6, none⟩ v6).drew.cell? ⟨y, i6, none⟩ = some u6 ∧ (((((((W.setCell ⟨b, 0, none⟩ v0).setCell ⟨b, 1, none⟩ v1).setCell ⟨b, 2, none⟩ v2).setCell ⟨b, 3, none⟩ v3).setCell ⟨b, 4, none⟩ v4).setCell ⟨b, 5, none⟩ v5).setCell ⟨b, 6, none⟩ v6).drew.cell? ⟨y, i7, none⟩ = some u7 ∧ (((((((W.setCell ⟨b, 0, none⟩ v0).setCell ⟨b, 1, none⟩ v1).setCell ⟨b, 2, none⟩ v2).setCell ⟨b, 3, none⟩ v3).setCell ⟨b, 4, none⟩ v4).setCell ⟨b, 5, none⟩ v5).setCell ⟨b, 6, none⟩ v6).drew.cell? ⟨y, i8, none⟩ = some u8 ∧ (((((((W.setCell ⟨b, 0, none⟩ v0).setCell ⟨b, 1, none⟩ v1).setCell ⟨b, 2, none⟩ v2).setCell ⟨b, 3, none⟩ v3).setCell ⟨b, 4, none⟩ v4).setCell ⟨b, 5, none⟩ v5).setCell ⟨b, 6, none⟩ v6).drew.cell? ⟨y, i9, none⟩ = some u9 := by
  obtain ⟨h0, h1, h2, h3, h4, h5, h6, h7, h8, h9⟩ := h
  exact ⟨drew_cell (cell1_set _ h_x (cell1_set _ h_x (cell1_set _ h_x (cell1_set _ h_x (cell1_set _ h_x (cell1_set _ h_x (cell1_set _ h_x (cell_drew h0)))))))), drew_cell (cell1_set _ h_x (cell1_set _ h_x (cell1_set _ h_x (cell1_set _ h_x (cell1_set _ h_x (cell1_set _ h_x (cell1_set _ h_x (cell_drew h1)))))))), drew_cell (cell1_set _ h_x (cell1_set _ h_x (cell1_set _ h_x (cell1_set _ h_x (cell1_set _ h_x (cell1_set _ h_x (cell1_set _ h_x (cell_drew h2)))))))), drew_cell (cell1_set _ h_x (cell1_set _ h_x (cell1_set _ h_x (cell1_set _ h_x (cell1_set _ h_x (cell1_set _ h_x (cell1_set _ h_x (cell_drew h3)))))))), drew_cell (cell1_set _ h_x (cell1_set _ h_x (cell1_set _ h_x (cell1_set _ h_x (cell1_set _ h_x (cell1_set _ h_x (cell1_set _ h_x (cell_drew h4)))))))), drew_cell (cell1_set _ h_y (cell1_set _ h_y (cell1_set _ h_y (cell1_set _ h_y (cell1_set _ h_y (cell1_set _ h_y (cell1_set _ h_y (cell_drew h5)))))))), drew_cell (cell1_set _ h_y (cell1_set _ h_y (cell1_set _ h_y (cell1_set _ h_y (cell1_set _ h_y (cell1_set _ h_y (cell1_set _ h_y (cell_drew h6)))))))), drew_cell (cell1_set _ h_y (cell1_set _ h_y (cell1_set _ h_y (cell1_set _ h_y (cell1_set _ h_y (cell1_set _ h_y (cell1_set _ h_y (cell_drew h7)))))))), drew_cell (cell1_set _ h_y (cell1_set _ h_y (cell1_set _ h_y (cell1_set _ h_y (cell1_set _ h_y (cell1_set _ h_y (cell1_set _ h_y (cell_drew h8)))))))), drew_cell (cell1_set _ h_y (cell1_set _ h_y (cell1_set _ h_y (cell1_set _ h_y (cell1_set _ h_y (cell1_set _ h_y (cell1_set _ h_y (cell_drew h9))))))))⟩
theorem dec_spB {s : List UInt8} (h : (decS s).2 = 0) : spB (decS s).1 = true := by
  unfold decS decD at h ⊢
  split at h
  · next h1 => exact absurd h h1
  · next h1 =>
    rw [if_neg h1]
    split at h
    · next h2 =>
      rw [if_pos h2]
      split at h
      · next h3 => exact absurd h h3
      · next h3 =>
        rw [if_neg h3]
        split at h
        · next h4 => rw [if_pos h4]; exact h4.2.2
        · simp at h
    · simp at h
theorem best_spB {a b : List UInt8} (h : (bestS a b).2 = true) : spB (bestS a b).1 = true := by
  unfold bestS at h ⊢
  split at h
  · next h1 => rw [if_pos h1]; exact dec_spB h1.1
  · next h1 =>
    rw [if_neg h1]
    split at h
    · next h2 => rw [if_pos h2]; exact dec_spB h2
    · simp at h
theorem load_spB {d : Dk} {x : Sp} (h : loadS d = (x, 0)) : spB x = true := by
  unfold loadS at h
  by_cases h1 : (readS d 0).2 ≠ 0
  · rw [if_pos h1] at h; exact absurd (congrArg Prod.snd h) h1
  · rw [if_neg h1] at h
    by_cases h2 : (readS d 1).2 ≠ 0
    · rw [if_pos h2] at h; exact absurd (congrArg Prod.snd h) h2
    · rw [if_neg h2] at h
      by_cases h3 : (bestS (readS d 0).1 (readS d 1).1).2 = true
      · rw [if_pos h3] at h
        have := best_spB h3
        rw [congrArg Prod.fst h] at this
        exact this
      · rw [if_neg h3] at h; exact absurd (congrArg Prod.snd h) (by simp)
theorem recF_le : ∀ (f : Nat) (L : List (List UInt8)) (least most : Int), (recF f L least most).1.length ≤ (recF f L least most).2 ∧ (recF f L least most).2 ≤ L.length := by
  intro f
  induction f with
  | zero => intro L least most; exact ⟨Nat.le_refl _, Nat.zero_le _⟩
  | succ f ih =>
    intro L least most
    unfold recF
    by_cases h : (joinS L least most).2.2.2 = true
    · rw [if_pos h]
      obtain ⟨rec, g, k, hj, k1, k2, _⟩ := join_ok h
      have hi := ih (L.drop (joinS L least most).2.2.1.toNat) (joinS L least most).2.1 most
      rw [hj] at hi ⊢
      simp only [Int.toNat_natCast, List.length_drop, List.length_cons] at hi ⊢
      omega
    · rw [if_neg h]; exact ⟨Nat.le_refl _, Nat.zero_le _⟩
theorem log_le {d : Dk} {x : Sp} {M : List (List UInt8)} {k : Nat} (h : logS d x = (M, k)) (hv : validB d = true) : M.length ≤ k ∧ k ≤ 1016 := by
  have h1 := recF_le (regS d (2 + 2 * (arN d : Int)) (szN d)).length (regS d (2 + 2 * (arN d : Int)) (szN d)) x.e x.g
  have h2 := (arN_bounds hv).2.2.2.1
  rw [show recF (regS d (2 + 2 * (arN d : Int)) (szN d)).length (regS d (2 + 2 * (arN d : Int)) (szN d)) x.e x.g = (M, k) from h, regS_length] at h1
  simp only at h1
  omega
theorem ints_none {B o : Nat} {s : List UInt8} {T : TypeId} {W : World} {i0 i1 i2 i3 i4 : Int} (h : Bx B #[.int .i64 i0, .int .i64 i1, .int .i64 i2, .int .i64 i3, .int .i64 i4] T W) : W.cell? ⟨B, o, none⟩ ≠ some (strV s) := by
  rw [h.cell o]
  match o with
  | 0 | 1 | 2 | 3 | 4 => intro e; cases e
  | n + 5 => intro e; simp at e
theorem Lists.sets_ints2 {W : World} {sa pa : Option Addr} {sc pc : Nat} {d : Dk} (h : Lists W sa sc pa pc d) {B : Nat} {T : TypeId} {i0 i1 i2 i3 i4 : Int} (hB : Bx B #[.int .i64 i0, .int .i64 i1, .int .i64 i2, .int .i64 i3, .int .i64 i4] T W) (u0 u1 u2 u3 u4 : Value) :
    Lists (((((W.setCell ⟨B, 0, none⟩ u0).setCell ⟨B, 1, none⟩ u1).setCell ⟨B, 2, none⟩ u2).setCell ⟨B, 3, none⟩ u3).setCell ⟨B, 4, none⟩ u4) sa sc pa pc d := by
  obtain ⟨⟨a, cap, he, hc, hx⟩, ⟨a', cap', he', hc', hx'⟩, h3, h4⟩ := h
  refine ⟨⟨a, cap, he, hc, fun hne => ?_⟩, ⟨a', cap', he', hc', fun hne => ?_⟩, h3, h4⟩
  · obtain ⟨b, off, ha, hcell⟩ := hx hne
    refine ⟨b, off, ha, fun i hi => cell1_sets (hcell i hi) ?_ _ _ _ _ _⟩
    intro e; subst e; exact ints_none hB (hcell i hi)
  · obtain ⟨b, off, ha, hcell⟩ := hx' hne
    refine ⟨b, off, ha, fun i hi => ?_⟩
    have hne2 : B ≠ b := by intro e; subst e; exact ints_none hB (hcell i hi).2
    exact ⟨cell1_sets (hcell i hi).1 hne2 _ _ _ _ _, cell1_sets (hcell i hi).2 hne2 _ _ _ _ _⟩
theorem Lists.set_int {W : World} {sa pa : Option Addr} {sc pc : Nat} {d : Dk} (h : Lists W sa sc pa pc d) {B : Nat} {T : TypeId} {i0 i1 i2 i3 i4 : Int} (hB : Bx B #[.int .i64 i0, .int .i64 i1, .int .i64 i2, .int .i64 i3, .int .i64 i4] T W) (u0 : Value) :
    Lists (W.setCell ⟨B, 0, none⟩ u0) sa sc pa pc d := by
  obtain ⟨⟨a, cap, he, hc, hx⟩, ⟨a', cap', he', hc', hx'⟩, h3, h4⟩ := h
  refine ⟨⟨a, cap, he, hc, fun hne => ?_⟩, ⟨a', cap', he', hc', fun hne => ?_⟩, h3, h4⟩
  · obtain ⟨b, off, ha, hcell⟩ := hx hne
    refine ⟨b, off, ha, fun i hi => cell1_set _ ?_ (hcell i hi)⟩
    intro e; subst e; exact ints_none hB (hcell i hi)
  · obtain ⟨b, off, ha, hcell⟩ := hx' hne
    refine ⟨b, off, ha, fun i hi => ?_⟩
    have hne2 : B ≠ b := by intro e; subst e; exact ints_none hB (hcell i hi).2
    exact ⟨cell1_set _ hne2 (hcell i hi).1, cell1_set _ hne2 (hcell i hi).2⟩
set_option maxRecDepth 100000 in
set_option maxHeartbeats 64000000 in
theorem openW_any (sa pa : Option Addr) (sc pc : Nat) (d : Dk) (w : World) (hD : Lists w sa sc pa pc d) (hp : d.P.length ≤ 8999999999999) :
    Calls Try.prog 35 #[.agg #[.slice sa d.S.length sc, .slice pa d.P.length pc, .int .i64 d.fuse, .int .i64 d.ops, .bool d.dead]] w (WOPost (openW d) w) := by
  obtain ⟨⟨x, e⟩, hl⟩ : ∃ r, loadS d = r := ⟨_, rfl⟩
  have HL := Lib.hid hl; clear hl
  have hb0 := ((((Below.refl w.heap.size w).alloc (Nat.le_refl _) (.cells #[.slice sa d.S.length sc, .slice pa d.P.length pc, .int .i64 d.fuse, .int .i64 d.ops, .bool d.dead] 38)).alloc (by simp) (.cells #[.slice none 0 0, .slice none 0 0, .int .i64 0, .int .i64 0, .bool false] 38)).alloc (by simp; try omega) (.cells #[.int .i64 0, .int .i64 0, .int .i64 0, .int .i64 0, .int .i64 0, .int .i64 0, .int .i64 0] 57))
  have h_HX := (((Bx.new w #[.slice sa d.S.length sc, .slice pa d.P.length pc, .int .i64 d.fuse, .int .i64 d.ops, .bool d.dead] 38).alloc (.cells #[.slice none 0 0, .slice none 0 0, .int .i64 0, .int .i64 0, .bool false] 38)).alloc (.cells #[.int .i64 0, .int .i64 0, .int .i64 0, .int .i64 0, .int .i64 0, .int .i64 0, .int .i64 0] 57))
  have h_HR := ((Bx.new (w.alloc (.cells #[.slice sa d.S.length sc, .slice pa d.P.length pc, .int .i64 d.fuse, .int .i64 d.ops, .bool d.dead] 38)) #[.slice none 0 0, .slice none 0 0, .int .i64 0, .int .i64 0, .bool false] 38).alloc (.cells #[.int .i64 0, .int .i64 0, .int .i64 0, .int .i64 0, .int .i64 0, .int .i64 0, .int .i64 0] 57))
  rw [show (w.alloc (.cells #[.slice sa d.S.length sc, .slice pa d.P.length pc, .int .i64 d.fuse, .int .i64 d.ops, .bool d.dead] 38)).heap.size = w.heap.size + 1 by simp] at h_HR
  have h_HJ := (Bx.new ((w.alloc (.cells #[.slice sa d.S.length sc, .slice pa d.P.length pc, .int .i64 d.fuse, .int .i64 d.ops, .bool d.dead] 38)).alloc (.cells #[.slice none 0 0, .slice none 0 0, .int .i64 0, .int .i64 0, .bool false] 38)) #[.int .i64 0, .int .i64 0, .int .i64 0, .int .i64 0, .int .i64 0, .int .i64 0, .int .i64 0] 57)
  rw [show ((w.alloc (.cells #[.slice sa d.S.length sc, .slice pa d.P.length pc, .int .i64 d.fuse, .int .i64 d.ops, .bool d.dead] 38)).alloc (.cells #[.slice none 0 0, .slice none 0 0, .int .i64 0, .int .i64 0, .bool false] 38)).heap.size = w.heap.size + 2 by simp] at h_HJ
  have HB := Lib.hid hb0; have HX := Lib.hid h_HX; have HR := Lib.hid h_HR; have HJ := Lib.hid h_HJ
  clear hb0 h_HX h_HR h_HJ
  have HD := Lib.hid (hD.below HB.out)
  go_enter Try.func35, Try.ntmps35
  go_upto_region 1 with (fail)
  generalize hW0 : ((w.alloc (.cells #[.slice sa d.S.length sc, .slice pa d.P.length pc, .int .i64 d.fuse, .int .i64 d.ops, .bool d.dead] 38)).alloc (.cells #[.slice none 0 0, .slice none 0 0, .int .i64 0, .int .i64 0, .bool false] 38)).alloc (.cells #[.int .i64 0, .int .i64 0, .int .i64 0, .int .i64 0, .int .i64 0, .int .i64 0, .int .i64 0] 57) = v0 at HB HD HX HR HJ ⊢
  clear hW0
  have x0 : v0.cell? ⟨w.heap.size, 0, none⟩ = some (.slice sa d.S.length sc) := HX.out.cell 0
  have x1 : v0.cell? ⟨w.heap.size, 1, none⟩ = some (.slice pa d.P.length pc) := HX.out.cell 1
  have x2 : v0.cell? ⟨w.heap.size, 2, none⟩ = some (.int .i64 d.fuse) := HX.out.cell 2
  have x3 : v0.cell? ⟨w.heap.size, 3, none⟩ = some (.int .i64 d.ops) := HX.out.cell 3
  have x4 : v0.cell? ⟨w.heap.size, 4, none⟩ = some (.bool d.dead) := HX.out.cell 4
  cases hv : validB d with
  | false =>
    have HV := Lib.hid hv; clear hv
    go_wp2_with fail
    refine (Valid_any _ _ _ _ d _ HD.out).mono ?_
    rw [HV.out]
    rintro er w1 ⟨rfl, hb1⟩
    clear x0 x1 x2 x3 x4
    have HX := Lib.hid (HX.out.call hb1)
    have HR := Lib.hid (HR.out.call hb1)
    have HJ := Lib.hid (HJ.out.call hb1)
    have HD := Lib.hid (HD.out.below hb1)
    have HB := Lib.hid (btrans HB.out HB.out.size hb1); clear hb1
    have hres : openW d = ⟨d, j0, [], [], 1⟩ := by unfold openW; rw [if_neg (by rw [HV.out]; simp)]
    have HRES := Lib.hid hres; clear hres
    have x0 : w1.cell? ⟨w.heap.size, 0, none⟩ = some (.slice sa d.S.length sc) := HX.out.cell 0
    have x1 : w1.cell? ⟨w.heap.size, 1, none⟩ = some (.slice pa d.P.length pc) := HX.out.cell 1
    have x2 : w1.cell? ⟨w.heap.size, 2, none⟩ = some (.int .i64 d.fuse) := HX.out.cell 2
    have x3 : w1.cell? ⟨w.heap.size, 3, none⟩ = some (.int .i64 d.ops) := HX.out.cell 3
    have x4 : w1.cell? ⟨w.heap.size, 4, none⟩ = some (.bool d.dead) := HX.out.cell 4
    go_wp2_with fail
    refine (clone_w _ _ _ _ d _ HD.out).mono ?_
    rintro er wc ⟨a1, c1, a2, c2, rfl, hO1, hb1⟩
    clear x0 x1 x2 x3 x4
    have zj := HJ.out.lt
    have hO2 := hO1
    have HR := Lib.hid (HR.out.call hb1)
    have HJ := Lib.hid (HJ.out.call hb1)
    have HB := Lib.hid (btrans HB.out HB.out.size hb1); clear hb1
    have hres := HRES.out
    have r0 : wc.cell? ⟨(w.heap.size + 1), 0, none⟩ = some (.slice none 0 0) := HR.out.cell 0
    have r1 : wc.cell? ⟨(w.heap.size + 1), 1, none⟩ = some (.slice none 0 0) := HR.out.cell 1
    have r2 : wc.cell? ⟨(w.heap.size + 1), 2, none⟩ = some (.int .i64 0) := HR.out.cell 2
    have r3 : wc.cell? ⟨(w.heap.size + 1), 3, none⟩ = some (.int .i64 0) := HR.out.cell 3
    have r4 : wc.cell? ⟨(w.heap.size + 1), 4, none⟩ = some (.bool false) := HR.out.cell 4
    have q0 : wc.cell? ⟨(w.heap.size + 2), 0, none⟩ = some (.int .i64 0) := HJ.out.cell 0
    have q1 : wc.cell? ⟨(w.heap.size + 2), 1, none⟩ = some (.int .i64 0) := HJ.out.cell 1
    have q2 : wc.cell? ⟨(w.heap.size + 2), 2, none⟩ = some (.int .i64 0) := HJ.out.cell 2
    have q3 : wc.cell? ⟨(w.heap.size + 2), 3, none⟩ = some (.int .i64 0) := HJ.out.cell 3
    have q4 : wc.cell? ⟨(w.heap.size + 2), 4, none⟩ = some (.int .i64 0) := HJ.out.cell 4
    have q5 : wc.cell? ⟨(w.heap.size + 2), 5, none⟩ = some (.int .i64 0) := HJ.out.cell 5
    have q6 : wc.cell? ⟨(w.heap.size + 2), 6, none⟩ = some (.int .i64 0) := HJ.out.cell 6
    have f0 := HR.out.free 0
    have f1 := HR.out.free 1
    have f2 := HR.out.free 2
    have f3 := HR.out.free 3
    have f4 := HR.out.free 4
    have p0 := HJ.out.free 0
    have p1 := HJ.out.free 1
    have p2 := HJ.out.free 2
    have p3 := HJ.out.free 3
    have p4 := HJ.out.free 4
    have p5 := HJ.out.free 5
    have p6 := HJ.out.free 6
    have KR := Lib.hid ((HR.out.sets (.slice a1 d.S.length c1) (.slice a2 d.P.length c2) (.int .i64 d.fuse) (.int .i64 d.ops) (.bool d.dead)).sets7_ne (c := w.heap.size + 2) (by omega) (.int .i64 0) (.int .i64 0) (.int .i64 0) (.int .i64 0) (.int .i64 0) (.int .i64 0) (.int .i64 0))
    have KJ := Lib.hid ((HJ.out.sets_ne (c := w.heap.size + 1) (by omega) (.slice a1 d.S.length c1) (.slice a2 d.P.length c2) (.int .i64 d.fuse) (.int .i64 d.ops) (.bool d.dead)).sets7 (.int .i64 0) (.int .i64 0) (.int .i64 0) (.int .i64 0) (.int .i64 0) (.int .i64 0) (.int .i64 0))
    go_wp2
    have k0 := KR.out.cell 0
    have k1 := KR.out.cell 1
    have k2 := KR.out.cell 2
    have k3 := KR.out.cell 3
    have k4 := KR.out.cell 4
    have m0 := KJ.out.cell 0
    have m1 := KJ.out.cell 1
    have m2 := KJ.out.cell 2
    have m3 := KJ.out.cell 3
    have m4 := KJ.out.cell 4
    have m5 := KJ.out.cell 5
    have m6 := KJ.out.cell 6
    simp only [List.getElem?_toArray, List.getElem?_cons_zero, List.getElem?_cons_succ] at k0 k1 k2 k3 k4 m0 m1 m2 m3 m4 m5 m6
    refine bodyPost_ret (v := .tuple #[.agg #[.slice a1 d.S.length c1, .slice a2 d.P.length c2, .int .i64 d.fuse, .int .i64 d.ops, .bool d.dead], .agg #[.int .i64 0, .int .i64 0, .int .i64 0, .int .i64 0, .int .i64 0, .int .i64 0, .int .i64 0], .string (bs []), .slice none 0 0, .int .i64 1]) (by simp [results, Try.results35, go_sem, k0, k1, k2, k3, k4, m0, m1, m2, m3, m4, m5, m6]; rfl) rfl ?_
    refine WOPost.mk ⟨d, j0, [], [], 1⟩ a1 c1 a2 c2 (.slice none 0 0) rfl ?_ ?_ (below_sets7 (below_sets HB.out (w.heap.size + 1) (by omega) (.slice a1 d.S.length c1) (.slice a2 d.P.length c2) (.int .i64 d.fuse) (.int .i64 d.ops) (.bool d.dead)) (w.heap.size + 2) (by omega) (.int .i64 0) (.int .i64 0) (.int .i64 0) (.int .i64 0) (.int .i64 0) (.int .i64 0) (.int .i64 0)) hres
    · exact ((hO2.sets (w.heap.size + 1) (by omega) (.slice a1 d.S.length c1) (.slice a2 d.P.length c2) (.int .i64 d.fuse) (.int .i64 d.ops) (.bool d.dead)).sets7 (w.heap.size + 2) (by omega) (.int .i64 0) (.int .i64 0) (.int .i64 0) (.int .i64 0) (.int .i64 0) (.int .i64 0) (.int .i64 0)).mono (by omega)
    · exact World.ownsRow_nil _ _ _ _
  | true =>
    have HV := Lib.hid hv; clear hv
    go_wp2_with fail
    refine (Valid_any _ _ _ _ d _ HD.out).mono ?_
    rw [HV.out]
    rintro er w1 ⟨rfl, hb1⟩
    clear x0 x1 x2 x3 x4
    have HX := Lib.hid (HX.out.call hb1)
    have HR := Lib.hid (HR.out.call hb1)
    have HJ := Lib.hid (HJ.out.call hb1)
    have HD := Lib.hid (HD.out.below hb1)
    have HB := Lib.hid (btrans HB.out HB.out.size hb1); clear hb1
    have x0 : w1.cell? ⟨w.heap.size, 0, none⟩ = some (.slice sa d.S.length sc) := HX.out.cell 0
    have x1 : w1.cell? ⟨w.heap.size, 1, none⟩ = some (.slice pa d.P.length pc) := HX.out.cell 1
    have x2 : w1.cell? ⟨w.heap.size, 2, none⟩ = some (.int .i64 d.fuse) := HX.out.cell 2
    have x3 : w1.cell? ⟨w.heap.size, 3, none⟩ = some (.int .i64 d.ops) := HX.out.cell 3
    have x4 : w1.cell? ⟨w.heap.size, 4, none⟩ = some (.bool d.dead) := HX.out.cell 4
    go_wp2_with fail
    refine (SLoad_any _ _ _ _ d _ HD.out).mono ?_
    rw [HL.out]
    simp only [spV]
    rintro er w2 ⟨rfl, hb1⟩
    clear x0 x1 x2 x3 x4
    have HX := Lib.hid (HX.out.call hb1)
    have HR := Lib.hid (HR.out.call hb1)
    have HJ := Lib.hid (HJ.out.call hb1)
    have HD := Lib.hid (HD.out.below hb1)
    have HB := Lib.hid (btrans HB.out HB.out.size hb1); clear hb1
    have zj2 := HJ.out.lt
    have hal := (Below.refl w2.heap.size w2).alloc (Nat.le_refl _) (.cells #[.int .i64 x.g, .int .i64 x.e, .int .i64 x.a, .int .i64 x.z, .int .i64 x.p] 23)
    have HS := Lib.hid (Bx.new w2 #[.int .i64 x.g, .int .i64 x.e, .int .i64 x.a, .int .i64 x.z, .int .i64 x.p] 23)
    have HX := Lib.hid (HX.out.call hal)
    have HR := Lib.hid (HR.out.call hal)
    have HJ := Lib.hid (HJ.out.call hal)
    have HD := Lib.hid (HD.out.below hal)
    have HB := Lib.hid (btrans HB.out HB.out.size hal); clear hal
    go_upto_region 4 with (fail)
    generalize hW : w2.alloc (.cells #[.int .i64 x.g, .int .i64 x.e, .int .i64 x.a, .int .i64 x.z, .int .i64 x.p] 23) = v2 at HX HR HJ HD HB HS ⊢
    clear hW
    have zj := HJ.out.lt
    have zs := HS.out.lt
    by_cases h20 : e = 20
    · subst h20
      obtain ⟨⟨nd, fe⟩, hst⟩ : ∃ r, storeS d sp1 = r := ⟨_, rfl⟩
      have HST := Lib.hid hst; clear hst
      have s0 : v2.cell? ⟨w2.heap.size, 0, none⟩ = some (.int .i64 x.g) := HS.out.cell 0
      have s1 : v2.cell? ⟨w2.heap.size, 1, none⟩ = some (.int .i64 x.e) := HS.out.cell 1
      have s2 : v2.cell? ⟨w2.heap.size, 2, none⟩ = some (.int .i64 x.a) := HS.out.cell 2
      have s3 : v2.cell? ⟨w2.heap.size, 3, none⟩ = some (.int .i64 x.z) := HS.out.cell 3
      have s4 : v2.cell? ⟨w2.heap.size, 4, none⟩ = some (.int .i64 x.p) := HS.out.cell 4
      have g0 := HS.out.free 0
      have g1 := HS.out.free 1
      have g2 := HS.out.free 2
      have g3 := HS.out.free 3
      have g4 := HS.out.free 4
      go_upto_region 8 with (fail)
      clear s0 s1 s2 s3 s4
      clear g0 g1 g2 g3 g4
      have HX := Lib.hid (HX.out.sets_ne (c := w2.heap.size) (by omega) (.int .i64 1) (.int .i64 0) (.int .i64 0) (.int .i64 0) (.int .i64 0)); have HR := Lib.hid (HR.out.sets_ne (c := w2.heap.size) (by omega) (.int .i64 1) (.int .i64 0) (.int .i64 0) (.int .i64 0) (.int .i64 0)); have HJ := Lib.hid (HJ.out.sets_ne (c := w2.heap.size) (by omega) (.int .i64 1) (.int .i64 0) (.int .i64 0) (.int .i64 0) (.int .i64 0)); have HD := Lib.hid (HD.out.sets_ints2 HS.out (.int .i64 1) (.int .i64 0) (.int .i64 0) (.int .i64 0) (.int .i64 0)); have HB := Lib.hid (below_sets HB.out w2.heap.size (by omega) (.int .i64 1) (.int .i64 0) (.int .i64 0) (.int .i64 0) (.int .i64 0)); have HS := Lib.hid (HS.out.sets (.int .i64 1) (.int .i64 0) (.int .i64 0) (.int .i64 0) (.int .i64 0))
      generalize hW : (((((v2.setCell ⟨w2.heap.size, 0, none⟩ (.int .i64 1)).setCell ⟨w2.heap.size, 1, none⟩ (.int .i64 0)).setCell ⟨w2.heap.size, 2, none⟩ (.int .i64 0)).setCell ⟨w2.heap.size, 3, none⟩ (.int .i64 0)).setCell ⟨w2.heap.size, 4, none⟩ (.int .i64 0)) = v3 at HX HR HJ HD HB HS ⊢
      clear hW
      have zj3 := HJ.out.lt
      have x0 : v3.cell? ⟨w.heap.size, 0, none⟩ = some (.slice sa d.S.length sc) := HX.out.cell 0
      have x1 : v3.cell? ⟨w.heap.size, 1, none⟩ = some (.slice pa d.P.length pc) := HX.out.cell 1
      have x2 : v3.cell? ⟨w.heap.size, 2, none⟩ = some (.int .i64 d.fuse) := HX.out.cell 2
      have x3 : v3.cell? ⟨w.heap.size, 3, none⟩ = some (.int .i64 d.ops) := HX.out.cell 3
      have x4 : v3.cell? ⟨w.heap.size, 4, none⟩ = some (.bool d.dead) := HX.out.cell 4
      have s0 : v3.cell? ⟨w2.heap.size, 0, none⟩ = some (.int .i64 1) := HS.out.cell 0
      have s1 : v3.cell? ⟨w2.heap.size, 1, none⟩ = some (.int .i64 0) := HS.out.cell 1
      have s2 : v3.cell? ⟨w2.heap.size, 2, none⟩ = some (.int .i64 0) := HS.out.cell 2
      have s3 : v3.cell? ⟨w2.heap.size, 3, none⟩ = some (.int .i64 0) := HS.out.cell 3
      have s4 : v3.cell? ⟨w2.heap.size, 4, none⟩ = some (.int .i64 0) := HS.out.cell 4
      go_wp2_with fail
      refine (SStore_any _ _ _ _ d sp1 _ HD.out hp).mono ?_
      rw [HST.out]
      rintro er w4 ⟨a3, c3, a4, c4, rfl, hO4, hb1⟩
      clear x0 x1 x2 x3 x4
      clear s0 s1 s2 s3 s4
      have zs4 := HS.out.lt
      have HX := Lib.hid (HX.out.call hb1)
      have HR := Lib.hid (HR.out.call hb1)
      have HJ := Lib.hid (HJ.out.call hb1)
      have HS := Lib.hid (HS.out.call hb1)
      have HB := Lib.hid (btrans HB.out HB.out.size hb1); clear hb1
      have zw4 := HJ.out.lt
      have hal := (Below.refl w4.heap.size w4).alloc (Nat.le_refl _) (.cells #[.slice a3 nd.S.length c3, .slice a4 nd.P.length c4, .int .i64 nd.fuse, .int .i64 nd.ops, .bool nd.dead] 38)
      have HN := Lib.hid (Bx.new w4 #[.slice a3 nd.S.length c3, .slice a4 nd.P.length c4, .int .i64 nd.fuse, .int .i64 nd.ops, .bool nd.dead] 38)
      have HO := Lib.hid (hO4.alloc (.cells #[.slice a3 nd.S.length c3, .slice a4 nd.P.length c4, .int .i64 nd.fuse, .int .i64 nd.ops, .bool nd.dead] 38)); clear hO4
      have HR := Lib.hid (HR.out.call hal)
      have HJ := Lib.hid (HJ.out.call hal)
      have HS := Lib.hid (HS.out.call hal)
      have HB := Lib.hid (btrans HB.out HB.out.size hal); clear hal
      go_upto_region 9 with (fail)
      generalize hW : w4.alloc (.cells #[.slice a3 nd.S.length c3, .slice a4 nd.P.length c4, .int .i64 nd.fuse, .int .i64 nd.ops, .bool nd.dead] 38) = v4 at HR HJ HB HS HN HO ⊢
      clear hW
      have zj4 := HJ.out.lt
      by_cases hf : fe = 0
      · subst hf
        have hres : openW d = ⟨nd, ⟨sp1, 0, 0⟩, [], [], 0⟩ := by unfold openW; rw [if_pos HV.out, HL.out]; simp only; rw [if_pos trivial, HST.out]; simp
        have HRES := Lib.hid hres; clear hres
        have n0 : v4.cell? ⟨w4.heap.size, 0, none⟩ = some (.slice a3 nd.S.length c3) := HN.out.cell 0
        have n1 : v4.cell? ⟨w4.heap.size, 1, none⟩ = some (.slice a4 nd.P.length c4) := HN.out.cell 1
        have n2 : v4.cell? ⟨w4.heap.size, 2, none⟩ = some (.int .i64 nd.fuse) := HN.out.cell 2
        have n3 : v4.cell? ⟨w4.heap.size, 3, none⟩ = some (.int .i64 nd.ops) := HN.out.cell 3
        have n4 : v4.cell? ⟨w4.heap.size, 4, none⟩ = some (.bool nd.dead) := HN.out.cell 4
        have s0 : v4.cell? ⟨w2.heap.size, 0, none⟩ = some (.int .i64 1) := HS.out.cell 0
        have s1 : v4.cell? ⟨w2.heap.size, 1, none⟩ = some (.int .i64 0) := HS.out.cell 1
        have s2 : v4.cell? ⟨w2.heap.size, 2, none⟩ = some (.int .i64 0) := HS.out.cell 2
        have s3 : v4.cell? ⟨w2.heap.size, 3, none⟩ = some (.int .i64 0) := HS.out.cell 3
        have s4 : v4.cell? ⟨w2.heap.size, 4, none⟩ = some (.int .i64 0) := HS.out.cell 4
        have hs10 : v4.drew.cell? ⟨w4.heap.size, 0, none⟩ = some (.slice a3 nd.S.length c3) ∧ v4.drew.cell? ⟨w4.heap.size, 1, none⟩ = some (.slice a4 nd.P.length c4) ∧ v4.drew.cell? ⟨w4.heap.size, 2, none⟩ = some (.int .i64 nd.fuse) ∧ v4.drew.cell? ⟨w4.heap.size, 3, none⟩ = some (.int .i64 nd.ops) ∧ v4.drew.cell? ⟨w4.heap.size, 4, none⟩ = some (.bool nd.dead) ∧ v4.drew.cell? ⟨w2.heap.size, 0, none⟩ = some (.int .i64 1) ∧ v4.drew.cell? ⟨w2.heap.size, 1, none⟩ = some (.int .i64 0) ∧ v4.drew.cell? ⟨w2.heap.size, 2, none⟩ = some (.int .i64 0) ∧ v4.drew.cell? ⟨w2.heap.size, 3, none⟩ = some (.int .i64 0) ∧ v4.drew.cell? ⟨w2.heap.size, 4, none⟩ = some (.int .i64 0) := ⟨n0, n1, n2, n3, n4, s0, s1, s2, s3, s4⟩
        have HS10 := Lib.hid hs10; clear hs10 n0 n1 n2 n3 n4 s0 s1 s2 s3 s4
        go_wp2_with fail
        refine wp_region_held_drew (S := (fun w' => w'.cell? ⟨w4.heap.size, 0, none⟩ = some (.slice a3 nd.S.length c3) ∧ w'.cell? ⟨w4.heap.size, 1, none⟩ = some (.slice a4 nd.P.length c4) ∧ w'.cell? ⟨w4.heap.size, 2, none⟩ = some (.int .i64 nd.fuse) ∧ w'.cell? ⟨w4.heap.size, 3, none⟩ = some (.int .i64 nd.ops) ∧ w'.cell? ⟨w4.heap.size, 4, none⟩ = some (.bool nd.dead) ∧ w'.cell? ⟨w2.heap.size, 0, none⟩ = some (.int .i64 1) ∧ w'.cell? ⟨w2.heap.size, 1, none⟩ = some (.int .i64 0) ∧ w'.cell? ⟨w2.heap.size, 2, none⟩ = some (.int .i64 0) ∧ w'.cell? ⟨w2.heap.size, 3, none⟩ = some (.int .i64 0) ∧ w'.cell? ⟨w2.heap.size, 4, none⟩ = some (.int .i64 0))) (by kernel_rfl) ?_ (fun hHeld => ?_)
        · exact HS10.out
        refine takeH (i := 0) (v := ?vv1) 52 rfl rfl (by kernel_rfl) (by kernel_rfl) (by kernel_rfl) (fun _ _ _ h => h) (Or.inl ⟨by kernel_rfl, ?yy1⟩) (by assumption) ?_
        case yy1 => intro w hSw; (try dsimp only at hSw); go_simp; (try with_reducible rfl)
        simp only [List.setIfInBounds_toArray, List.set_cons_zero, List.set_cons_succ]
        refine takeH (i := 1) (v := ?vv2) 53 rfl rfl (by kernel_rfl) (by kernel_rfl) (by kernel_rfl) (fun _ _ _ h => h) (Or.inl ⟨by kernel_rfl, ?yy2⟩) (by assumption) ?_
        case yy2 => intro w hSw; (try dsimp only at hSw); go_simp; (try with_reducible rfl)
        simp only [List.setIfInBounds_toArray, List.set_cons_zero, List.set_cons_succ]
        refine takeH (i := 2) (v := ?vv3) 54 rfl rfl (by kernel_rfl) (by kernel_rfl) (by kernel_rfl) (fun _ _ _ h => h) (Or.inl ⟨by kernel_rfl, ?yy3⟩) (by assumption) ?_
        case yy3 => intro w hSw; (try dsimp only at hSw); go_simp; (try with_reducible rfl)
        simp only [List.setIfInBounds_toArray, List.set_cons_zero, List.set_cons_succ]
        refine wpAnyH_ready (rs := [3]) (by kernel_rfl) (by simp) ?_
        refine (AllReadyH.cons rfl (fun K hK => ?_) AllReadyH.nil)
        have r0 : v4.cell? ⟨(w.heap.size + 1), 0, none⟩ = some (.slice none 0 0) := HR.out.cell 0
        have r1 : v4.cell? ⟨(w.heap.size + 1), 1, none⟩ = some (.slice none 0 0) := HR.out.cell 1
        have r2 : v4.cell? ⟨(w.heap.size + 1), 2, none⟩ = some (.int .i64 0) := HR.out.cell 2
        have r3 : v4.cell? ⟨(w.heap.size + 1), 3, none⟩ = some (.int .i64 0) := HR.out.cell 3
        have r4 : v4.cell? ⟨(w.heap.size + 1), 4, none⟩ = some (.bool false) := HR.out.cell 4
        have f0 : v4.frozen? ⟨(w.heap.size + 1), 0, none⟩ = false := HR.out.free 0
        have f1 : v4.frozen? ⟨(w.heap.size + 1), 1, none⟩ = false := HR.out.free 1
        have f2 : v4.frozen? ⟨(w.heap.size + 1), 2, none⟩ = false := HR.out.free 2
        have f3 : v4.frozen? ⟨(w.heap.size + 1), 3, none⟩ = false := HR.out.free 3
        have f4 : v4.frozen? ⟨(w.heap.size + 1), 4, none⟩ = false := HR.out.free 4
        go_simp
        refine hK.out _ _ ?_ (fun hHeld => ?_)
        · exact wcells10_sets (W := v4) (by assumption) (w.heap.size + 1) (by omega) (by omega) _ _ _ _ _
        clear hK K
        (try simp only [Act.put, List.setIfInBounds_toArray, List.set_cons_zero, List.set_cons_succ])
        clear r0 r1 r2 r3 r4
        clear f0 f1 f2 f3 f4
        have HRa := Lib.hid (HR.out.sets (.slice a3 nd.S.length c3) (.slice a4 nd.P.length c4) (.int .i64 nd.fuse) (.int .i64 nd.ops) (.bool nd.dead)); have HJa := Lib.hid (HJ.out.sets_ne (c := w.heap.size + 1) (by omega) (.slice a3 nd.S.length c3) (.slice a4 nd.P.length c4) (.int .i64 nd.fuse) (.int .i64 nd.ops) (.bool nd.dead)); have HBa := Lib.hid (below_sets HB.out (w.heap.size + 1) (by omega) (.slice a3 nd.S.length c3) (.slice a4 nd.P.length c4) (.int .i64 nd.fuse) (.int .i64 nd.ops) (.bool nd.dead)); have HOa := Lib.hid (HO.out.sets (w.heap.size + 1) (by omega) (.slice a3 nd.S.length c3) (.slice a4 nd.P.length c4) (.int .i64 nd.fuse) (.int .i64 nd.ops) (.bool nd.dead))
        generalize hWE : (((((v4.setCell ⟨(w.heap.size + 1), 0, none⟩ (.slice a3 nd.S.length c3)).setCell ⟨(w.heap.size + 1), 1, none⟩ (.slice a4 nd.P.length c4)).setCell ⟨(w.heap.size + 1), 2, none⟩ (.int .i64 nd.fuse)).setCell ⟨(w.heap.size + 1), 3, none⟩ (.int .i64 nd.ops)).setCell ⟨(w.heap.size + 1), 4, none⟩ (.bool nd.dead)) = WE at HRa HJa HBa HOa hHeld ⊢
        clear hWE
        refine wpAnyH_ready (rs := [4]) (by kernel_rfl) (by simp) ?_
        refine (AllReadyH.cons rfl (fun K hK => ?_) AllReadyH.nil)
        have q0 : WE.cell? ⟨(w.heap.size + 2), 0, none⟩ = some (.int .i64 0) := HJa.out.cell 0
        have q1 : WE.cell? ⟨(w.heap.size + 2), 1, none⟩ = some (.int .i64 0) := HJa.out.cell 1
        have q2 : WE.cell? ⟨(w.heap.size + 2), 2, none⟩ = some (.int .i64 0) := HJa.out.cell 2
        have q3 : WE.cell? ⟨(w.heap.size + 2), 3, none⟩ = some (.int .i64 0) := HJa.out.cell 3
        have q4 : WE.cell? ⟨(w.heap.size + 2), 4, none⟩ = some (.int .i64 0) := HJa.out.cell 4
        have q5 : WE.cell? ⟨(w.heap.size + 2), 5, none⟩ = some (.int .i64 0) := HJa.out.cell 5
        have q6 : WE.cell? ⟨(w.heap.size + 2), 6, none⟩ = some (.int .i64 0) := HJa.out.cell 6
        have p0 : WE.frozen? ⟨(w.heap.size + 2), 0, none⟩ = false := HJa.out.free 0
        have p1 : WE.frozen? ⟨(w.heap.size + 2), 1, none⟩ = false := HJa.out.free 1
        have p2 : WE.frozen? ⟨(w.heap.size + 2), 2, none⟩ = false := HJa.out.free 2
        have p3 : WE.frozen? ⟨(w.heap.size + 2), 3, none⟩ = false := HJa.out.free 3
        have p4 : WE.frozen? ⟨(w.heap.size + 2), 4, none⟩ = false := HJa.out.free 4
        have p5 : WE.frozen? ⟨(w.heap.size + 2), 5, none⟩ = false := HJa.out.free 5
        have p6 : WE.frozen? ⟨(w.heap.size + 2), 6, none⟩ = false := HJa.out.free 6
        go_simp
        refine hK.out _ _ ?_ (fun hHeld => ?_)
        · exact wcells10_sets7 (W := WE) (by assumption) (w.heap.size + 2) (by omega) (by omega) _ _ _ _ _ _ _
        clear hK K
        (try simp only [Act.put, List.setIfInBounds_toArray, List.set_cons_zero, List.set_cons_succ])
        have KR := Lib.hid (HRa.out.sets7_ne (c := w.heap.size + 2) (by omega) (.int .i64 1) (.int .i64 0) (.int .i64 0) (.int .i64 0) (.int .i64 0) (.int .i64 0) (.int .i64 0)); have KJ := Lib.hid (HJa.out.sets7 (.int .i64 1) (.int .i64 0) (.int .i64 0) (.int .i64 0) (.int .i64 0) (.int .i64 0) (.int .i64 0))
        refine takeH (i := 5) (v := ?vv4) 4 rfl rfl (by kernel_rfl) (by kernel_rfl) (by kernel_rfl) (fun _ _ _ h => h) (Or.inl ⟨by kernel_rfl, ?yy4⟩) (by assumption) ?_
        case yy4 => intro w hSw; (try dsimp only at hSw); go_simp; (try with_reducible rfl)
        simp only [List.setIfInBounds_toArray, List.set_cons_zero, List.set_cons_succ]
        refine takeH (i := 6) (v := ?vv5) 5 rfl rfl (by kernel_rfl) (by kernel_rfl) (by kernel_rfl) (fun _ _ _ h => h) (Or.inl ⟨by kernel_rfl, ?yy5⟩) (by assumption) ?_
        case yy5 => intro w hSw; (try dsimp only at hSw); go_simp; (try with_reducible rfl)
        simp only [List.setIfInBounds_toArray, List.set_cons_zero, List.set_cons_succ]
        refine takeH (i := 7) (v := ?vv6) 6 rfl rfl (by kernel_rfl) (by kernel_rfl) (by kernel_rfl) (fun _ _ _ h => h) (Or.inl ⟨by kernel_rfl, ?yy6⟩) (by assumption) ?_
        case yy6 => intro w hSw; (try dsimp only at hSw); go_simp; (try with_reducible rfl)
        simp only [List.setIfInBounds_toArray, List.set_cons_zero, List.set_cons_succ]
        refine wpAnyH_done (by kernel_rfl) ?_ _
        go_wp2
        have k0 := KR.out.cell 0
        have k1 := KR.out.cell 1
        have k2 := KR.out.cell 2
        have k3 := KR.out.cell 3
        have k4 := KR.out.cell 4
        have m0 := KJ.out.cell 0
        have m1 := KJ.out.cell 1
        have m2 := KJ.out.cell 2
        have m3 := KJ.out.cell 3
        have m4 := KJ.out.cell 4
        have m5 := KJ.out.cell 5
        have m6 := KJ.out.cell 6
        simp only [List.getElem?_toArray, List.getElem?_cons_zero, List.getElem?_cons_succ] at k0 k1 k2 k3 k4 m0 m1 m2 m3 m4 m5 m6
        have hres := HRES.out
        refine bodyPost_ret (v := .tuple #[.agg #[.slice a3 nd.S.length c3, .slice a4 nd.P.length c4, .int .i64 nd.fuse, .int .i64 nd.ops, .bool nd.dead], .agg #[.int .i64 1, .int .i64 0, .int .i64 0, .int .i64 0, .int .i64 0, .int .i64 0, .int .i64 0], .string (bs []), .slice none 0 0, .int .i64 0]) (by simp [results, Try.results35, go_sem, k0, k1, k2, k3, k4, m0, m1, m2, m3, m4, m5, m6]; rfl) rfl ?_
        refine WOPost.mk ⟨nd, ⟨sp1, 0, 0⟩, [], [], 0⟩ a3 c3 a4 c4 (.slice none 0 0) rfl ?_ ?_ ((below_sets7 HBa.out (w.heap.size + 2) (by omega) (.int .i64 1) (.int .i64 0) (.int .i64 0) (.int .i64 0) (.int .i64 0) (.int .i64 0) (.int .i64 0)).drew) hres
        · exact ((HOa.out.sets7 (w.heap.size + 2) (by omega) (.int .i64 1) (.int .i64 0) (.int .i64 0) (.int .i64 0) (.int .i64 0) (.int .i64 0) (.int .i64 0)).drewD).mono (by omega)
        · exact World.ownsRow_nil _ _ _ _
      · have tf : (fe != 0) = true := by rw [bne_iff_ne]; exact hf
        have HFE := Lib.hid hf; clear hf
        have hres : openW d = ⟨nd, j0, [], [], fe⟩ := by unfold openW; rw [if_pos HV.out, HL.out]; simp only; rw [if_pos trivial, HST.out]; simp only; rw [if_neg HFE.out]
        have HRES := Lib.hid hres; clear hres
        have n0 : v4.cell? ⟨w4.heap.size, 0, none⟩ = some (.slice a3 nd.S.length c3) := HN.out.cell 0
        have n1 : v4.cell? ⟨w4.heap.size, 1, none⟩ = some (.slice a4 nd.P.length c4) := HN.out.cell 1
        have n2 : v4.cell? ⟨w4.heap.size, 2, none⟩ = some (.int .i64 nd.fuse) := HN.out.cell 2
        have n3 : v4.cell? ⟨w4.heap.size, 3, none⟩ = some (.int .i64 nd.ops) := HN.out.cell 3
        have n4 : v4.cell? ⟨w4.heap.size, 4, none⟩ = some (.bool nd.dead) := HN.out.cell 4
        have hO2 := HO.out
        have hres := HRES.out
        have r0 : v4.cell? ⟨(w.heap.size + 1), 0, none⟩ = some (.slice none 0 0) := HR.out.cell 0
        have r1 : v4.cell? ⟨(w.heap.size + 1), 1, none⟩ = some (.slice none 0 0) := HR.out.cell 1
        have r2 : v4.cell? ⟨(w.heap.size + 1), 2, none⟩ = some (.int .i64 0) := HR.out.cell 2
        have r3 : v4.cell? ⟨(w.heap.size + 1), 3, none⟩ = some (.int .i64 0) := HR.out.cell 3
        have r4 : v4.cell? ⟨(w.heap.size + 1), 4, none⟩ = some (.bool false) := HR.out.cell 4
        have q0 : v4.cell? ⟨(w.heap.size + 2), 0, none⟩ = some (.int .i64 0) := HJ.out.cell 0
        have q1 : v4.cell? ⟨(w.heap.size + 2), 1, none⟩ = some (.int .i64 0) := HJ.out.cell 1
        have q2 : v4.cell? ⟨(w.heap.size + 2), 2, none⟩ = some (.int .i64 0) := HJ.out.cell 2
        have q3 : v4.cell? ⟨(w.heap.size + 2), 3, none⟩ = some (.int .i64 0) := HJ.out.cell 3
        have q4 : v4.cell? ⟨(w.heap.size + 2), 4, none⟩ = some (.int .i64 0) := HJ.out.cell 4
        have q5 : v4.cell? ⟨(w.heap.size + 2), 5, none⟩ = some (.int .i64 0) := HJ.out.cell 5
        have q6 : v4.cell? ⟨(w.heap.size + 2), 6, none⟩ = some (.int .i64 0) := HJ.out.cell 6
        have f0 := HR.out.free 0
        have f1 := HR.out.free 1
        have f2 := HR.out.free 2
        have f3 := HR.out.free 3
        have f4 := HR.out.free 4
        have p0 := HJ.out.free 0
        have p1 := HJ.out.free 1
        have p2 := HJ.out.free 2
        have p3 := HJ.out.free 3
        have p4 := HJ.out.free 4
        have p5 := HJ.out.free 5
        have p6 := HJ.out.free 6
        have KR := Lib.hid ((HR.out.sets (.slice a3 nd.S.length c3) (.slice a4 nd.P.length c4) (.int .i64 nd.fuse) (.int .i64 nd.ops) (.bool nd.dead)).sets7_ne (c := w.heap.size + 2) (by omega) (.int .i64 0) (.int .i64 0) (.int .i64 0) (.int .i64 0) (.int .i64 0) (.int .i64 0) (.int .i64 0))
        have KJ := Lib.hid ((HJ.out.sets_ne (c := w.heap.size + 1) (by omega) (.slice a3 nd.S.length c3) (.slice a4 nd.P.length c4) (.int .i64 nd.fuse) (.int .i64 nd.ops) (.bool nd.dead)).sets7 (.int .i64 0) (.int .i64 0) (.int .i64 0) (.int .i64 0) (.int .i64 0) (.int .i64 0) (.int .i64 0))
        go_wp2
        have k0 := KR.out.cell 0
        have k1 := KR.out.cell 1
        have k2 := KR.out.cell 2
        have k3 := KR.out.cell 3
        have k4 := KR.out.cell 4
        have m0 := KJ.out.cell 0
        have m1 := KJ.out.cell 1
        have m2 := KJ.out.cell 2
        have m3 := KJ.out.cell 3
        have m4 := KJ.out.cell 4
        have m5 := KJ.out.cell 5
        have m6 := KJ.out.cell 6
        simp only [List.getElem?_toArray, List.getElem?_cons_zero, List.getElem?_cons_succ] at k0 k1 k2 k3 k4 m0 m1 m2 m3 m4 m5 m6
        refine bodyPost_ret (v := .tuple #[.agg #[.slice a3 nd.S.length c3, .slice a4 nd.P.length c4, .int .i64 nd.fuse, .int .i64 nd.ops, .bool nd.dead], .agg #[.int .i64 0, .int .i64 0, .int .i64 0, .int .i64 0, .int .i64 0, .int .i64 0, .int .i64 0], .string (bs []), .slice none 0 0, .int .i64 fe]) (by simp [results, Try.results35, go_sem, k0, k1, k2, k3, k4, m0, m1, m2, m3, m4, m5, m6]; rfl) rfl ?_
        refine WOPost.mk ⟨nd, j0, [], [], fe⟩ a3 c3 a4 c4 (.slice none 0 0) rfl ?_ ?_ (below_sets7 (below_sets HB.out (w.heap.size + 1) (by omega) (.slice a3 nd.S.length c3) (.slice a4 nd.P.length c4) (.int .i64 nd.fuse) (.int .i64 nd.ops) (.bool nd.dead)) (w.heap.size + 2) (by omega) (.int .i64 0) (.int .i64 0) (.int .i64 0) (.int .i64 0) (.int .i64 0) (.int .i64 0) (.int .i64 0)) hres
        · exact ((hO2.sets (w.heap.size + 1) (by omega) (.slice a3 nd.S.length c3) (.slice a4 nd.P.length c4) (.int .i64 nd.fuse) (.int .i64 nd.ops) (.bool nd.dead)).sets7 (w.heap.size + 2) (by omega) (.int .i64 0) (.int .i64 0) (.int .i64 0) (.int .i64 0) (.int .i64 0) (.int .i64 0) (.int .i64 0)).mono (by omega)
        · exact World.ownsRow_nil _ _ _ _
    · have t20 : (e == 20) = false := by rw [beq_eq_false_iff_ne]; exact h20
      have t20n : (e != 20) = true := by rw [bne_iff_ne]; exact h20
      have H20 := Lib.hid h20; clear h20
      by_cases h0 : e = 0
      rotate_left
      · have t0 : (e != 0) = true := by rw [bne_iff_ne]; exact h0
        have H0 := Lib.hid h0; clear h0
        have hres : openW d = ⟨d, j0, [], [], e⟩ := by unfold openW; rw [if_pos HV.out, HL.out]; simp only; rw [if_neg H20.out, if_neg H0.out]
        have HRES := Lib.hid hres; clear hres
        have x0 : v2.cell? ⟨w.heap.size, 0, none⟩ = some (.slice sa d.S.length sc) := HX.out.cell 0
        have x1 : v2.cell? ⟨w.heap.size, 1, none⟩ = some (.slice pa d.P.length pc) := HX.out.cell 1
        have x2 : v2.cell? ⟨w.heap.size, 2, none⟩ = some (.int .i64 d.fuse) := HX.out.cell 2
        have x3 : v2.cell? ⟨w.heap.size, 3, none⟩ = some (.int .i64 d.ops) := HX.out.cell 3
        have x4 : v2.cell? ⟨w.heap.size, 4, none⟩ = some (.bool d.dead) := HX.out.cell 4
        go_wp2_with fail
        refine (clone_w _ _ _ _ d _ HD.out).mono ?_
        rintro er wc ⟨a1, c1, a2, c2, rfl, hO1, hb1⟩
        clear x0 x1 x2 x3 x4
        have zj := HJ.out.lt
        have hO2 := hO1
        have HR := Lib.hid (HR.out.call hb1)
        have HJ := Lib.hid (HJ.out.call hb1)
        have HB := Lib.hid (btrans HB.out HB.out.size hb1); clear hb1
        have hres := HRES.out
        have r0 : wc.cell? ⟨(w.heap.size + 1), 0, none⟩ = some (.slice none 0 0) := HR.out.cell 0
        have r1 : wc.cell? ⟨(w.heap.size + 1), 1, none⟩ = some (.slice none 0 0) := HR.out.cell 1
        have r2 : wc.cell? ⟨(w.heap.size + 1), 2, none⟩ = some (.int .i64 0) := HR.out.cell 2
        have r3 : wc.cell? ⟨(w.heap.size + 1), 3, none⟩ = some (.int .i64 0) := HR.out.cell 3
        have r4 : wc.cell? ⟨(w.heap.size + 1), 4, none⟩ = some (.bool false) := HR.out.cell 4
        have q0 : wc.cell? ⟨(w.heap.size + 2), 0, none⟩ = some (.int .i64 0) := HJ.out.cell 0
        have q1 : wc.cell? ⟨(w.heap.size + 2), 1, none⟩ = some (.int .i64 0) := HJ.out.cell 1
        have q2 : wc.cell? ⟨(w.heap.size + 2), 2, none⟩ = some (.int .i64 0) := HJ.out.cell 2
        have q3 : wc.cell? ⟨(w.heap.size + 2), 3, none⟩ = some (.int .i64 0) := HJ.out.cell 3
        have q4 : wc.cell? ⟨(w.heap.size + 2), 4, none⟩ = some (.int .i64 0) := HJ.out.cell 4
        have q5 : wc.cell? ⟨(w.heap.size + 2), 5, none⟩ = some (.int .i64 0) := HJ.out.cell 5
        have q6 : wc.cell? ⟨(w.heap.size + 2), 6, none⟩ = some (.int .i64 0) := HJ.out.cell 6
        have f0 := HR.out.free 0
        have f1 := HR.out.free 1
        have f2 := HR.out.free 2
        have f3 := HR.out.free 3
        have f4 := HR.out.free 4
        have p0 := HJ.out.free 0
        have p1 := HJ.out.free 1
        have p2 := HJ.out.free 2
        have p3 := HJ.out.free 3
        have p4 := HJ.out.free 4
        have p5 := HJ.out.free 5
        have p6 := HJ.out.free 6
        have KR := Lib.hid ((HR.out.sets (.slice a1 d.S.length c1) (.slice a2 d.P.length c2) (.int .i64 d.fuse) (.int .i64 d.ops) (.bool d.dead)).sets7_ne (c := w.heap.size + 2) (by omega) (.int .i64 0) (.int .i64 0) (.int .i64 0) (.int .i64 0) (.int .i64 0) (.int .i64 0) (.int .i64 0))
        have KJ := Lib.hid ((HJ.out.sets_ne (c := w.heap.size + 1) (by omega) (.slice a1 d.S.length c1) (.slice a2 d.P.length c2) (.int .i64 d.fuse) (.int .i64 d.ops) (.bool d.dead)).sets7 (.int .i64 0) (.int .i64 0) (.int .i64 0) (.int .i64 0) (.int .i64 0) (.int .i64 0) (.int .i64 0))
        go_wp2
        have k0 := KR.out.cell 0
        have k1 := KR.out.cell 1
        have k2 := KR.out.cell 2
        have k3 := KR.out.cell 3
        have k4 := KR.out.cell 4
        have m0 := KJ.out.cell 0
        have m1 := KJ.out.cell 1
        have m2 := KJ.out.cell 2
        have m3 := KJ.out.cell 3
        have m4 := KJ.out.cell 4
        have m5 := KJ.out.cell 5
        have m6 := KJ.out.cell 6
        simp only [List.getElem?_toArray, List.getElem?_cons_zero, List.getElem?_cons_succ] at k0 k1 k2 k3 k4 m0 m1 m2 m3 m4 m5 m6
        refine bodyPost_ret (v := .tuple #[.agg #[.slice a1 d.S.length c1, .slice a2 d.P.length c2, .int .i64 d.fuse, .int .i64 d.ops, .bool d.dead], .agg #[.int .i64 0, .int .i64 0, .int .i64 0, .int .i64 0, .int .i64 0, .int .i64 0, .int .i64 0], .string (bs []), .slice none 0 0, .int .i64 e]) (by simp [results, Try.results35, go_sem, k0, k1, k2, k3, k4, m0, m1, m2, m3, m4, m5, m6]; rfl) rfl ?_
        refine WOPost.mk ⟨d, j0, [], [], e⟩ a1 c1 a2 c2 (.slice none 0 0) rfl ?_ ?_ (below_sets7 (below_sets HB.out (w.heap.size + 1) (by omega) (.slice a1 d.S.length c1) (.slice a2 d.P.length c2) (.int .i64 d.fuse) (.int .i64 d.ops) (.bool d.dead)) (w.heap.size + 2) (by omega) (.int .i64 0) (.int .i64 0) (.int .i64 0) (.int .i64 0) (.int .i64 0) (.int .i64 0) (.int .i64 0)) hres
        · exact ((hO2.sets (w.heap.size + 1) (by omega) (.slice a1 d.S.length c1) (.slice a2 d.P.length c2) (.int .i64 d.fuse) (.int .i64 d.ops) (.bool d.dead)).sets7 (w.heap.size + 2) (by omega) (.int .i64 0) (.int .i64 0) (.int .i64 0) (.int .i64 0) (.int .i64 0) (.int .i64 0) (.int .i64 0)).mono (by omega)
        · exact World.ownsRow_nil _ _ _ _
      subst h0
      obtain ⟨⟨im, okc⟩, hck⟩ : ∃ r, ckS d x = r := ⟨_, rfl⟩
      have HCK := Lib.hid hck; clear hck
      have hxa := load_spB HL.out
      obtain ⟨xg1, xg2, _, _, xa0, xa2, _⟩ := spB_bounds hxa
      clear hxa
      have x0 : v2.cell? ⟨w.heap.size, 0, none⟩ = some (.slice sa d.S.length sc) := HX.out.cell 0
      have x1 : v2.cell? ⟨w.heap.size, 1, none⟩ = some (.slice pa d.P.length pc) := HX.out.cell 1
      have x2 : v2.cell? ⟨w.heap.size, 2, none⟩ = some (.int .i64 d.fuse) := HX.out.cell 2
      have x3 : v2.cell? ⟨w.heap.size, 3, none⟩ = some (.int .i64 d.ops) := HX.out.cell 3
      have x4 : v2.cell? ⟨w.heap.size, 4, none⟩ = some (.bool d.dead) := HX.out.cell 4
      have s0 : v2.cell? ⟨w2.heap.size, 0, none⟩ = some (.int .i64 x.g) := HS.out.cell 0
      have s1 : v2.cell? ⟨w2.heap.size, 1, none⟩ = some (.int .i64 x.e) := HS.out.cell 1
      have s2 : v2.cell? ⟨w2.heap.size, 2, none⟩ = some (.int .i64 x.a) := HS.out.cell 2
      have s3 : v2.cell? ⟨w2.heap.size, 3, none⟩ = some (.int .i64 x.z) := HS.out.cell 3
      have s4 : v2.cell? ⟨w2.heap.size, 4, none⟩ = some (.int .i64 x.p) := HS.out.cell 4
      go_wp2_with fail
      refine (checkpoint_any _ _ _ _ d x _ HD.out HV.out xa0 xa2).mono ?_
      rw [HCK.out]
      rintro er w5 ⟨rfl, hb1⟩
      clear x0 x1 x2 x3 x4
      clear s0 s1 s2 s3 s4
      have HX := Lib.hid (HX.out.call hb1)
      have HR := Lib.hid (HR.out.call hb1)
      have HJ := Lib.hid (HJ.out.call hb1)
      have HS := Lib.hid (HS.out.call hb1)
      have HD := Lib.hid (HD.out.below hb1)
      have HB := Lib.hid (btrans HB.out HB.out.size hb1); clear hb1
      cases okc with
      | false =>
        have hres : openW d = ⟨d, j0, [], [], 20⟩ := by unfold openW; rw [if_pos HV.out, HL.out]; simp only; rw [if_neg (by decide), if_pos trivial, HCK.out]; simp
        have HRES := Lib.hid hres; clear hres
        have x0 : w5.cell? ⟨w.heap.size, 0, none⟩ = some (.slice sa d.S.length sc) := HX.out.cell 0
        have x1 : w5.cell? ⟨w.heap.size, 1, none⟩ = some (.slice pa d.P.length pc) := HX.out.cell 1
        have x2 : w5.cell? ⟨w.heap.size, 2, none⟩ = some (.int .i64 d.fuse) := HX.out.cell 2
        have x3 : w5.cell? ⟨w.heap.size, 3, none⟩ = some (.int .i64 d.ops) := HX.out.cell 3
        have x4 : w5.cell? ⟨w.heap.size, 4, none⟩ = some (.bool d.dead) := HX.out.cell 4
        go_wp2_with fail
        refine (clone_w _ _ _ _ d _ HD.out).mono ?_
        rintro er wc ⟨a1, c1, a2, c2, rfl, hO1, hb1⟩
        clear x0 x1 x2 x3 x4
        have zj := HJ.out.lt
        have hO2 := hO1
        have HR := Lib.hid (HR.out.call hb1)
        have HJ := Lib.hid (HJ.out.call hb1)
        have HB := Lib.hid (btrans HB.out HB.out.size hb1); clear hb1
        have hres := HRES.out
        have r0 : wc.cell? ⟨(w.heap.size + 1), 0, none⟩ = some (.slice none 0 0) := HR.out.cell 0
        have r1 : wc.cell? ⟨(w.heap.size + 1), 1, none⟩ = some (.slice none 0 0) := HR.out.cell 1
        have r2 : wc.cell? ⟨(w.heap.size + 1), 2, none⟩ = some (.int .i64 0) := HR.out.cell 2
        have r3 : wc.cell? ⟨(w.heap.size + 1), 3, none⟩ = some (.int .i64 0) := HR.out.cell 3
        have r4 : wc.cell? ⟨(w.heap.size + 1), 4, none⟩ = some (.bool false) := HR.out.cell 4
        have q0 : wc.cell? ⟨(w.heap.size + 2), 0, none⟩ = some (.int .i64 0) := HJ.out.cell 0
        have q1 : wc.cell? ⟨(w.heap.size + 2), 1, none⟩ = some (.int .i64 0) := HJ.out.cell 1
        have q2 : wc.cell? ⟨(w.heap.size + 2), 2, none⟩ = some (.int .i64 0) := HJ.out.cell 2
        have q3 : wc.cell? ⟨(w.heap.size + 2), 3, none⟩ = some (.int .i64 0) := HJ.out.cell 3
        have q4 : wc.cell? ⟨(w.heap.size + 2), 4, none⟩ = some (.int .i64 0) := HJ.out.cell 4
        have q5 : wc.cell? ⟨(w.heap.size + 2), 5, none⟩ = some (.int .i64 0) := HJ.out.cell 5
        have q6 : wc.cell? ⟨(w.heap.size + 2), 6, none⟩ = some (.int .i64 0) := HJ.out.cell 6
        have f0 := HR.out.free 0
        have f1 := HR.out.free 1
        have f2 := HR.out.free 2
        have f3 := HR.out.free 3
        have f4 := HR.out.free 4
        have p0 := HJ.out.free 0
        have p1 := HJ.out.free 1
        have p2 := HJ.out.free 2
        have p3 := HJ.out.free 3
        have p4 := HJ.out.free 4
        have p5 := HJ.out.free 5
        have p6 := HJ.out.free 6
        have KR := Lib.hid ((HR.out.sets (.slice a1 d.S.length c1) (.slice a2 d.P.length c2) (.int .i64 d.fuse) (.int .i64 d.ops) (.bool d.dead)).sets7_ne (c := w.heap.size + 2) (by omega) (.int .i64 0) (.int .i64 0) (.int .i64 0) (.int .i64 0) (.int .i64 0) (.int .i64 0) (.int .i64 0))
        have KJ := Lib.hid ((HJ.out.sets_ne (c := w.heap.size + 1) (by omega) (.slice a1 d.S.length c1) (.slice a2 d.P.length c2) (.int .i64 d.fuse) (.int .i64 d.ops) (.bool d.dead)).sets7 (.int .i64 0) (.int .i64 0) (.int .i64 0) (.int .i64 0) (.int .i64 0) (.int .i64 0) (.int .i64 0))
        go_wp2
        have k0 := KR.out.cell 0
        have k1 := KR.out.cell 1
        have k2 := KR.out.cell 2
        have k3 := KR.out.cell 3
        have k4 := KR.out.cell 4
        have m0 := KJ.out.cell 0
        have m1 := KJ.out.cell 1
        have m2 := KJ.out.cell 2
        have m3 := KJ.out.cell 3
        have m4 := KJ.out.cell 4
        have m5 := KJ.out.cell 5
        have m6 := KJ.out.cell 6
        simp only [List.getElem?_toArray, List.getElem?_cons_zero, List.getElem?_cons_succ] at k0 k1 k2 k3 k4 m0 m1 m2 m3 m4 m5 m6
        refine bodyPost_ret (v := .tuple #[.agg #[.slice a1 d.S.length c1, .slice a2 d.P.length c2, .int .i64 d.fuse, .int .i64 d.ops, .bool d.dead], .agg #[.int .i64 0, .int .i64 0, .int .i64 0, .int .i64 0, .int .i64 0, .int .i64 0, .int .i64 0], .string (bs []), .slice none 0 0, .int .i64 20]) (by simp [results, Try.results35, go_sem, k0, k1, k2, k3, k4, m0, m1, m2, m3, m4, m5, m6]; rfl) rfl ?_
        refine WOPost.mk ⟨d, j0, [], [], 20⟩ a1 c1 a2 c2 (.slice none 0 0) rfl ?_ ?_ (below_sets7 (below_sets HB.out (w.heap.size + 1) (by omega) (.slice a1 d.S.length c1) (.slice a2 d.P.length c2) (.int .i64 d.fuse) (.int .i64 d.ops) (.bool d.dead)) (w.heap.size + 2) (by omega) (.int .i64 0) (.int .i64 0) (.int .i64 0) (.int .i64 0) (.int .i64 0) (.int .i64 0) (.int .i64 0)) hres
        · exact ((hO2.sets (w.heap.size + 1) (by omega) (.slice a1 d.S.length c1) (.slice a2 d.P.length c2) (.int .i64 d.fuse) (.int .i64 d.ops) (.bool d.dead)).sets7 (w.heap.size + 2) (by omega) (.int .i64 0) (.int .i64 0) (.int .i64 0) (.int .i64 0) (.int .i64 0) (.int .i64 0) (.int .i64 0)).mono (by omega)
        · exact World.ownsRow_nil _ _ _ _
      | true =>
        obtain ⟨⟨M, k⟩, hlg⟩ : ∃ r, logS d x = r := ⟨_, rfl⟩
        have HLG := Lib.hid hlg; have hkM := log_le hlg HV.out; clear hlg
        have x0 : w5.cell? ⟨w.heap.size, 0, none⟩ = some (.slice sa d.S.length sc) := HX.out.cell 0
        have x1 : w5.cell? ⟨w.heap.size, 1, none⟩ = some (.slice pa d.P.length pc) := HX.out.cell 1
        have x2 : w5.cell? ⟨w.heap.size, 2, none⟩ = some (.int .i64 d.fuse) := HX.out.cell 2
        have x3 : w5.cell? ⟨w.heap.size, 3, none⟩ = some (.int .i64 d.ops) := HX.out.cell 3
        have x4 : w5.cell? ⟨w.heap.size, 4, none⟩ = some (.bool d.dead) := HX.out.cell 4
        have s0 : w5.cell? ⟨w2.heap.size, 0, none⟩ = some (.int .i64 x.g) := HS.out.cell 0
        have s1 : w5.cell? ⟨w2.heap.size, 1, none⟩ = some (.int .i64 x.e) := HS.out.cell 1
        have s2 : w5.cell? ⟨w2.heap.size, 2, none⟩ = some (.int .i64 x.a) := HS.out.cell 2
        have s3 : w5.cell? ⟨w2.heap.size, 3, none⟩ = some (.int .i64 x.z) := HS.out.cell 3
        have s4 : w5.cell? ⟨w2.heap.size, 4, none⟩ = some (.int .i64 x.p) := HS.out.cell 4
        go_wp2_with fail
        refine (records_any _ _ _ _ d x _ HD.out HV.out).mono ?_
        rw [HLG.out]
        rintro er w6 ⟨vr, rfl, hown, hb1⟩
        clear x0 x1 x2 x3 x4
        clear s0 s1 s2 s3 s4
        have zs5 := HS.out.lt
        obtain ⟨ra, rc, rfl⟩ := own_slice hown
        have HX := Lib.hid (HX.out.call hb1)
        have HR := Lib.hid (HR.out.call hb1)
        have HJ := Lib.hid (HJ.out.call hb1)
        have HS := Lib.hid (HS.out.call hb1)
        have HD := Lib.hid (HD.out.below hb1)
        have HB := Lib.hid (btrans HB.out HB.out.size hb1); clear hb1
        have HV5 := Lib.hid hown; clear hown
        by_cases hm : x.g = 1099511627776
        · have tm : (x.g == 1099511627776) = true := by rw [hm]; rfl
          have HM := Lib.hid hm; clear hm
          have s0 : w6.cell? ⟨w2.heap.size, 0, none⟩ = some (.int .i64 x.g) := HS.out.cell 0
          have hres : openW d = ⟨d, j0, [], [], 2⟩ := by unfold openW; rw [if_pos HV.out, HL.out]; simp only; rw [if_neg (by decide), if_pos trivial, HCK.out]; simp only; rw [if_pos trivial, if_pos HM.out]
          have HRES := Lib.hid hres; clear hres
          have x0 : w6.cell? ⟨w.heap.size, 0, none⟩ = some (.slice sa d.S.length sc) := HX.out.cell 0
          have x1 : w6.cell? ⟨w.heap.size, 1, none⟩ = some (.slice pa d.P.length pc) := HX.out.cell 1
          have x2 : w6.cell? ⟨w.heap.size, 2, none⟩ = some (.int .i64 d.fuse) := HX.out.cell 2
          have x3 : w6.cell? ⟨w.heap.size, 3, none⟩ = some (.int .i64 d.ops) := HX.out.cell 3
          have x4 : w6.cell? ⟨w.heap.size, 4, none⟩ = some (.bool d.dead) := HX.out.cell 4
          go_wp2_with fail
          refine (clone_w _ _ _ _ d _ HD.out).mono ?_
          rintro er wc ⟨a1, c1, a2, c2, rfl, hO1, hb1⟩
          clear x0 x1 x2 x3 x4
          have zj := HJ.out.lt
          have hO2 := hO1
          have HR := Lib.hid (HR.out.call hb1)
          have HJ := Lib.hid (HJ.out.call hb1)
          have HB := Lib.hid (btrans HB.out HB.out.size hb1); clear hb1
          have hres := HRES.out
          have r0 : wc.cell? ⟨(w.heap.size + 1), 0, none⟩ = some (.slice none 0 0) := HR.out.cell 0
          have r1 : wc.cell? ⟨(w.heap.size + 1), 1, none⟩ = some (.slice none 0 0) := HR.out.cell 1
          have r2 : wc.cell? ⟨(w.heap.size + 1), 2, none⟩ = some (.int .i64 0) := HR.out.cell 2
          have r3 : wc.cell? ⟨(w.heap.size + 1), 3, none⟩ = some (.int .i64 0) := HR.out.cell 3
          have r4 : wc.cell? ⟨(w.heap.size + 1), 4, none⟩ = some (.bool false) := HR.out.cell 4
          have q0 : wc.cell? ⟨(w.heap.size + 2), 0, none⟩ = some (.int .i64 0) := HJ.out.cell 0
          have q1 : wc.cell? ⟨(w.heap.size + 2), 1, none⟩ = some (.int .i64 0) := HJ.out.cell 1
          have q2 : wc.cell? ⟨(w.heap.size + 2), 2, none⟩ = some (.int .i64 0) := HJ.out.cell 2
          have q3 : wc.cell? ⟨(w.heap.size + 2), 3, none⟩ = some (.int .i64 0) := HJ.out.cell 3
          have q4 : wc.cell? ⟨(w.heap.size + 2), 4, none⟩ = some (.int .i64 0) := HJ.out.cell 4
          have q5 : wc.cell? ⟨(w.heap.size + 2), 5, none⟩ = some (.int .i64 0) := HJ.out.cell 5
          have q6 : wc.cell? ⟨(w.heap.size + 2), 6, none⟩ = some (.int .i64 0) := HJ.out.cell 6
          have f0 := HR.out.free 0
          have f1 := HR.out.free 1
          have f2 := HR.out.free 2
          have f3 := HR.out.free 3
          have f4 := HR.out.free 4
          have p0 := HJ.out.free 0
          have p1 := HJ.out.free 1
          have p2 := HJ.out.free 2
          have p3 := HJ.out.free 3
          have p4 := HJ.out.free 4
          have p5 := HJ.out.free 5
          have p6 := HJ.out.free 6
          have KR := Lib.hid ((HR.out.sets (.slice a1 d.S.length c1) (.slice a2 d.P.length c2) (.int .i64 d.fuse) (.int .i64 d.ops) (.bool d.dead)).sets7_ne (c := w.heap.size + 2) (by omega) (.int .i64 0) (.int .i64 0) (.int .i64 0) (.int .i64 0) (.int .i64 0) (.int .i64 0) (.int .i64 0))
          have KJ := Lib.hid ((HJ.out.sets_ne (c := w.heap.size + 1) (by omega) (.slice a1 d.S.length c1) (.slice a2 d.P.length c2) (.int .i64 d.fuse) (.int .i64 d.ops) (.bool d.dead)).sets7 (.int .i64 0) (.int .i64 0) (.int .i64 0) (.int .i64 0) (.int .i64 0) (.int .i64 0) (.int .i64 0))
          go_wp2
          have k0 := KR.out.cell 0
          have k1 := KR.out.cell 1
          have k2 := KR.out.cell 2
          have k3 := KR.out.cell 3
          have k4 := KR.out.cell 4
          have m0 := KJ.out.cell 0
          have m1 := KJ.out.cell 1
          have m2 := KJ.out.cell 2
          have m3 := KJ.out.cell 3
          have m4 := KJ.out.cell 4
          have m5 := KJ.out.cell 5
          have m6 := KJ.out.cell 6
          simp only [List.getElem?_toArray, List.getElem?_cons_zero, List.getElem?_cons_succ] at k0 k1 k2 k3 k4 m0 m1 m2 m3 m4 m5 m6
          refine bodyPost_ret (v := .tuple #[.agg #[.slice a1 d.S.length c1, .slice a2 d.P.length c2, .int .i64 d.fuse, .int .i64 d.ops, .bool d.dead], .agg #[.int .i64 0, .int .i64 0, .int .i64 0, .int .i64 0, .int .i64 0, .int .i64 0, .int .i64 0], .string (bs []), .slice none 0 0, .int .i64 2]) (by simp [results, Try.results35, go_sem, k0, k1, k2, k3, k4, m0, m1, m2, m3, m4, m5, m6]; rfl) rfl ?_
          refine WOPost.mk ⟨d, j0, [], [], 2⟩ a1 c1 a2 c2 (.slice none 0 0) rfl ?_ ?_ (below_sets7 (below_sets HB.out (w.heap.size + 1) (by omega) (.slice a1 d.S.length c1) (.slice a2 d.P.length c2) (.int .i64 d.fuse) (.int .i64 d.ops) (.bool d.dead)) (w.heap.size + 2) (by omega) (.int .i64 0) (.int .i64 0) (.int .i64 0) (.int .i64 0) (.int .i64 0) (.int .i64 0) (.int .i64 0)) hres
          · exact ((hO2.sets (w.heap.size + 1) (by omega) (.slice a1 d.S.length c1) (.slice a2 d.P.length c2) (.int .i64 d.fuse) (.int .i64 d.ops) (.bool d.dead)).sets7 (w.heap.size + 2) (by omega) (.int .i64 0) (.int .i64 0) (.int .i64 0) (.int .i64 0) (.int .i64 0) (.int .i64 0) (.int .i64 0)).mono (by omega)
          · exact World.ownsRow_nil _ _ _ _
        · have tm : (x.g == 1099511627776) = false := by rw [beq_eq_false_iff_ne]; exact hm
          have hxg : x.g + 1 ≤ 1099511627776 := by omega
          have HM := Lib.hid hm; clear hm
          obtain ⟨⟨nd, fe⟩, hst⟩ : ∃ r, storeS d (nextS x) = r := ⟨_, rfl⟩
          have HST := Lib.hid hst; clear hst
          have s0 : w6.cell? ⟨w2.heap.size, 0, none⟩ = some (.int .i64 x.g) := HS.out.cell 0
          have g0 := HS.out.free 0
          go_upto_region 19 with (fail)
          clear s0 g0
          have HX := Lib.hid (HX.out.other (c := w2.heap.size) (i := 0) (by omega) (.int .i64 (x.g + 1))); have HR := Lib.hid (HR.out.other (c := w2.heap.size) (i := 0) (by omega) (.int .i64 (x.g + 1))); have HJ := Lib.hid (HJ.out.other (c := w2.heap.size) (i := 0) (by omega) (.int .i64 (x.g + 1))); have HD := Lib.hid (HD.out.set_int HS.out (.int .i64 (x.g + 1))); have HV5 := Lib.hid (own_set HV5.out w2.heap.size 0 (by omega) (.int .i64 (x.g + 1))); have HB := Lib.hid (below_set HB.out w2.heap.size 0 (by omega) (.int .i64 (x.g + 1))); have HS := Lib.hid (show Bx w2.heap.size #[.int .i64 (x.g + 1), .int .i64 x.e, .int .i64 x.a, .int .i64 x.z, .int .i64 x.p] 23 _ from HS.out.set 0 (.int .i64 (x.g + 1)))
          generalize hW : w6.setCell ⟨w2.heap.size, 0, none⟩ (.int .i64 (x.g + 1)) = v3 at HX HR HJ HD HB HS HV5 ⊢
          clear hW
          have zj3 := HJ.out.lt
          have x0 : v3.cell? ⟨w.heap.size, 0, none⟩ = some (.slice sa d.S.length sc) := HX.out.cell 0
          have x1 : v3.cell? ⟨w.heap.size, 1, none⟩ = some (.slice pa d.P.length pc) := HX.out.cell 1
          have x2 : v3.cell? ⟨w.heap.size, 2, none⟩ = some (.int .i64 d.fuse) := HX.out.cell 2
          have x3 : v3.cell? ⟨w.heap.size, 3, none⟩ = some (.int .i64 d.ops) := HX.out.cell 3
          have x4 : v3.cell? ⟨w.heap.size, 4, none⟩ = some (.bool d.dead) := HX.out.cell 4
          have s0 : v3.cell? ⟨w2.heap.size, 0, none⟩ = some (.int .i64 (x.g + 1)) := HS.out.cell 0
          have s1 : v3.cell? ⟨w2.heap.size, 1, none⟩ = some (.int .i64 x.e) := HS.out.cell 1
          have s2 : v3.cell? ⟨w2.heap.size, 2, none⟩ = some (.int .i64 x.a) := HS.out.cell 2
          have s3 : v3.cell? ⟨w2.heap.size, 3, none⟩ = some (.int .i64 x.z) := HS.out.cell 3
          have s4 : v3.cell? ⟨w2.heap.size, 4, none⟩ = some (.int .i64 x.p) := HS.out.cell 4
          go_wp2_with fail
          refine (SStore_any _ _ _ _ d (nextS x) _ HD.out hp).mono ?_
          rw [HST.out]
          rintro er w4 ⟨a3, c3, a4, c4, rfl, hO4, hb1⟩
          clear x0 x1 x2 x3 x4
          clear s0 s1 s2 s3 s4
          have zs4 := HS.out.lt
          have HV4 := Lib.hid (own_below HV5.out hb1)
          have HX := Lib.hid (HX.out.call hb1)
          have HR := Lib.hid (HR.out.call hb1)
          have HJ := Lib.hid (HJ.out.call hb1)
          have HS := Lib.hid (HS.out.call hb1)
          have HB := Lib.hid (btrans HB.out HB.out.size hb1); clear hb1
          have zw4 := HJ.out.lt
          have hal := (Below.refl w4.heap.size w4).alloc (Nat.le_refl _) (.cells #[.slice a3 nd.S.length c3, .slice a4 nd.P.length c4, .int .i64 nd.fuse, .int .i64 nd.ops, .bool nd.dead] 38)
          have HN := Lib.hid (Bx.new w4 #[.slice a3 nd.S.length c3, .slice a4 nd.P.length c4, .int .i64 nd.fuse, .int .i64 nd.ops, .bool nd.dead] 38)
          have HO := Lib.hid (hO4.alloc (.cells #[.slice a3 nd.S.length c3, .slice a4 nd.P.length c4, .int .i64 nd.fuse, .int .i64 nd.ops, .bool nd.dead] 38)); clear hO4
          have HV4 := Lib.hid (own_below HV4.out hal)
          have HR := Lib.hid (HR.out.call hal)
          have HJ := Lib.hid (HJ.out.call hal)
          have HS := Lib.hid (HS.out.call hal)
          have HB := Lib.hid (btrans HB.out HB.out.size hal); clear hal
          go_upto_region 20 with (fail)
          generalize hW : w4.alloc (.cells #[.slice a3 nd.S.length c3, .slice a4 nd.P.length c4, .int .i64 nd.fuse, .int .i64 nd.ops, .bool nd.dead] 38) = v4 at HR HJ HB HS HN HO HV4 ⊢
          clear hW
          have zj4 := HJ.out.lt
          by_cases hf : fe = 0
          · subst hf
            have hres : openW d = ⟨nd, ⟨nextS x, (k : Int), (M.length : Int)⟩, im, M, 0⟩ := by unfold openW; rw [if_pos HV.out, HL.out]; simp only; rw [if_neg (by decide), if_pos trivial, HCK.out]; simp only; rw [if_pos trivial, if_neg HM.out, HST.out, HLG.out]; simp
            have HRES := Lib.hid hres; clear hres
            have n0 : v4.cell? ⟨w4.heap.size, 0, none⟩ = some (.slice a3 nd.S.length c3) := HN.out.cell 0
            have n1 : v4.cell? ⟨w4.heap.size, 1, none⟩ = some (.slice a4 nd.P.length c4) := HN.out.cell 1
            have n2 : v4.cell? ⟨w4.heap.size, 2, none⟩ = some (.int .i64 nd.fuse) := HN.out.cell 2
            have n3 : v4.cell? ⟨w4.heap.size, 3, none⟩ = some (.int .i64 nd.ops) := HN.out.cell 3
            have n4 : v4.cell? ⟨w4.heap.size, 4, none⟩ = some (.bool nd.dead) := HN.out.cell 4
            have s0 : v4.cell? ⟨w2.heap.size, 0, none⟩ = some (.int .i64 (x.g + 1)) := HS.out.cell 0
            have s1 : v4.cell? ⟨w2.heap.size, 1, none⟩ = some (.int .i64 x.e) := HS.out.cell 1
            have s2 : v4.cell? ⟨w2.heap.size, 2, none⟩ = some (.int .i64 x.a) := HS.out.cell 2
            have s3 : v4.cell? ⟨w2.heap.size, 3, none⟩ = some (.int .i64 x.z) := HS.out.cell 3
            have s4 : v4.cell? ⟨w2.heap.size, 4, none⟩ = some (.int .i64 x.p) := HS.out.cell 4
            have hs10 : v4.drew.cell? ⟨w4.heap.size, 0, none⟩ = some (.slice a3 nd.S.length c3) ∧ v4.drew.cell? ⟨w4.heap.size, 1, none⟩ = some (.slice a4 nd.P.length c4) ∧ v4.drew.cell? ⟨w4.heap.size, 2, none⟩ = some (.int .i64 nd.fuse) ∧ v4.drew.cell? ⟨w4.heap.size, 3, none⟩ = some (.int .i64 nd.ops) ∧ v4.drew.cell? ⟨w4.heap.size, 4, none⟩ = some (.bool nd.dead) ∧ v4.drew.cell? ⟨w2.heap.size, 0, none⟩ = some (.int .i64 (x.g + 1)) ∧ v4.drew.cell? ⟨w2.heap.size, 1, none⟩ = some (.int .i64 x.e) ∧ v4.drew.cell? ⟨w2.heap.size, 2, none⟩ = some (.int .i64 x.a) ∧ v4.drew.cell? ⟨w2.heap.size, 3, none⟩ = some (.int .i64 x.z) ∧ v4.drew.cell? ⟨w2.heap.size, 4, none⟩ = some (.int .i64 x.p) := ⟨n0, n1, n2, n3, n4, s0, s1, s2, s3, s4⟩
            have HS10 := Lib.hid hs10; clear hs10 n0 n1 n2 n3 n4 s0 s1 s2 s3 s4
            go_wp2_with fail
            refine wp_region_held_drew (S := (fun w' => w'.cell? ⟨w4.heap.size, 0, none⟩ = some (.slice a3 nd.S.length c3) ∧ w'.cell? ⟨w4.heap.size, 1, none⟩ = some (.slice a4 nd.P.length c4) ∧ w'.cell? ⟨w4.heap.size, 2, none⟩ = some (.int .i64 nd.fuse) ∧ w'.cell? ⟨w4.heap.size, 3, none⟩ = some (.int .i64 nd.ops) ∧ w'.cell? ⟨w4.heap.size, 4, none⟩ = some (.bool nd.dead) ∧ w'.cell? ⟨w2.heap.size, 0, none⟩ = some (.int .i64 (x.g + 1)) ∧ w'.cell? ⟨w2.heap.size, 1, none⟩ = some (.int .i64 x.e) ∧ w'.cell? ⟨w2.heap.size, 2, none⟩ = some (.int .i64 x.a) ∧ w'.cell? ⟨w2.heap.size, 3, none⟩ = some (.int .i64 x.z) ∧ w'.cell? ⟨w2.heap.size, 4, none⟩ = some (.int .i64 x.p))) (by kernel_rfl) ?_ (fun hHeld => ?_)
            · exact HS10.out
            refine takeH (i := 0) (v := ?vv7) 93 rfl rfl (by kernel_rfl) (by kernel_rfl) (by kernel_rfl) (fun _ _ _ h => h) (Or.inl ⟨by kernel_rfl, ?yy7⟩) (by assumption) ?_
            case yy7 => intro w hSw; (try dsimp only at hSw); go_simp; (try with_reducible rfl)
            simp only [List.setIfInBounds_toArray, List.set_cons_zero, List.set_cons_succ]
            refine takeH (i := 1) (v := ?vv8) 94 rfl rfl (by kernel_rfl) (by kernel_rfl) (by kernel_rfl) (fun _ _ _ h => h) (Or.inl ⟨by kernel_rfl, ?yy8⟩) (by assumption) ?_
            case yy8 => intro w hSw; (try dsimp only at hSw); go_simp; (try with_reducible rfl)
            simp only [List.setIfInBounds_toArray, List.set_cons_zero, List.set_cons_succ]
            refine takeH (i := 2) (v := ?vv9) 95 rfl rfl (by kernel_rfl) (by kernel_rfl) (by kernel_rfl) (fun _ _ _ h => h) (Or.inl ⟨by kernel_rfl, ?yy9⟩) (by assumption) ?_
            case yy9 => intro w hSw; (try dsimp only at hSw); go_simp; (try with_reducible rfl)
            simp only [List.setIfInBounds_toArray, List.set_cons_zero, List.set_cons_succ]
            refine takeH (i := 3) (v := ?vv10) 96 rfl rfl (by kernel_rfl) (by kernel_rfl) (by kernel_rfl) (fun _ _ _ h => h) (Or.inl ⟨by kernel_rfl, ?yy10⟩) (by assumption) ?_
            case yy10 => intro w hSw; (try dsimp only at hSw); go_simp; (try with_reducible rfl)
            simp only [List.setIfInBounds_toArray, List.set_cons_zero, List.set_cons_succ]
            refine takeH (i := 4) (v := ?vv11) 97 rfl rfl (by kernel_rfl) (by kernel_rfl) (by kernel_rfl) (fun _ _ _ h => h) (Or.inl ⟨by kernel_rfl, ?yy11⟩) (by assumption) ?_
            case yy11 => intro w hSw; (try dsimp only at hSw); go_simp; (try with_reducible rfl)
            simp only [List.setIfInBounds_toArray, List.set_cons_zero, List.set_cons_succ]
            refine takeH (i := 5) (v := ?vv12) 98 rfl rfl (by kernel_rfl) (by kernel_rfl) (by kernel_rfl) (fun _ _ _ h => h) (Or.inl ⟨by kernel_rfl, ?yy12⟩) (by assumption) ?_
            case yy12 => intro w hSw; (try dsimp only at hSw); go_simp; (try with_reducible rfl)
            simp only [List.setIfInBounds_toArray, List.set_cons_zero, List.set_cons_succ]
            refine takeH (i := 6) (v := ?vv13) 99 rfl rfl (by kernel_rfl) (by kernel_rfl) (by kernel_rfl) (fun _ _ _ h => h) (Or.inl ⟨by kernel_rfl, ?yy13⟩) (by assumption) ?_
            case yy13 => intro w hSw; (try dsimp only at hSw); go_simp; (try with_reducible rfl)
            simp only [List.setIfInBounds_toArray, List.set_cons_zero, List.set_cons_succ]
            refine takeH (i := 7) (v := ?vv14) 100 rfl rfl (by kernel_rfl) (by kernel_rfl) (by kernel_rfl) (fun _ _ _ h => h) (Or.inl ⟨by kernel_rfl, ?yy14⟩) (by assumption) ?_
            case yy14 => intro w hSw; (try dsimp only at hSw); go_simp; (try with_reducible rfl)
            simp only [List.setIfInBounds_toArray, List.set_cons_zero, List.set_cons_succ]
            refine wpAnyH_ready (rs := [8]) (by kernel_rfl) (by simp) ?_
            refine (AllReadyH.cons rfl (fun K hK => ?_) AllReadyH.nil)
            have r0 : v4.cell? ⟨(w.heap.size + 1), 0, none⟩ = some (.slice none 0 0) := HR.out.cell 0
            have r1 : v4.cell? ⟨(w.heap.size + 1), 1, none⟩ = some (.slice none 0 0) := HR.out.cell 1
            have r2 : v4.cell? ⟨(w.heap.size + 1), 2, none⟩ = some (.int .i64 0) := HR.out.cell 2
            have r3 : v4.cell? ⟨(w.heap.size + 1), 3, none⟩ = some (.int .i64 0) := HR.out.cell 3
            have r4 : v4.cell? ⟨(w.heap.size + 1), 4, none⟩ = some (.bool false) := HR.out.cell 4
            have f0 : v4.frozen? ⟨(w.heap.size + 1), 0, none⟩ = false := HR.out.free 0
            have f1 : v4.frozen? ⟨(w.heap.size + 1), 1, none⟩ = false := HR.out.free 1
            have f2 : v4.frozen? ⟨(w.heap.size + 1), 2, none⟩ = false := HR.out.free 2
            have f3 : v4.frozen? ⟨(w.heap.size + 1), 3, none⟩ = false := HR.out.free 3
            have f4 : v4.frozen? ⟨(w.heap.size + 1), 4, none⟩ = false := HR.out.free 4
            go_simp
            refine hK.out _ _ ?_ (fun hHeld => ?_)
            · exact wcells10_sets (W := v4) (by assumption) (w.heap.size + 1) (by omega) (by omega) _ _ _ _ _
            clear hK K
            (try simp only [Act.put, List.setIfInBounds_toArray, List.set_cons_zero, List.set_cons_succ])
            clear r0 r1 r2 r3 r4
            clear f0 f1 f2 f3 f4
            have HRa := Lib.hid (HR.out.sets (.slice a3 nd.S.length c3) (.slice a4 nd.P.length c4) (.int .i64 nd.fuse) (.int .i64 nd.ops) (.bool nd.dead)); have HJa := Lib.hid (HJ.out.sets_ne (c := w.heap.size + 1) (by omega) (.slice a3 nd.S.length c3) (.slice a4 nd.P.length c4) (.int .i64 nd.fuse) (.int .i64 nd.ops) (.bool nd.dead)); have HBa := Lib.hid (below_sets HB.out (w.heap.size + 1) (by omega) (.slice a3 nd.S.length c3) (.slice a4 nd.P.length c4) (.int .i64 nd.fuse) (.int .i64 nd.ops) (.bool nd.dead)); have HOa := Lib.hid (HO.out.sets (w.heap.size + 1) (by omega) (.slice a3 nd.S.length c3) (.slice a4 nd.P.length c4) (.int .i64 nd.fuse) (.int .i64 nd.ops) (.bool nd.dead))
            have HVa := Lib.hid (own_sets5 HV4.out (w.heap.size + 1) (by omega) (.slice a3 nd.S.length c3) (.slice a4 nd.P.length c4) (.int .i64 nd.fuse) (.int .i64 nd.ops) (.bool nd.dead))
            generalize hWE : (((((v4.setCell ⟨(w.heap.size + 1), 0, none⟩ (.slice a3 nd.S.length c3)).setCell ⟨(w.heap.size + 1), 1, none⟩ (.slice a4 nd.P.length c4)).setCell ⟨(w.heap.size + 1), 2, none⟩ (.int .i64 nd.fuse)).setCell ⟨(w.heap.size + 1), 3, none⟩ (.int .i64 nd.ops)).setCell ⟨(w.heap.size + 1), 4, none⟩ (.bool nd.dead)) = WE at HRa HJa HBa HOa HVa hHeld ⊢
            clear hWE
            refine wpAnyH_ready (rs := [9]) (by kernel_rfl) (by simp) ?_
            refine (AllReadyH.cons rfl (fun K hK => ?_) AllReadyH.nil)
            have q0 : WE.cell? ⟨(w.heap.size + 2), 0, none⟩ = some (.int .i64 0) := HJa.out.cell 0
            have q1 : WE.cell? ⟨(w.heap.size + 2), 1, none⟩ = some (.int .i64 0) := HJa.out.cell 1
            have q2 : WE.cell? ⟨(w.heap.size + 2), 2, none⟩ = some (.int .i64 0) := HJa.out.cell 2
            have q3 : WE.cell? ⟨(w.heap.size + 2), 3, none⟩ = some (.int .i64 0) := HJa.out.cell 3
            have q4 : WE.cell? ⟨(w.heap.size + 2), 4, none⟩ = some (.int .i64 0) := HJa.out.cell 4
            have q5 : WE.cell? ⟨(w.heap.size + 2), 5, none⟩ = some (.int .i64 0) := HJa.out.cell 5
            have q6 : WE.cell? ⟨(w.heap.size + 2), 6, none⟩ = some (.int .i64 0) := HJa.out.cell 6
            have p0 : WE.frozen? ⟨(w.heap.size + 2), 0, none⟩ = false := HJa.out.free 0
            have p1 : WE.frozen? ⟨(w.heap.size + 2), 1, none⟩ = false := HJa.out.free 1
            have p2 : WE.frozen? ⟨(w.heap.size + 2), 2, none⟩ = false := HJa.out.free 2
            have p3 : WE.frozen? ⟨(w.heap.size + 2), 3, none⟩ = false := HJa.out.free 3
            have p4 : WE.frozen? ⟨(w.heap.size + 2), 4, none⟩ = false := HJa.out.free 4
            have p5 : WE.frozen? ⟨(w.heap.size + 2), 5, none⟩ = false := HJa.out.free 5
            have p6 : WE.frozen? ⟨(w.heap.size + 2), 6, none⟩ = false := HJa.out.free 6
            go_simp
            refine hK.out _ _ ?_ (fun hHeld => ?_)
            · exact wcells10_sets7 (W := WE) (by assumption) (w.heap.size + 2) (by omega) (by omega) _ _ _ _ _ _ _
            clear hK K
            (try simp only [Act.put, List.setIfInBounds_toArray, List.set_cons_zero, List.set_cons_succ])
            have KR := Lib.hid (HRa.out.sets7_ne (c := w.heap.size + 2) (by omega) (.int .i64 (x.g + 1)) (.int .i64 x.e) (.int .i64 x.a) (.int .i64 x.z) (.int .i64 x.p) (.int .i64 (k : Int)) (.int .i64 (M.length : Int))); have KJ := Lib.hid (HJa.out.sets7 (.int .i64 (x.g + 1)) (.int .i64 x.e) (.int .i64 x.a) (.int .i64 x.z) (.int .i64 x.p) (.int .i64 (k : Int)) (.int .i64 (M.length : Int)))
            refine takeH (i := 10) (v := ?vv15) 4 rfl rfl (by kernel_rfl) (by kernel_rfl) (by kernel_rfl) (fun _ _ _ h => h) (Or.inl ⟨by kernel_rfl, ?yy15⟩) (by assumption) ?_
            case yy15 => intro w hSw; (try dsimp only at hSw); go_simp; (try with_reducible rfl)
            simp only [List.setIfInBounds_toArray, List.set_cons_zero, List.set_cons_succ]
            refine takeH (i := 11) (v := ?vv16) 5 rfl rfl (by kernel_rfl) (by kernel_rfl) (by kernel_rfl) (fun _ _ _ h => h) (Or.inl ⟨by kernel_rfl, ?yy16⟩) (by assumption) ?_
            case yy16 => intro w hSw; (try dsimp only at hSw); go_simp; (try with_reducible rfl)
            simp only [List.setIfInBounds_toArray, List.set_cons_zero, List.set_cons_succ]
            refine takeH (i := 12) (v := ?vv17) 6 rfl rfl (by kernel_rfl) (by kernel_rfl) (by kernel_rfl) (fun _ _ _ h => h) (Or.inl ⟨by kernel_rfl, ?yy17⟩) (by assumption) ?_
            case yy17 => intro w hSw; (try dsimp only at hSw); go_simp; (try with_reducible rfl)
            simp only [List.setIfInBounds_toArray, List.set_cons_zero, List.set_cons_succ]
            refine wpAnyH_done (by kernel_rfl) ?_ _
            go_wp2
            have k0 := KR.out.cell 0
            have k1 := KR.out.cell 1
            have k2 := KR.out.cell 2
            have k3 := KR.out.cell 3
            have k4 := KR.out.cell 4
            have m0 := KJ.out.cell 0
            have m1 := KJ.out.cell 1
            have m2 := KJ.out.cell 2
            have m3 := KJ.out.cell 3
            have m4 := KJ.out.cell 4
            have m5 := KJ.out.cell 5
            have m6 := KJ.out.cell 6
            simp only [List.getElem?_toArray, List.getElem?_cons_zero, List.getElem?_cons_succ] at k0 k1 k2 k3 k4 m0 m1 m2 m3 m4 m5 m6
            have hres := HRES.out
            refine bodyPost_ret (v := .tuple #[.agg #[.slice a3 nd.S.length c3, .slice a4 nd.P.length c4, .int .i64 nd.fuse, .int .i64 nd.ops, .bool nd.dead], .agg #[.int .i64 (x.g + 1), .int .i64 x.e, .int .i64 x.a, .int .i64 x.z, .int .i64 x.p, .int .i64 (k : Int), .int .i64 (M.length : Int)], .string (bs im), .slice ra M.length rc, .int .i64 0]) (by simp [results, Try.results35, go_sem, k0, k1, k2, k3, k4, m0, m1, m2, m3, m4, m5, m6]) rfl ?_
            refine WOPost.mk ⟨nd, ⟨nextS x, (k : Int), (M.length : Int)⟩, im, M, 0⟩ a3 c3 a4 c4 (.slice ra M.length rc) rfl ?_ ?_ ((below_sets7 HBa.out (w.heap.size + 2) (by omega) (.int .i64 (x.g + 1)) (.int .i64 x.e) (.int .i64 x.a) (.int .i64 x.z) (.int .i64 x.p) (.int .i64 (k : Int)) (.int .i64 (M.length : Int))).drew) hres
            · exact ((HOa.out.sets7 (w.heap.size + 2) (by omega) (.int .i64 (x.g + 1)) (.int .i64 x.e) (.int .i64 x.a) (.int .i64 x.z) (.int .i64 x.p) (.int .i64 (k : Int)) (.int .i64 (M.length : Int))).drewD).mono (by omega)
            · exact own_mono (own_drewD (own_sets7 HVa.out (w.heap.size + 2) (by omega) (.int .i64 (x.g + 1)) (.int .i64 x.e) (.int .i64 x.a) (.int .i64 x.z) (.int .i64 x.p) (.int .i64 (k : Int)) (.int .i64 (M.length : Int)))) (by omega)
          · have tf : (fe != 0) = true := by rw [bne_iff_ne]; exact hf
            have HFE := Lib.hid hf; clear hf
            have hres : openW d = ⟨nd, j0, [], [], fe⟩ := by unfold openW; rw [if_pos HV.out, HL.out]; simp only; rw [if_neg (by decide), if_pos trivial, HCK.out]; simp only; rw [if_pos trivial, if_neg HM.out, HST.out]; simp only; rw [if_neg HFE.out]
            have HRES := Lib.hid hres; clear hres
            have n0 : v4.cell? ⟨w4.heap.size, 0, none⟩ = some (.slice a3 nd.S.length c3) := HN.out.cell 0
            have n1 : v4.cell? ⟨w4.heap.size, 1, none⟩ = some (.slice a4 nd.P.length c4) := HN.out.cell 1
            have n2 : v4.cell? ⟨w4.heap.size, 2, none⟩ = some (.int .i64 nd.fuse) := HN.out.cell 2
            have n3 : v4.cell? ⟨w4.heap.size, 3, none⟩ = some (.int .i64 nd.ops) := HN.out.cell 3
            have n4 : v4.cell? ⟨w4.heap.size, 4, none⟩ = some (.bool nd.dead) := HN.out.cell 4
            have hO2 := HO.out
            have hres := HRES.out
            have r0 : v4.cell? ⟨(w.heap.size + 1), 0, none⟩ = some (.slice none 0 0) := HR.out.cell 0
            have r1 : v4.cell? ⟨(w.heap.size + 1), 1, none⟩ = some (.slice none 0 0) := HR.out.cell 1
            have r2 : v4.cell? ⟨(w.heap.size + 1), 2, none⟩ = some (.int .i64 0) := HR.out.cell 2
            have r3 : v4.cell? ⟨(w.heap.size + 1), 3, none⟩ = some (.int .i64 0) := HR.out.cell 3
            have r4 : v4.cell? ⟨(w.heap.size + 1), 4, none⟩ = some (.bool false) := HR.out.cell 4
            have q0 : v4.cell? ⟨(w.heap.size + 2), 0, none⟩ = some (.int .i64 0) := HJ.out.cell 0
            have q1 : v4.cell? ⟨(w.heap.size + 2), 1, none⟩ = some (.int .i64 0) := HJ.out.cell 1
            have q2 : v4.cell? ⟨(w.heap.size + 2), 2, none⟩ = some (.int .i64 0) := HJ.out.cell 2
            have q3 : v4.cell? ⟨(w.heap.size + 2), 3, none⟩ = some (.int .i64 0) := HJ.out.cell 3
            have q4 : v4.cell? ⟨(w.heap.size + 2), 4, none⟩ = some (.int .i64 0) := HJ.out.cell 4
            have q5 : v4.cell? ⟨(w.heap.size + 2), 5, none⟩ = some (.int .i64 0) := HJ.out.cell 5
            have q6 : v4.cell? ⟨(w.heap.size + 2), 6, none⟩ = some (.int .i64 0) := HJ.out.cell 6
            have f0 := HR.out.free 0
            have f1 := HR.out.free 1
            have f2 := HR.out.free 2
            have f3 := HR.out.free 3
            have f4 := HR.out.free 4
            have p0 := HJ.out.free 0
            have p1 := HJ.out.free 1
            have p2 := HJ.out.free 2
            have p3 := HJ.out.free 3
            have p4 := HJ.out.free 4
            have p5 := HJ.out.free 5
            have p6 := HJ.out.free 6
            have KR := Lib.hid ((HR.out.sets (.slice a3 nd.S.length c3) (.slice a4 nd.P.length c4) (.int .i64 nd.fuse) (.int .i64 nd.ops) (.bool nd.dead)).sets7_ne (c := w.heap.size + 2) (by omega) (.int .i64 0) (.int .i64 0) (.int .i64 0) (.int .i64 0) (.int .i64 0) (.int .i64 0) (.int .i64 0))
            have KJ := Lib.hid ((HJ.out.sets_ne (c := w.heap.size + 1) (by omega) (.slice a3 nd.S.length c3) (.slice a4 nd.P.length c4) (.int .i64 nd.fuse) (.int .i64 nd.ops) (.bool nd.dead)).sets7 (.int .i64 0) (.int .i64 0) (.int .i64 0) (.int .i64 0) (.int .i64 0) (.int .i64 0) (.int .i64 0))
            go_wp2
            have k0 := KR.out.cell 0
            have k1 := KR.out.cell 1
            have k2 := KR.out.cell 2
            have k3 := KR.out.cell 3
            have k4 := KR.out.cell 4
            have m0 := KJ.out.cell 0
            have m1 := KJ.out.cell 1
            have m2 := KJ.out.cell 2
            have m3 := KJ.out.cell 3
            have m4 := KJ.out.cell 4
            have m5 := KJ.out.cell 5
            have m6 := KJ.out.cell 6
            simp only [List.getElem?_toArray, List.getElem?_cons_zero, List.getElem?_cons_succ] at k0 k1 k2 k3 k4 m0 m1 m2 m3 m4 m5 m6
            refine bodyPost_ret (v := .tuple #[.agg #[.slice a3 nd.S.length c3, .slice a4 nd.P.length c4, .int .i64 nd.fuse, .int .i64 nd.ops, .bool nd.dead], .agg #[.int .i64 0, .int .i64 0, .int .i64 0, .int .i64 0, .int .i64 0, .int .i64 0, .int .i64 0], .string (bs []), .slice none 0 0, .int .i64 fe]) (by simp [results, Try.results35, go_sem, k0, k1, k2, k3, k4, m0, m1, m2, m3, m4, m5, m6]; rfl) rfl ?_
            refine WOPost.mk ⟨nd, j0, [], [], fe⟩ a3 c3 a4 c4 (.slice none 0 0) rfl ?_ ?_ (below_sets7 (below_sets HB.out (w.heap.size + 1) (by omega) (.slice a3 nd.S.length c3) (.slice a4 nd.P.length c4) (.int .i64 nd.fuse) (.int .i64 nd.ops) (.bool nd.dead)) (w.heap.size + 2) (by omega) (.int .i64 0) (.int .i64 0) (.int .i64 0) (.int .i64 0) (.int .i64 0) (.int .i64 0) (.int .i64 0)) hres
            · exact ((hO2.sets (w.heap.size + 1) (by omega) (.slice a3 nd.S.length c3) (.slice a4 nd.P.length c4) (.int .i64 nd.fuse) (.int .i64 nd.ops) (.bool nd.dead)).sets7 (w.heap.size + 2) (by omega) (.int .i64 0) (.int .i64 0) (.int .i64 0) (.int .i64 0) (.int .i64 0) (.int .i64 0) (.int .i64 0)).mono (by omega)
            · exact World.ownsRow_nil _ _ _ _
end Go.Proofs.Ytkpfkknldeafkaa

namespace Go.Proofs.Ytkpfkknldeafkaa
open Go.RowKit

theorem jB_bounds {d : Dk} {j : Jn} (hv : validB d = true) (h : jB d j = true) : spB j.x = true ∧ 0 ≤ j.n ∧ j.n ≤ (szN d : Int) ∧ 0 ≤ j.r ∧ j.r ≤ j.n := by
  unfold jB at h
  rw [areas_ok hv] at h
  simp only [Bool.and_eq_true, decide_eq_true_eq] at h
  exact ⟨h.1, h.2⟩
theorem splitS_len (g : Int) (l : List UInt8) : (splitS g l).1.length ≤ 1024 := split_len g l

set_option maxRecDepth 100000 in
set_option maxHeartbeats 16000000 in
theorem check_any (sa pa : Option Addr) (sc pc : Nat) (d : Dk) (j : Jn) (l : List UInt8) (w : World) (hD : Lists w sa sc pa pc d) (hl : l.length ≤ 1000000000000000) :
    Calls Try.prog 78 #[.agg #[.slice sa d.S.length sc, .slice pa d.P.length pc, .int .i64 d.fuse, .int .i64 d.ops, .bool d.dead], .agg (jnV j), .string (bs l)] w fun e w' => e = .returned (.tuple #[.int .i64 ((planS d j l).1.length : Int), .int .i64 (planS d j l).2]) ∧ Below w.heap.size w w' := by
  obtain ⟨⟨SL, es⟩, hs⟩ : ∃ r, splitS j.x.g l = r := ⟨_, rfl⟩
  have hsl := splitS_len j.x.g l
  rw [hs] at hsl
  simp only at hsl
  have HS := Lib.hid hs; clear hs
  simp only [jnV]
  have hb0 := (((Below.refl w.heap.size w).alloc (Nat.le_refl _) (.cells #[.slice sa d.S.length sc, .slice pa d.P.length pc, .int .i64 d.fuse, .int .i64 d.ops, .bool d.dead] 38)).alloc (by simp) (.cells #[.int .i64 j.x.g, .int .i64 j.x.e, .int .i64 j.x.a, .int .i64 j.x.z, .int .i64 j.x.p, .int .i64 j.n, .int .i64 j.r] 57))
  have h_HX := ((Bx.new w #[.slice sa d.S.length sc, .slice pa d.P.length pc, .int .i64 d.fuse, .int .i64 d.ops, .bool d.dead] 38).alloc (.cells #[.int .i64 j.x.g, .int .i64 j.x.e, .int .i64 j.x.a, .int .i64 j.x.z, .int .i64 j.x.p, .int .i64 j.n, .int .i64 j.r] 57))
  have h_HJ := (Bx.new (w.alloc (.cells #[.slice sa d.S.length sc, .slice pa d.P.length pc, .int .i64 d.fuse, .int .i64 d.ops, .bool d.dead] 38)) #[.int .i64 j.x.g, .int .i64 j.x.e, .int .i64 j.x.a, .int .i64 j.x.z, .int .i64 j.x.p, .int .i64 j.n, .int .i64 j.r] 57)
  rw [show (w.alloc (.cells #[.slice sa d.S.length sc, .slice pa d.P.length pc, .int .i64 d.fuse, .int .i64 d.ops, .bool d.dead] 38)).heap.size = w.heap.size + 1 by simp] at h_HJ
  have HB := Lib.hid hb0; have HX := Lib.hid h_HX; have HJ := Lib.hid h_HJ
  clear hb0 h_HX h_HJ
  have HD := Lib.hid (hD.below HB.out)
  go_enter Try.func78, Try.ntmps78
  go_upto_region 1 with (fail)
  generalize hW0 : (w.alloc (.cells #[.slice sa d.S.length sc, .slice pa d.P.length pc, .int .i64 d.fuse, .int .i64 d.ops, .bool d.dead] 38)).alloc (.cells #[.int .i64 j.x.g, .int .i64 j.x.e, .int .i64 j.x.a, .int .i64 j.x.z, .int .i64 j.x.p, .int .i64 j.n, .int .i64 j.r] 57) = v0 at HB HD HX HJ ⊢
  clear hW0
  have x0 : v0.cell? ⟨w.heap.size, 0, none⟩ = some (.slice sa d.S.length sc) := HX.out.cell 0
  have x1 : v0.cell? ⟨w.heap.size, 1, none⟩ = some (.slice pa d.P.length pc) := HX.out.cell 1
  have x2 : v0.cell? ⟨w.heap.size, 2, none⟩ = some (.int .i64 d.fuse) := HX.out.cell 2
  have x3 : v0.cell? ⟨w.heap.size, 3, none⟩ = some (.int .i64 d.ops) := HX.out.cell 3
  have x4 : v0.cell? ⟨w.heap.size, 4, none⟩ = some (.bool d.dead) := HX.out.cell 4
  cases hv : validB d with
  | false =>
    have HV := Lib.hid hv; clear hv
    have hres : planS d j l = ([], 1) := by unfold planS; rw [if_neg (by rw [HV.out]; simp)]
    have HRES := Lib.hid hres; clear hres
    go_wp2_with fail
    refine (Valid_any _ _ _ _ d _ HD.out).mono ?_
    rw [HV.out]
    rintro er w1 ⟨rfl, hb1⟩
    clear x0 x1 x2 x3 x4
    have HX := Lib.hid (HX.out.call hb1)
    have HJ := Lib.hid (HJ.out.call hb1)
    have HD := Lib.hid (HD.out.below hb1)
    have HB := Lib.hid (btrans HB.out HB.out.size hb1); clear hb1
    go_wp2_with fail
    go_ret2
    rw [HRES.out]
    exact ⟨rfl, HB.out⟩
  | true =>
    have HV := Lib.hid hv; clear hv
    go_wp2_with fail
    refine (Valid_any _ _ _ _ d _ HD.out).mono ?_
    rw [HV.out]
    rintro er w1 ⟨rfl, hb1⟩
    clear x0 x1 x2 x3 x4
    have HX := Lib.hid (HX.out.call hb1)
    have HJ := Lib.hid (HJ.out.call hb1)
    have HD := Lib.hid (HD.out.below hb1)
    have HB := Lib.hid (btrans HB.out HB.out.size hb1); clear hb1
    have x0 : w1.cell? ⟨w.heap.size, 0, none⟩ = some (.slice sa d.S.length sc) := HX.out.cell 0
    have x1 : w1.cell? ⟨w.heap.size, 1, none⟩ = some (.slice pa d.P.length pc) := HX.out.cell 1
    have x2 : w1.cell? ⟨w.heap.size, 2, none⟩ = some (.int .i64 d.fuse) := HX.out.cell 2
    have x3 : w1.cell? ⟨w.heap.size, 3, none⟩ = some (.int .i64 d.ops) := HX.out.cell 3
    have x4 : w1.cell? ⟨w.heap.size, 4, none⟩ = some (.bool d.dead) := HX.out.cell 4
    have y0 : w1.cell? ⟨(w.heap.size + 1), 0, none⟩ = some (.int .i64 j.x.g) := HJ.out.cell 0
    have y1 : w1.cell? ⟨(w.heap.size + 1), 1, none⟩ = some (.int .i64 j.x.e) := HJ.out.cell 1
    have y2 : w1.cell? ⟨(w.heap.size + 1), 2, none⟩ = some (.int .i64 j.x.a) := HJ.out.cell 2
    have y3 : w1.cell? ⟨(w.heap.size + 1), 3, none⟩ = some (.int .i64 j.x.z) := HJ.out.cell 3
    have y4 : w1.cell? ⟨(w.heap.size + 1), 4, none⟩ = some (.int .i64 j.x.p) := HJ.out.cell 4
    have y5 : w1.cell? ⟨(w.heap.size + 1), 5, none⟩ = some (.int .i64 j.n) := HJ.out.cell 5
    have y6 : w1.cell? ⟨(w.heap.size + 1), 6, none⟩ = some (.int .i64 j.r) := HJ.out.cell 6
    cases hj : jB d j with
    | false =>
      have HJB := Lib.hid hj; clear hj
      have hres : planS d j l = ([], 1) := by unfold planS; rw [if_neg (by rw [HJB.out]; simp)]
      have HRES := Lib.hid hres; clear hres
      go_wp2_with fail
      refine (validW_any _ _ _ _ d j _ HD.out).mono ?_
      rw [HJB.out]
      rintro er w2 ⟨rfl, hb1⟩
      clear x0 x1 x2 x3 x4
      clear y0 y1 y2 y3 y4 y5 y6
      have HX := Lib.hid (HX.out.call hb1)
      have HJ := Lib.hid (HJ.out.call hb1)
      have HD := Lib.hid (HD.out.below hb1)
      have HB := Lib.hid (btrans HB.out HB.out.size hb1); clear hb1
      go_wp2_with fail
      go_ret2
      rw [HRES.out]
      exact ⟨rfl, HB.out⟩
    | true =>
      have HJB := Lib.hid hj; clear hj
      go_wp2_with fail
      refine (validW_any _ _ _ _ d j _ HD.out).mono ?_
      rw [HJB.out]
      rintro er w2 ⟨rfl, hb1⟩
      clear x0 x1 x2 x3 x4
      clear y0 y1 y2 y3 y4 y5 y6
      have HX := Lib.hid (HX.out.call hb1)
      have HJ := Lib.hid (HJ.out.call hb1)
      have HD := Lib.hid (HD.out.below hb1)
      have HB := Lib.hid (btrans HB.out HB.out.size hb1); clear hb1
      obtain ⟨_, jn0, jn1, _, _⟩ := jB_bounds HV.out HJB.out
      have zs := (arN_bounds HV.out).2.2.2.1
      have y0 : w2.cell? ⟨(w.heap.size + 1), 0, none⟩ = some (.int .i64 j.x.g) := HJ.out.cell 0
      go_wp2_with fail
      refine (Split_any _ l _ hl).mono ?_
      rw [HS.out]
      rintro er w3 ⟨v, rfl, hown, hb1⟩
      clear y0
      obtain ⟨va, vc, rfl⟩ := own_slice hown
      have HO := Lib.hid (own_mono hown HB.out.size); clear hown
      have HX := Lib.hid (HX.out.call hb1)
      have HJ := Lib.hid (HJ.out.call hb1)
      have HD := Lib.hid (HD.out.below hb1)
      have HB := Lib.hid (btrans HB.out HB.out.size hb1); clear hb1
      by_cases he : es = 0
      rotate_left
      · have te : (es != 0) = true := by rw [bne_iff_ne]; exact he
        have HE := Lib.hid he; clear he
        have hres : planS d j l = ([], es) := by unfold planS; rw [if_pos ⟨HV.out, HJB.out⟩, HS.out]; simp only; rw [if_neg HE.out]
        have HRES := Lib.hid hres; clear hres
        go_wp2_with fail
        go_ret2
        rw [HRES.out]
        exact ⟨rfl, HB.out⟩
      subst he
      have x0 : w3.cell? ⟨w.heap.size, 0, none⟩ = some (.slice sa d.S.length sc) := HX.out.cell 0
      have x1 : w3.cell? ⟨w.heap.size, 1, none⟩ = some (.slice pa d.P.length pc) := HX.out.cell 1
      have x2 : w3.cell? ⟨w.heap.size, 2, none⟩ = some (.int .i64 d.fuse) := HX.out.cell 2
      have x3 : w3.cell? ⟨w.heap.size, 3, none⟩ = some (.int .i64 d.ops) := HX.out.cell 3
      have x4 : w3.cell? ⟨w.heap.size, 4, none⟩ = some (.bool d.dead) := HX.out.cell 4
      go_wp2_with fail
      refine (Areas_any _ _ _ _ d _ HD.out).mono ?_
      rw [areas_ok HV.out]
      rintro er w4 ⟨rfl, hb1⟩
      clear x0 x1 x2 x3 x4
      have HO := Lib.hid (own_below HO.out hb1)
      have HX := Lib.hid (HX.out.call hb1)
      have HJ := Lib.hid (HJ.out.call hb1)
      have HD := Lib.hid (HD.out.below hb1)
      have HB := Lib.hid (btrans HB.out HB.out.size hb1); clear hb1
      have y5 : w4.cell? ⟨w.heap.size + 1, 5, none⟩ = some (.int .i64 j.n) := HJ.out.cell 5
      by_cases hf : (szN d : Int) - j.n < (SL.length : Int)
      · skip
        have hres : planS d j l = ([], 17) := by unfold planS; rw [if_pos ⟨HV.out, HJB.out⟩, HS.out]; simp only; rw [if_pos trivial, if_pos hf]
        have HRES := Lib.hid hres; clear hres
        go_wp2_with fail
        go_ret2
        rw [HRES.out]
        exact ⟨rfl, HB.out⟩
      · skip
        have hres : planS d j l = (SL, 0) := by unfold planS; rw [if_pos ⟨HV.out, HJB.out⟩, HS.out]; simp only; rw [if_pos trivial, if_neg hf]
        have HRES := Lib.hid hres; clear hres
        go_wp2_with fail
        go_ret2
        rw [HRES.out]
        exact ⟨rfl, HB.out⟩
end Go.Proofs.Ytkpfkknldeafkaa
