/- Layer 46 (super): superblocks as plain data, their sectors, the disk that holds them. No conditions. -/
import Derived.Test.YtkpfkknldeafkaaWireP
import Derived.Test.YtkpfkknldeafkaaSecOpen
import Derived.Test.YtkpfkknldeafkaaDiskGood
namespace Go.Proofs.Ytkpfkknldeafkaa
open Go.RowKit

structure Sp where
  g : Int
  e : Int
  a : Int
  z : Int
  p : Int
deriving DecidableEq
def spV (x : Sp) : Array Value := #[.int .i64 x.g, .int .i64 x.e, .int .i64 x.a, .int .i64 x.z, .int .i64 x.p]
def sp0 : Sp := ⟨0, 0, 0, 0, 0⟩
def spB (x : Sp) : Bool := decide (1 ≤ x.g ∧ x.g ≤ 1099511627776 ∧ 0 ≤ x.e ∧ x.e ≤ x.g ∧ 0 ≤ x.a ∧ x.a ≤ 2 ∧ (x.a = 0 → x.z = 0 ∧ x.p = 0) ∧ (x.a ≠ 0 → 1 ≤ x.z ∧ x.z ≤ 16384 ∧ 0 ≤ x.p ∧ x.p ≤ 1099511627776))
theorem spB_iff (x : Sp) : spB x = true ↔ 1 ≤ x.g ∧ x.g ≤ 1099511627776 ∧ 0 ≤ x.e ∧ x.e ≤ x.g ∧ 0 ≤ x.a ∧ x.a ≤ 2 ∧ (x.a = 0 → x.z = 0 ∧ x.p = 0) ∧ (x.a ≠ 0 → 1 ≤ x.z ∧ x.z ≤ 16384 ∧ 0 ≤ x.p ∧ x.p ≤ 1099511627776) := by unfold spB; rw [decide_eq_true_iff]
theorem spB_no {x : Sp} (h : ¬ (1 ≤ x.g ∧ x.g ≤ 1099511627776 ∧ 0 ≤ x.e ∧ x.e ≤ x.g ∧ 0 ≤ x.a ∧ x.a ≤ 2 ∧ (x.a = 0 → x.z = 0 ∧ x.p = 0) ∧ (x.a ≠ 0 → 1 ≤ x.z ∧ x.z ≤ 16384 ∧ 0 ≤ x.p ∧ x.p ≤ 1099511627776))) : spB x = false := decide_eq_false h
theorem spB_bounds {x : Sp} (h : spB x = true) : 1 ≤ x.g ∧ x.g ≤ 1099511627776 ∧ 0 ≤ x.e ∧ x.e ≤ 1099511627776 ∧ 0 ≤ x.a ∧ x.a ≤ 2 ∧ 0 ≤ x.z ∧ x.z ≤ 16384 ∧ 0 ≤ x.p ∧ x.p ≤ 1099511627776 := by
  obtain ⟨h1, h2, h3, h4, h5, h6, h7, h8⟩ := (spB_iff x).1 h
  by_cases h0 : x.a = 0
  · have := h7 h0; omega
  · have := h8 h0; omega
/-- the data of a superblock's sector -/
def encD (x : Sp) : List UInt8 := uintS x.e.toNat ++ uintS x.a.toNat ++ uintS x.z.toNat ++ uintS x.p.toNat
theorem uintS_len (u : Nat) (h : u ≤ 1099511627776) : (uintS u).length ≤ 6 := by
  refine uintF_small 9 5 u (by omega) ?_
  have e : (128 : Nat) ^ (5 + 1) = 4398046511104 := by decide
  rw [e]; omega
theorem encD_len {x : Sp} (h : spB x = true) : (encD x).length ≤ 40 := by
  obtain ⟨h1, h2, h3, h4, h5, h6, h7, h8, h9, h10⟩ := spB_bounds h
  unfold encD
  have a := uintS_len x.e.toNat (by omega)
  have b := uintS_len x.a.toNat (by omega)
  have c := uintS_len x.z.toNat (by omega)
  have d := uintS_len x.p.toNat (by omega)
  simp only [List.length_append]; omega
def encS (x : Sp) : List UInt8 × Int := if spB x = true then (sealedL x.g.toNat 0 1 (encD x), 0) else ([], 1)
theorem enc_seal {x : Sp} (h : spB x = true) : sealS x.g 0 1 (encD x) = (sealedL x.g.toNat 0 1 (encD x), 0) := by
  obtain ⟨h1, h2, _⟩ := spB_bounds h
  have hs : stampB x.g 0 1 = true := by rw [stampB_iff]; omega
  unfold sealS; rw [if_pos hs, if_pos (encD_len h)]; rfl
theorem enc_len {x : Sp} (h : spB x = true) : (sealedL x.g.toNat 0 1 (encD x)).length = 64 := sealedL_length _ _ _ _ (encD_len h)

/-- k numbers taken off some data, one behind the other: the numbers, the place behind them, the error -/
def tkN (data : List UInt8) : Nat → List Nat × Int × Int
  | 0 => ([], 0, 0)
  | k + 1 => if (tkN data k).2.2 ≠ 0 then tkN data k else if (takeS data (tkN data k).2.1).2.2 = 0 then ((tkN data k).1 ++ [(takeS data (tkN data k).2.1).1], (takeS data (tkN data k).2.1).2.1, 0) else ([], 0, (takeS data (tkN data k).2.1).2.2)
theorem tkN_ok {data : List UInt8} {k : Nat} {ns : List Nat} {at_ : Int} (h : tkN data k = (ns, at_, 0)) {u : Nat} {at2 : Int} (h2 : takeS data at_ = (u, at2, 0)) : tkN data (k + 1) = (ns ++ [u], at2, 0) := by
  unfold tkN; rw [h]; simp only; rw [h2]; simp
theorem tkN_bad {data : List UInt8} {k : Nat} {ns : List Nat} {at_ : Int} (h : tkN data k = (ns, at_, 0)) {e : Int} (h2 : (takeS data at_).2.2 = e) (he : e ≠ 0) : tkN data (k + 1) = ([], 0, e) := by
  unfold tkN; rw [h]; simp only; rw [h2, if_neg (by simp), if_neg he]
theorem tkN_stay {data : List UInt8} {k : Nat} {e : Int} (h : tkN data k = ([], 0, e)) (he : e ≠ 0) (j : Nat) : tkN data (k + j) = ([], 0, e) := by
  induction j with
  | zero => exact h
  | succ j ih => rw [← Nat.add_assoc]; unfold tkN; rw [ih]; simp only; rw [if_pos he]
def mkSp (g : Int) (ns : List Nat) : Sp := ⟨g, ns.getD 0 0, ns.getD 1 0, ns.getD 2 0, ns.getD 3 0⟩
def bigB (ns : List Nat) : Bool := ns.any fun n => decide ((1099511627776 : Int) < (n : Int))
theorem bigB_snoc (ns : List Nat) (u : Nat) : bigB (ns ++ [u]) = (bigB ns || decide ((1099511627776 : Int) < (u : Int))) := by unfold bigB; rw [List.any_append]; simp
def decD (g : Int) (data : List UInt8) : Sp × Int :=
  if (tkN data 4).2.2 ≠ 0 then (sp0, (tkN data 4).2.2)
  else if (tkN data 4).2.1 = (data.length : Int) ∧ bigB (tkN data 4).1 = false ∧ spB (mkSp g (tkN data 4).1) = true then (mkSp g (tkN data 4).1, 0) else (sp0, 5)
theorem decD_bad {g : Int} {data : List UInt8} {e : Int} (h : tkN data 4 = ([], 0, e)) (he : e ≠ 0) : decD g data = (sp0, e) := by unfold decD; rw [h]; simp only; rw [if_pos he]
theorem decD_ok {g : Int} {data : List UInt8} {ns : List Nat} {at_ : Int} (h : tkN data 4 = (ns, at_, 0)) (h1 : at_ = (data.length : Int)) (h2 : bigB ns = false) (h3 : spB (mkSp g ns) = true) : decD g data = (mkSp g ns, 0) := by
  unfold decD; rw [h]; simp only; rw [if_neg (by simp), if_pos ⟨h1, h2, h3⟩]
theorem decD_no {g : Int} {data : List UInt8} {ns : List Nat} {at_ : Int} (h : tkN data 4 = (ns, at_, 0)) (h1 : ¬ (at_ = (data.length : Int) ∧ bigB ns = false ∧ spB (mkSp g ns) = true)) : decD g data = (sp0, 5) := by
  unfold decD; rw [h]; simp only; rw [if_neg (by simp), if_neg h1]
/-- four cells of an array of numbers -/
def u64A (A : List Nat) : Array Value := (A.map fun (n : Nat) => Value.int .u64 (n : Int)).toArray
theorem u64A_get (A : List Nat) (k : Nat) (h : k < A.length) : (u64A A)[k]? = some (.int .u64 (A[k] : Int)) := by unfold u64A; simp [h]
theorem u64A_set (A : List Nat) (k u : Nat) : (u64A A).setIfInBounds k (.int .u64 (u : Int)) = u64A (A.set k u) := by unfold u64A; rw [List.setIfInBounds_toArray, List.map_set]
theorem take_set (A : List Nat) (k u : Nat) (ns : List Nat) (hk : k < A.length) (h : A.take k = ns) : (A.set k u).take (k + 1) = ns ++ [u] := by
  rw [List.take_succ_eq_append_getElem (by simpa using hk), List.getElem_set_self, List.take_set_of_le (Nat.le_refl _), h]
def decS (s : List UInt8) : Sp × Int :=
  if (openS s).2.2 ≠ 0 then (sp0, (openS s).2.2)
  else if (openS s).1.2.1 = 0 ∧ (openS s).1.2.2 = 1 then decD (openS s).1.1 (openS s).2.1 else (sp0, 5)
def bestS (a b : List UInt8) : Sp × Bool :=
  if (decS a).2 = 0 ∧ ((decS b).2 ≠ 0 ∨ (decS b).1.g ≤ (decS a).1.g) then ((decS a).1, true)
  else if (decS b).2 = 0 then ((decS b).1, true) else (sp0, false)
def loadS (d : Dk) : Sp × Int :=
  if (readS d 0).2 ≠ 0 then (sp0, (readS d 0).2)
  else if (readS d 1).2 ≠ 0 then (sp0, (readS d 1).2)
  else if (bestS (readS d 0).1 (readS d 1).1).2 = true then ((bestS (readS d 0).1 (readS d 1).1).1, 0) else (sp0, 20)
def storeS (d : Dk) (x : Sp) : Dk × Int :=
  if (encS x).2 ≠ 0 then (d, (encS x).2)
  else if (writeS d (x.g % 2) (encS x).1).2 ≠ 0 then writeS d (x.g % 2) (encS x).1
  else syncS (writeS d (x.g % 2) (encS x).1).1

theorem dec_err (s : List UInt8) : (decS s).2 ≠ 0 → (decS s).1 = sp0 := by
  unfold decS decD
  split
  · intro _; rfl
  · split
    · split
      · intro _; rfl
      · split
        · intro h; exact absurd rfl h
        · intro _; rfl
    · intro _; rfl
end Go.Proofs.Ytkpfkknldeafkaa
